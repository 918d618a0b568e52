import Derived.Deep.CutBlock
import Derived.Deep.DeepCutAuto
import Derived.Test.YtfmceonbejlhlaaGreatDoorMWs13
namespace Go.Proofs.YtfmceonbejlhlaaGreatDoor
set_option linter.unusedVariables false
structure Tops (E top u2 v1 v2 Ul Vl U V:Nat):Prop where
 e:0<E
 u:U=(top*4294967296+u2)*E+Ul
 v:V=(v1*4294967296+v2)*E+Vl
 ul:Ul<E
 vl:Vl<E
 u2:u2<4294967296
 v2:v2<4294967296
 v1:0<v1
section
variable {E top u2 v1 v2 Ul Vl U V:Nat} (h:Tops E top u2 v1 v2 Ul Vl U V)
include h
theorem Tops.first:U / V≤top / v1:=by
 obtain ⟨he,hu,hv,hul,hvl,h2,h3,h1⟩:=h
 have hQ:U / V*V≤U:=Nat.div_mul_le_self ..
 obtain ⟨Q,hQe⟩:∃ Q,U / V=Q:=⟨_,rfl⟩
 rw [hQe] at hQ ⊢
 rw [Nat.le_div_iff_mul_le h1]
 have a1:Q*v1*(4294967296*E)≤Q*V:=by
  rw [Nat.mul_assoc]
  apply Nat.mul_le_mul_left
  rw [hv]
  have:(v1*4294967296+v2)*E=v1*(4294967296*E)+v2*E:=by grind
  omega
 have a2:U<(top+1)*(4294967296*E):=by
  have b1:(top*4294967296+u2)*E+E≤(top*4294967296+4294967296)*E:=by
   have:(top*4294967296+u2+1)*E≤(top*4294967296+4294967296)*E:=Nat.mul_le_mul_right _ (by omega)
   have e:(top*4294967296+u2+1)*E=(top*4294967296+u2)*E+E:=by grind
   omega
  have b2:(top*4294967296+4294967296)*E=(top+1)*(4294967296*E):=by grind
  omega
 have a3:Q*v1*(4294967296*E)<(top+1)*(4294967296*E):=by omega
 have:=Nat.lt_of_mul_lt_mul_right a3
 omega
theorem Tops.less {q r:Nat} (hq:q*v1+r=top) (ht:r*4294967296+u2<q*v2):U / V<q:=by
 obtain ⟨he,hu,hv,hul,hvl,h2,h3,h1⟩:=h
 have hV:0<V:=by
  rw [hv]
  have:E≤(v1*4294967296+v2)*E:=Nat.le_mul_of_pos_left _ (by omega)
  omega
 rw [Nat.div_lt_iff_lt_mul hV]
 have a1:top*4294967296+u2+1≤q*(v1*4294967296+v2):=by
  have:q*(v1*4294967296+v2)=q*v1*4294967296+q*v2:=by grind
  rw [this,← hq]
  omega
 have a2:(top*4294967296+u2+1)*E≤q*(v1*4294967296+v2)*E:=Nat.mul_le_mul_right _ a1
 have a3:(top*4294967296+u2+1)*E=(top*4294967296+u2)*E+E:=by grind
 have a4:q*V=q*(v1*4294967296+v2)*E+q*Vl:=by rw [hv];grind
 omega
theorem Tops.near {q r:Nat} (hq:q*v1+r=top) (ht:q*v2≤r*4294967296+u2) (hB:q≤4294967296):q≤U / V+1:=by
 obtain ⟨he,hu,hv,hul,hvl,h2,h3,h1⟩:=h
 have hV:0<V:=by
  rw [hv]
  have:E≤(v1*4294967296+v2)*E:=Nat.le_mul_of_pos_left _ (by omega)
  omega
 rcases Nat.eq_zero_or_pos q with h0 | h0
 · rw [h0];exact Nat.zero_le _
 · obtain ⟨p,rfl⟩:∃ p,q=p+1:=⟨q - 1,by omega⟩
   have:p≤U / V:=by
    rw [Nat.le_div_iff_mul_le hV]
    have a1:(p+1)*(v1*4294967296+v2)≤top*4294967296+u2:=by
     have:(p+1)*(v1*4294967296+v2)=(p+1)*v1*4294967296+(p+1)*v2:=by grind
     rw [this,← hq]
     omega
    have a2:(p+1)*(v1*4294967296+v2)*E≤(top*4294967296+u2)*E:=Nat.mul_le_mul_right _ a1
    have a3:p*V≤p*((v1*4294967296+v2+1)*E):=Nat.mul_le_mul_left _ (by
     have:(v1*4294967296+v2+1)*E=(v1*4294967296+v2)*E+E:=by grind
     omega)
    have a4:p*((v1*4294967296+v2+1)*E)≤(p+1)*(v1*4294967296+v2)*E:=by
     rw [← Nat.mul_assoc]
     apply Nat.mul_le_mul_right
     have e1:p*(v1*4294967296+v2+1)=p*(v1*4294967296+v2)+p:=by grind
     have e2:(p+1)*(v1*4294967296+v2)=p*(v1*4294967296+v2)+(v1*4294967296+v2):=by grind
     omega
    omega
   exact Nat.succ_le_succ this
theorem Tops.broken {q r:Nat} (hq:q*v1+r=top) (hr:4294967296≤r) (hU:U<V*4294967296):q<4294967296:=by
 obtain ⟨he,hu,hv,hul,hvl,h2,h3,h1⟩:=h
 have a1:top*(4294967296*E)≤U:=by
  have:(top*4294967296+u2)*E=top*(4294967296*E)+u2*E:=by grind
  omega
 have a2:V*4294967296≤(v1+1)*4294967296*(4294967296*E):=by
  have b1:V≤(v1+1)*4294967296*E:=by
   have c1:(v1*4294967296+v2+1)*E≤(v1+1)*4294967296*E:=Nat.mul_le_mul_right _ (by omega)
   have c2:(v1*4294967296+v2+1)*E=(v1*4294967296+v2)*E+E:=by grind
   omega
  have b2:(v1+1)*4294967296*(4294967296*E)=(v1+1)*4294967296*E*4294967296:=by grind
  rw [b2]
  exact Nat.mul_le_mul_right _ b1
 have a3:top*(4294967296*E)<(v1+1)*4294967296*(4294967296*E):=by omega
 have a4:=Nat.lt_of_mul_lt_mul_right a3
 have a5:q*v1<4294967296*v1:=by
  have:(v1+1)*4294967296=4294967296*v1+4294967296:=by omega
  omega
 exact Nat.lt_of_mul_lt_mul_right a5
end
theorem take_round {Bi W q Vt Ut c b w v u lo hi b':Nat} (hI:W+q*Vt=Ut+Bi*(c+b)) (hc:c+q*v=lo+4294967296*hi) (hw:w+lo+b=u+4294967296*b') :
 (W+Bi*w)+q*(Vt+Bi*v)=(Ut+Bi*u)+Bi*4294967296*(hi+b'):=by
 have e1:Bi*(c+b)+Bi*w+q*(Bi*v)=Bi*(c+q*v+b+w):=by grind
 have e2:Bi*(c+q*v+b+w)=Bi*(lo+b+w+4294967296*hi):=by rw [hc];grind
 have e3:Bi*(lo+b+w+4294967296*hi)=Bi*(u+4294967296*b'+4294967296*hi):=by
  rw [show lo+b+w=u+4294967296*b' by omega]
 have e4:Bi*(u+4294967296*b'+4294967296*hi)=Bi*u+Bi*4294967296*(hi+b'):=by grind
 rw [Nat.mul_add]
 omega
theorem taken {M W q U V b:Nat} (hV:0<V) (hVM:V<M) (hW:W<M) (hI:W+q*V=U+M*b) (hb:b≤1) (h1:U / V≤q) (h2:q≤U / V+1) :
 (b=0→q=U / V∧W=U % V)∧(b=1→q=U / V+1∧W+V=M+U % V):=by
 have hd:U % V+V*(U / V)=U:=Nat.mod_add_div ..
 have hm:U % V<V:=Nat.mod_lt _ hV
 generalize U % V=R at *
 generalize U / V=Q at *
 have hq:q=Q ∨ q=Q+1:=by omega
 constructor
 · intro h0
   subst h0
   rcases hq with rfl | rfl
   · refine ⟨rfl,?_⟩
     have:q*V=V*q:=Nat.mul_comm ..
     omega
   · exfalso
     have:(Q+1)*V=V*Q+V:=by grind
     omega
 · intro h0
   subst h0
   rcases hq with rfl | rfl
   · exfalso
     have:q*V=V*q:=Nat.mul_comm ..
     omega
   · refine ⟨rfl,?_⟩
     have:(Q+1)*V=V*Q+V:=by grind
     omega
open Go.RowKit Go.Proofs.YtfmceonbejlhlaaGreatDoorW.PrintWords Go.Proofs.YtfmceonbejlhlaaGreatDoorW.PrintLast Go.Proofs.YtfmceonbejlhlaaGreatDoorW.PrintMore
set_option linter.unusedVariables false
structure Fr (g:Nat) (w w':World):Prop where
 os:w'.os=w.os
 tape:w'.tape=w.tape
 output:w'.output=w.output
 size:w.heap.size≤w'.heap.size
 block:∀ k,k<w.heap.size→k ≠ g→w'.heap[k]? = w.heap[k]?
theorem Fr.refl (g:Nat) (w:World):Fr g w w:=⟨rfl,rfl,rfl,Nat.le_refl _,fun _ _ _=>rfl⟩
theorem Fr.trans {g:Nat} {a b c:World} (h:Fr g a b) (k:Fr g b c):Fr g a c :=
 ⟨k.os.trans h.os,k.tape.trans h.tape,k.output.trans h.output,Nat.le_trans h.size k.size,fun i hi hg=>(k.block i (Nat.lt_of_lt_of_le hi h.size) hg).trans (h.block i hi hg)⟩
theorem Fr.set {g:Nat} {a w:World} (h:Fr g a w) {p:Addr} (hp:p.block=g) (u:Value):Fr g a (w.setCell p u) :=
 h.trans ⟨rfl,rfl,rfl,by simp [World.setCell],fun k hk hg=>Below.heap_setCell _ _ _ _ (by omega)⟩
theorem Fr.drawn {g:Nat} {a w:World} (h:Fr g a w) (n:Nat):Fr g a (w.drewN n):=h.trans ⟨rfl,rfl,rfl,Nat.le_refl _,fun _ _ _=>rfl⟩
theorem Fr.of_below {g:Nat} {a b w:World} (h:Fr g a w) (hb:Below w.heap.size w b):Fr g a b:=h.trans ⟨hb.os,hb.tape,hb.output,hb.size,fun k hk _=>hb.block k hk⟩
theorem Fr.below {g B:Nat} {w w':World} (h:Fr g w w') (hB:B≤g) (hs:B≤w.heap.size):Below B w w':=⟨h.os,h.tape,h.output,h.size,fun k hk=>h.block k (by omega) (by omega)⟩
theorem Fr.cell {g:Nat} {w w':World} (h:Fr g w w') {p:Addr} {v:Value} (hp:p.block ≠ g) (hc:w.cell? p=some v):w'.cell? p=some v:=by
 have hlt:=block_lt_of_cell hc
 have:=h.block p.block hlt hp
 rw [World.cell?] at hc ⊢
 rw [this]
 exact hc
theorem Fr.lat {g gv o m cv:Nat} {w w':World} {xs:List Nat} (h:Fr g w w') (hne:gv ≠ g) (hl:LAt w (.slice (some ⟨gv,o,none⟩) m cv) xs):LAt w' (.slice (some ⟨gv,o,none⟩) m cv) xs:=by
 obtain ⟨a,c,hv,hc,hlim,hx⟩:=hl
 refine ⟨a,c,hv,hc,hlim,hx.imp id ?_⟩
 rintro ⟨g', o', ha, hg, ⟨cs, fr, ht⟩, hx⟩
 injection hv with e1 e2 e3
 rw [ha] at e1
 injection e1 with e1
 injection e1 with e1 _ _
 subst e1
 exact ⟨gv, o', ha, Nat.lt_of_lt_of_le hg h.size, ⟨cs, fr, (h.block gv hg hne).trans ht⟩, fun i x hi => h.cell (p := ⟨gv, o' + i, none⟩) hne (hx i x hi)⟩
theorem mid_get {pre W post:List Nat} {i:Nat} (hi:i<W.length):(pre ++ W ++ post)[pre.length+i]? = W[i]?:=by
 rw [List.append_assoc,List.getElem?_append_right (by omega),Nat.add_sub_cancel_left,List.getElem?_append_left hi]
theorem mid_set {pre W post:List Nat} {i z:Nat} (hi:i<W.length):(pre ++ W ++ post).set (pre.length+i) z=pre ++ W.set i z ++ post:=by
 rw [List.append_assoc,List.set_append_right _ _ (by omega),Nat.add_sub_cancel_left,List.set_append_left _ _ hi,List.append_assoc]
theorem Lim.mid {pre W post:List Nat} (h:Lim (pre ++ W ++ post)):Lim W:=fun x hx=>h x (by simp [hx])
theorem Lim.remid {pre W W' post:List Nat} (h:Lim (pre ++ W ++ post)) (h':Lim W'):Lim (pre ++ W' ++ post):=fun x hx=>by
 rcases List.mem_append.1 hx with hx | hx
 · rcases List.mem_append.1 hx with hx | hx
   · exact h x (by simp [hx])
   · exact h' x hx
 · exact h x (by simp [hx])
theorem tops_of {Uu Vv:List Nat} {p x1 x2 u2 v1 v2:Nat} (hUl:Uu.length=p+3) (hVl:Vv.length=p+2) (hU:Lim Uu) (hV:Lim Vv) (h1:Uu[p+2]? = some x1) (h2:Uu[p+1]? = some x2) (h3:Uu[p]? = some u2) (h4:Vv[p+1]? = some v1) (h5:Vv[p]? = some v2) (hv:0<v1) :
 Tops (4294967296 ^ p) (x1*4294967296+x2) u2 v1 v2 (val (Uu.take p)) (val (Vv.take p)) (val Uu) (val Vv):=by
 refine ⟨Nat.pow_pos (by decide),?_,?_,Qca hU p (by omega),Qca hV p (by omega),hU.get h3,hV.get h5,hv⟩
 · rw [val_at h3,val_drop h2,val_drop h1,List.drop_of_length_le (by omega)]
   simp only [val]
   grind
 · rw [val_at h5,val_drop h4,List.drop_of_length_le (by omega)]
   simp only [val]
   grind
theorem and_low (a:Nat) (ha:a<18446744073709551616):Go.bits .and .u64 (a:Int) 4294967295=((a % 4294967296:Nat):Int):=by
 have h:=u64_and_nat a 4294967295 ha (by decide)
 rw [show ((4294967295:Nat):Int)=4294967295 from rfl] at h
 rw [h]
 have:=Nat.and_two_pow_sub_one_eq_mod a 32
 rw [show (2:Nat) ^ 32 - 1=4294967295 from rfl,show (2:Nat) ^ 32=4294967296 from rfl] at this
 rw [this]
def TkIn (pre Uu post Vv:List Nat) (g N c base q m:Nat) (w wi:World) (i cy b:Nat) (W:List Nat):Prop :=
 W.length=m+1∧Lim W∧(∀ j,i≤j→j<m+1→W[j]? = Uu[j]?)∧cy<4294967296∧b≤1∧val (W.take i)+q*val (Vv.take i)=val (Uu.take i)+4294967296 ^ i*(cy+b)∧(i=m+1→cy=0)∧LOwn wi base (.slice (some ⟨g,0,none⟩) N c) (pre ++ W ++ post)∧Fr g w wi
theorem TkIn.step {pre Uu post Vv:List Nat} {g N c base q m:Nat} {w wi:World} {i cy b:Nat} {W:List Nat} (h:TkIn pre Uu post Vv g N c base q m w wi i cy b W) {k v u lo hi' wv b':Nat} (hk:pre.length=k) (hi:i<m+1) (hu:Uu[i]? = some u) (hv:val (Vv.take (i+1))=val (Vv.take i)+4294967296 ^ i*v) (hc:cy+q*v=lo+4294967296*hi') (hw:wv+lo+b=u+4294967296*b') (hwl:wv<4294967296) (hil:hi'<4294967296) (hbl:b'≤1) (hz:i=m→hi'=0) :
 TkIn pre Uu post Vv g N c base q m w (wi.setCell ⟨g,k+i,none⟩ (.int .u32 (wv:Int))) (i+1) hi' b' (W.set i wv):=by
 obtain ⟨h1,h2,h3,h4,h5,h6,h7,h8,h9⟩:=h
 have hwi:W[i]? = some u:=by rw [h3 i (Nat.le_refl _) hi];exact hu
 refine ⟨by rw [List.length_set];exact h1,h2.set i hwl,fun j hj hj2=>by rw [List.getElem?_set_ne (by omega)];exact h3 j (by omega) hj2,hil,hbl,?_,fun e=>hz (by omega),?_,h9.set rfl _⟩
 · have e1:val ((W.set i wv).take (i+1))=val (W.take i)+4294967296 ^ i*wv:=by
    rw [Qbn (x:=wv) (by rw [List.getElem?_set_self (by omega)]),List.take_set_of_le (Nat.le_refl i)]
   rw [e1,hv,Qbn hu,Nat.pow_succ]
   exact take_round h6 hc hw
 · have:=h8.stored (k+i) wv
   rw [← hk,mid_set (by omega)] at this
   rw [← hk]
   exact this
def AbIn (pre post Vv:List Nat) (g N c base A m:Nat) (w wi:World) (i cy:Nat) (W:List Nat):Prop :=
 W.length=m+1∧Lim W∧cy≤1∧val W+4294967296 ^ i*cy=A+val (Vv.take i)∧LOwn wi base (.slice (some ⟨g,0,none⟩) N c) (pre ++ W ++ post)∧Fr g w wi
theorem AbIn.step {pre post Vv:List Nat} {g N c base A m:Nat} {w wi:World} {i cy:Nat} {W:List Nat} (h:AbIn pre post Vv g N c base A m w wi i cy W) {k v u lo hi' z:Nat} (hk:pre.length=k) (hi:i<m+1) (hu:W[i]? = some u) (hv:val (Vv.take (i+1))=val (Vv.take i)+4294967296 ^ i*v) (hz:z=cy+u+v) (hlo:z % 4294967296=lo) (hhi:z / 4294967296=hi') (hil:hi'≤1) :
 AbIn pre post Vv g N c base A m w (wi.setCell ⟨g,k+i,none⟩ (.int .u32 (lo:Int))) (i+1) hi' (W.set i lo):=by
 obtain ⟨h1,h2,h3,h4,h5,h6⟩:=h
 refine ⟨by rw [List.length_set];exact h1,h2.set i (by omega),hil,?_,?_,h6.set rfl _⟩
 · have:=add_step hu hz hv h4
   rw [hlo,hhi] at this
   exact this
 · have:=h5.stored (k+i) lo
   rw [← hk,mid_set (by omega)] at this
   rw [← hk]
   exact this
def DgPost (pre Uu post Vv:List Nat) (g m N c base:Nat) (w:World) (e:Ending) (w':World):Prop:=∃ W,e=.returned (.int .u32 ((val Uu / val Vv:Nat):Int))∧W.length=m+1∧Lim (pre ++ W ++ post)∧val W=val Uu % val Vv∧LOwn w' base (.slice (some ⟨g,0,none⟩) N c) (pre ++ W ++ post)∧Fr g w w'
set_option maxHeartbeats 8000000 in
set_option maxRecDepth 100000 in
theorem digit_any (pre Uu post Vv:List Nat) (g k p m N c cu gv ov cv base:Nat) (w:World) (hpre:pre.length=k) (hUl:Uu.length=m+1) (hVl:Vv.length=m) (hpm:p+2=m) (hm4:m≤8192) (hk4:k≤8192) (hlim:Lim (pre ++ Uu ++ post))
 (hO:LOwn w base (.slice (some ⟨g,0,none⟩) N c) (pre ++ Uu ++ post)) (hV:LAt w (.slice (some ⟨gv,ov,none⟩) m cv) Vv) (hne:gv ≠ g) (hv0:Vv[p+1]? ≠ some 0) (hQ:val Uu<val Vv*4294967296) :
 Calls Tryz.prog 199 #[.slice (some ⟨g,k,none⟩) (m+1) cu,.slice (some ⟨gv,ov,none⟩) m cv] w (DgPost pre Uu post Vv g m N c base w):=by
 obtain ⟨x1,h1⟩:=Qbg (xs:=Uu) (i:=m) (by omega)
 obtain ⟨x2,h2⟩:=Qbg (xs:=Uu) (i:=p+1) (by omega)
 obtain ⟨u2,h3⟩:=Qbg (xs:=Uu) (i:=p) (by omega)
 obtain ⟨v1,h4⟩:=Qbg (xs:=Vv) (i:=p+1) (by omega)
 obtain ⟨v2,h5⟩:=Qbg (xs:=Vv) (i:=p) (by omega)
 have hv1:0<v1:=by
  rcases Nat.eq_zero_or_pos v1 with h | h
  · rw [h] at h4;exact absurd h4 hv0
  · exact h
 have hUlim:=hlim.mid
 have hVlim:=hV.lim
 have hT:=tops_of (p:=p) (by omega) (by omega) hUlim hVlim (by rw [hpm];exact h1) h2 h3 h4 h5 hv1
 obtain ⟨top,htop⟩:∃ top,x1*4294967296+x2=top:=⟨_,rfl⟩
 rw [htop] at hT
 obtain ⟨p1,hp1⟩:∃ p1,p+1=p1:=⟨_,rfl⟩
 rw [hp1] at h2 h4
 have x1l:=hUlim.get h1
 have x2l:=hUlim.get h2
 have u2l:=hUlim.get h3
 have v1l:=hVlim.get h4
 have v2l:=hVlim.get h5
 obtain ⟨gv', ov', ev, hgv, hxv⟩ := hV.cells (by omega)
 injection ev with ev
 injection ev with ev1 ev2 _
 subst ev1 ev2
 have cu1:∀ (i x:Nat),Uu[i]? = some x→w.cell? ⟨g,k+i,none⟩=some (.int .u32 (x:Int)):=fun i x hx=>by
  have hlt:=(List.getElem?_eq_some_iff.1 hx).1
  rw [← hpre]
  exact hO.cell (by rw [mid_get hlt];exact hx)
 have d1:=cu1 m x1 h1
 have d2:=cu1 p1 x2 h2
 have d3:=cu1 p u2 h3
 have d4:=hxv p1 v1 h4
 have d5:=hxv p v2 h5
 obtain ⟨q0,hq0⟩:∃ q0,top / v1=q0:=⟨_,rfl⟩
 obtain ⟨r0,hr0⟩:∃ r0,top % v1=r0:=⟨_,rfl⟩
 have hr0l:r0<v1:=by rw [← hr0];exact Nat.mod_lt _ hv1
 have hq0r:q0*v1+r0=top:=by rw [← hq0,← hr0,Nat.mul_comm];exact Nat.div_add_mod ..
 have hq0l:q0≤top:=by rw [← hq0];exact Nat.div_le_self ..
 have hQ0:val Uu / val Vv≤q0:=by rw [← hq0];exact hT.first
 obtain ⟨Q,hQe⟩:∃ Q,val Uu / val Vv=Q:=⟨_,rfl⟩
 rw [hQe] at hQ0
 have hQB:Q<4294967296:=by
  rw [← hQe,Nat.div_lt_iff_lt_mul (by rcases Nat.eq_zero_or_pos (val Vv) with h | h;(rw [h] at hQ;omega);exact h),Nat.mul_comm]
  exact hQ
 have e1:IntKind.i64.wrap ((m:Int) - 1)=(p1:Int):=by rw [IntKind.wrap_i64];omega
 have e2:IntKind.i64.wrap ((m:Int) - 2)=(p:Int):=by rw [IntKind.wrap_i64];omega
 have f1:(m:Int)<((m+1:Nat):Int):=by omega
 have f1':(m:Int)<(m:Int)+1:=by omega
 have f2:(p1:Int)<(m:Int)+1:=by omega
 have f3:(p:Int)<(m:Int)+1:=by omega
 have f4:(p1:Int)<(m:Int):=by omega
 have f5:(p:Int)<(m:Int):=by omega
 have b1:IntKind.u64.wrap (x1:Int)=(x1:Int):=by rw [IntKind.wrap_u64];omega
 have b2:IntKind.u64.wrap (x2:Int)=(x2:Int):=by rw [IntKind.wrap_u64];omega
 have b3:IntKind.u64.wrap (u2:Int)=(u2:Int):=by rw [IntKind.wrap_u64];omega
 have b4:IntKind.u64.wrap (v1:Int)=(v1:Int):=by rw [IntKind.wrap_u64];omega
 have b5:IntKind.u64.wrap (v2:Int)=(v2:Int):=by rw [IntKind.wrap_u64];omega
 have b6:IntKind.u64.wrap ((x1:Int)*4294967296)=(x1:Int)*4294967296:=by rw [IntKind.wrap_u64];omega
 have b7:Go.bits .or .u64 ((x1:Int)*4294967296) (x2:Int)=(top:Int):=by rw [or_32 _ _ (by omega) (by omega) (by omega) (by omega)];omega
 have b8:(top:Int).tdiv (v1:Int)=(q0:Int):=by rw [Int.tdiv_eq_ediv_of_nonneg (by omega),← hq0];exact (Int.natCast_ediv top v1).symm
 have b9:(top:Int).tmod (v1:Int)=(r0:Int):=by rw [Int.tmod_eq_emod_of_nonneg (by omega),← hr0];exact (Int.natCast_emod top v1).symm
 have b10:IntKind.u64.wrap (q0:Int)=(q0:Int):=by rw [IntKind.wrap_u64];omega
 have b11:((v1:Int) == 0)=false:=by simp;omega
 have b12:((v1:Int) != 0)=true:=by simp;omega
 have HT:=Lib.hid hT
 have HV:=Lib.hid hV
 have HO:=Lib.hid hO
 have HS:=Lib.hid (show pre.length=k∧Uu.length=m+1∧Vv.length=m∧Lim (pre ++ Uu ++ post)∧val Uu / val Vv=Q∧p+2=m from ⟨hpre,hUl,hVl,hlim,hQe,hpm⟩)
 have HXV:=Lib.hid hxv
 have HQ:=Lib.hid (show Q<4294967296∧val Uu<val Vv*4294967296∧top<18446744073709551616 from ⟨hQB,hQ,by omega⟩)
 have HQ0:=Lib.hid (show q0*v1+r0=top∧r0<v1∧Q≤q0∧q0≤top from ⟨hq0r,hr0l,hQ0,hq0l⟩)
 have HLm:=Lib.hid (show v1<4294967296∧v2<4294967296∧u2<4294967296 from ⟨v1l,v2l,u2l⟩)
 clear hpre hUl hVl hlim hO hV hv0 hQ h1 h2 h3 h4 h5 hUlim hVlim hT htop hp1 x1l x2l u2l v1l v2l hgv hxv cu1 hq0 hr0 hr0l hq0r hq0l hQ0 hQe hQB hpm
 go_enter Tryz.func199,Tryz.ntmps199
 go_wp2_with fail
 go_quiet (fail)
 go_wp2_with fail
 go_quiet (fail)
 go_upto_block 0 with fail
 go_cut [7,8] from 45 to 80 (fun qv rv wx=>∃ qn:Nat,qv=.int .u64 qn∧Hid (qn<4294967296∧Q≤qn∧qn≤Q+1)∧Hid (∃ κ,wx=w.drewN κ))
 case first =>
  go_wp2_with fail
  go_loopw [7,8] (fun qv rv wi=>∃ (q r:Nat),qv=.int .u64 q∧rv=.int .u64 r∧Hid (q*v1+r=top∧r<4294967296∧Q≤q∧q≤top)∧Hid (∃ κ,wi=w.drewN κ)) (fun qv _ _=>(intOf qv).toNat)
  case atStart=>exact ⟨q0,r0,rfl,rfl,⟨HQ0.out.1,by have:=HQ0.out.2.1;have:=HLm.out.1;omega,HQ0.out.2.2.1,HQ0.out.2.2.2⟩,⟨_,World.drewN_drewN ..⟩⟩
  case round =>
   obtain ⟨q,r,rfl,rfl,HI,HW⟩:=hrel
   obtain ⟨κ,hκ⟩:=HW.out
   subst hκ
   have t4:=(show (w.drewN κ).cell? ⟨gv,ov+p1,none⟩=_ from d4)
   by_cases hqB:q<4294967296
   · have hrl:=HI.out.2.1
     obtain ⟨hl1,hl2,hl3⟩:=HLm.out
     obtain ⟨pr,hpr⟩:∃ pr,q*v2=pr:=⟨_,rfl⟩
     have hprl:pr≤4294967295*4294967295:=by rw [← hpr];exact Nat.mul_le_mul (by omega) (by omega)
     obtain ⟨rr,hrr⟩:∃ rr,r*4294967296+u2=rr:=⟨_,rfl⟩
     have c1:(q:Int) / 4294967296=0:=by omega
     have c2:IntKind.u64.wrap ((q:Int)*(v2:Int))=(pr:Int):=by
      rw [IntKind.wrap_u64,← hpr,Int.natCast_mul]
      have:(q:Int)*(v2:Int)=((q*v2:Nat):Int):=(Int.natCast_mul q v2).symm
      omega
     have c3:IntKind.u64.wrap ((r:Int)*4294967296)=(r:Int)*4294967296:=by rw [IntKind.wrap_u64];omega
     have c4:Go.bits .or .u64 ((r:Int)*4294967296) (u2:Int)=(rr:Int):=by rw [or_32 _ _ (by omega) (by omega) (by omega) (by omega)];omega
     have HP:=Lib.hid (show q*v2=pr∧r*4294967296+u2=rr from ⟨hpr,hrr⟩)
     clear hpr hprl hrr hl2 hl3
     by_cases hcmp:rr<pr
     · have hz:(rr:Int)<(pr:Int):=by omega
       have hless:=HT.out.less HI.out.1 (by rw [HP.out.1,HP.out.2];exact hcmp)
       rw [HS.out.2.2.2.2.1] at hless
       obtain ⟨q', hq'⟩ : ∃ q', q = q' + 1 := ⟨q - 1, by omega⟩
       obtain ⟨r', hr'⟩ : ∃ r', r + v1 = r' := ⟨_, rfl⟩
       have c5:IntKind.u64.wrap ((q:Int) - 1)=(q':Int):=by rw [IntKind.wrap_u64];omega
       have c6:IntKind.u64.wrap ((r:Int)+(v1:Int))=(r':Int):=by rw [IntKind.wrap_u64];omega
       have hnew:q'*v1+r'=top:=by
        have:=HI.out.1
        rw [hq'] at this
        have e:(q'+1)*v1=q'*v1+v1:=by grind
        omega
       have HN:=Lib.hid (show q'*v1+r'=top∧Q≤q'∧q'≤top∧q=q'+1 from ⟨hnew,by omega,by have:=HI.out.2.2.2;omega,hq'⟩)
       clear hless hq' hnew
       by_cases hrB:r'<4294967296
       · have c7:(r':Int) / 4294967296=0:=by omega
         have HRB:=Lib.hid hrB
         go_wp2_with fail
         go_big_quiet (fail)
         go_wp2
         go_roundw
         case rel => exact ⟨q', r', rfl, rfl, ⟨HN.out.1, HRB.out, HN.out.2.1, HN.out.2.2.1⟩, ⟨_, rfl⟩⟩
         case measure=>have:=HN.out.2.2.2;(simp [intOf] <;> omega)
       · have c7:(r':Int) / 4294967296=1:=by omega
         have hbr:=HT.out.broken HN.out.1 (by omega) HQ.out.2.1
         have hnr:=HT.out.near HN.out.1 (by
          have h1:q'*v2≤4294967295*4294967295:=Nat.mul_le_mul (by omega) (by have:=HLm.out.2.1;omega)
          omega) (by omega)
         rw [HS.out.2.2.2.2.1] at hnr
         have HB:=Lib.hid (show q'<4294967296∧Q≤q'∧q'≤Q+1 from ⟨hbr,HN.out.2.1,hnr⟩)
         clear hbr hnr
         go_wp2_with fail
         go_big_quiet (fail)
         go_wp2_with fail
         go_meet
         exact ⟨q', rfl, HB.out, ⟨_, rfl⟩⟩
     · have hz:¬ (pr:Int) > (rr:Int):=by omega
       have hnr:=HT.out.near HI.out.1 (by rw [HP.out.1,HP.out.2];omega) (by omega)
       rw [HS.out.2.2.2.2.1] at hnr
       have HB:=Lib.hid (show q<4294967296∧Q≤q∧q≤Q+1 from ⟨hqB,HI.out.2.2.1,hnr⟩)
       clear hnr
       go_wp2_with fail
       go_big_quiet (fail)
       go_wp2_with fail
       go_meet
       exact ⟨q,rfl,HB.out,⟨_,World.drewN_drewN ..⟩⟩
   · have hrl:=HI.out.2.1
     obtain ⟨hl1,hl2,hl3⟩:=HLm.out
     obtain ⟨hh,hhe⟩:∃ h,q / 4294967296=h:=⟨_,rfl⟩
     have hqt:q<18446744073709551616:=by have:=HI.out.2.2.2;have:=HQ.out.2.2;omega
     have c1:(q:Int) / 4294967296=(hh:Int):=by omega
     have c2:decide ((0:Int)<(hh:Int))=true:=decide_eq_true (by omega)
     have c2b:decide (0<hh)=true:=decide_eq_true (by omega)
     have hless:Q<q:=by have:=HQ.out.1;omega
     obtain ⟨q', hq'⟩ : ∃ q', q = q' + 1 := ⟨q - 1, by omega⟩
     obtain ⟨r', hr'⟩ : ∃ r', r + v1 = r' := ⟨_, rfl⟩
     have c5:IntKind.u64.wrap ((q:Int) - 1)=(q':Int):=by rw [IntKind.wrap_u64];omega
     have c6:IntKind.u64.wrap ((r:Int)+(v1:Int))=(r':Int):=by rw [IntKind.wrap_u64];omega
     have hnew:q'*v1+r'=top:=by
      have:=HI.out.1
      rw [hq'] at this
      have e:(q'+1)*v1=q'*v1+v1:=by grind
      omega
     have HN:=Lib.hid (show q'*v1+r'=top∧Q≤q'∧q'≤top∧q=q'+1 from ⟨hnew,by omega,by have:=HI.out.2.2.2;omega,hq'⟩)
     clear hless hq' hnew hhe hqt hl2 hl3
     by_cases hrB:r'<4294967296
     · have c7:(r':Int) / 4294967296=0:=by omega
       have HRB:=Lib.hid hrB
       go_wp2_with fail
       go_big_quiet (fail)
       go_wp2
       go_roundw
       case rel => exact ⟨q', r', rfl, rfl, ⟨HN.out.1, HRB.out, HN.out.2.1, HN.out.2.2.1⟩, ⟨_, rfl⟩⟩
       case measure=>have:=HN.out.2.2.2;(simp [intOf] <;> omega)
     · have c7:(r':Int) / 4294967296=1:=by omega
       have hbr:=HT.out.broken HN.out.1 (by omega) HQ.out.2.1
       have hnr:=HT.out.near HN.out.1 (by
        have h1:q'*v2≤4294967295*4294967295:=Nat.mul_le_mul (by omega) (by have:=HLm.out.2.1;omega)
        omega) (by omega)
       rw [HS.out.2.2.2.2.1] at hnr
       have HB:=Lib.hid (show q'<4294967296∧Q≤q'∧q'≤Q+1 from ⟨hbr,HN.out.2.1,hnr⟩)
       clear hbr hnr
       go_wp2_with fail
       go_big_quiet (fail)
       go_wp2_with fail
       go_meet
       exact ⟨q', rfl, HB.out, ⟨_, rfl⟩⟩
 case rest =>
  obtain ⟨q,rfl,HB,HW⟩:=hcut
  obtain ⟨κ,hκ⟩:=HW.out
  subst hκ
  have hI0:TkIn pre Uu post Vv g N c base q m w (w.drewN κ) 0 0 0 Uu:=⟨HS.out.2.1,HS.out.2.2.2.1.mid,fun _ _ _=>rfl,by omega,by omega,by simp [val],fun e=>by omega,HO.out.drawn κ,(Fr.refl g w).drawn κ⟩
  have HI0:=Lib.hid hI0
  clear hI0 d1 d2 d3 d4 d5 b6 b7 b8 b9 b10
  go_wp2_with fail
  go_loopw [83,9,10] (fun iv cv bv wi=>∃ (i cy b:Nat) (W:List Nat),i≤m+1∧iv=.int .i64 i∧cv=.int .u64 cy∧bv=.int .u64 b∧Hid (TkIn pre Uu post Vv g N c base q m w wi i cy b W)) (fun iv _ _ _=>m+1 - (intOf iv).toNat)
  case atStart=>exact ⟨0,0,0,Uu,by omega,rfl,rfl,rfl,HI0⟩
  case round =>
   clear HI0
   obtain ⟨i,cy,b,W,hi,rfl,rfl,rfl,HI⟩:=hrel
   by_cases hlt:i<m+1
   · obtain ⟨u,hu⟩:=Qbg (xs:=Uu) (i:=i) (by have:=HS.out.2.1;omega)
     have hul:=HS.out.2.2.2.1.mid.get hu
     have hcyl:=HI.out.2.2.2.1
     have hbl:=HI.out.2.2.2.2.1
     have hqB:=HB.out.1
     have cu1:wr.cell? ⟨g,k+i,none⟩=some (.int .u32 (u:Int)):=by
      have h1:=HI.out.1
      rw [← HS.out.1]
      exact HI.out.2.2.2.2.2.2.2.1.cell (by rw [mid_get (by omega),HI.out.2.2.1 i (Nat.le_refl _) hlt];exact hu)
     have cu2:wr.frozen? ⟨g,k+i,none⟩=false:=HI.out.2.2.2.2.2.2.2.1.fz (k+i)
     have f9:(i:Int)<(m:Int)+1:=by omega
     by_cases him:i<m
     · obtain ⟨v,hv⟩:=Qbg (xs:=Vv) (i:=i) (by have:=HS.out.2.2.1;omega)
       have hvl:=HV.out.lim.get hv
       have hvv:=Qbn hv
       have cv1:wr.cell? ⟨gv,ov+i,none⟩=some (.int .u32 (v:Int)):=HI.out.2.2.2.2.2.2.2.2.cell (p:=⟨gv,ov+i,none⟩) hne (HXV.out i v hv)
       obtain ⟨pq,hpq⟩:∃ pq,q*v=pq:=⟨_,rfl⟩
       have hpql:pq≤4294967295*4294967295:=by rw [← hpq];exact Nat.mul_le_mul (by omega) (by omega)
       obtain ⟨c2,hc2⟩:∃ c2,cy+pq=c2:=⟨_,rfl⟩
       have HC2:cy+q*v=c2:=by rw [hpq];exact hc2
       have hc2l:c2<18446744073709551616:=by omega
       have f10:(i:Int)<(m:Int):=by omega
       have g9:IntKind.u64.wrap (v:Int)=(v:Int):=by rw [IntKind.wrap_u64];omega
       have g10:IntKind.u64.wrap ((q:Int)*(v:Int))=(pq:Int):=by
        rw [IntKind.wrap_u64,← hpq,Int.natCast_mul]
        have:(q:Int)*(v:Int)=((q*v:Nat):Int):=(Int.natCast_mul q v).symm
        omega
       have g11:IntKind.u64.wrap ((cy:Int)+(pq:Int))=(c2:Int):=by rw [IntKind.wrap_u64];omega
       have hzz:∀ hh,c2 / 4294967296=hh→i=m→hh=0:=fun hh _ e=>by omega
       have hc2b:c2 / 4294967296<4294967296:=by omega
       clear hv hvl hpq hpql hc2
       obtain ⟨lo,hlo⟩:∃ lo,c2 % 4294967296=lo:=⟨_,rfl⟩
       obtain ⟨hh,hhh⟩:∃ hh,c2 / 4294967296=hh:=⟨_,rfl⟩
       obtain ⟨t1,ht1⟩:∃ t1,(u+18446744073709551616 - lo) % 18446744073709551616=t1:=⟨_,rfl⟩
       obtain ⟨X,hX⟩:∃ X,(u+18446744073709551616 - lo - b) % 18446744073709551616=X:=⟨_,rfl⟩
       obtain ⟨wv,hwv⟩:∃ wv,X % 4294967296=wv:=⟨_,rfl⟩
       obtain ⟨b', hb'⟩ : ∃ b', X / 9223372036854775808 = b' := ⟨_, rfl⟩
       have g1:Go.bits .and .u64 (c2:Int) 4294967295=(lo:Int):=by rw [and_low c2 hc2l,hlo]
       have g2:IntKind.u64.wrap ((u:Int) - (lo:Int))=(t1:Int):=by rw [IntKind.wrap_u64];omega
       have g3:IntKind.u64.wrap ((t1:Int) - (b:Int))=(X:Int):=by rw [IntKind.wrap_u64];omega
       have g4:IntKind.u32.wrap (X:Int)=(wv:Int):=by rw [IntKind.wrap_u32];omega
       have g5:(X:Int) / 9223372036854775808=(b':Int):=by omega
       have g6:(c2:Int) / 4294967296=(hh:Int):=by omega
       have g7:IntKind.u64.wrap (u:Int)=(u:Int):=by rw [IntKind.wrap_u64];omega
       have g8:IntKind.i64.wrap ((i:Int)+1)=(i:Int)+1:=by rw [IntKind.wrap_i64];omega
       have hnew:=HI.out.step HS.out.1 hlt hu hvv (lo:=lo) (hi':=hh) (wv:=wv) (b':=b') (by rw [HC2];omega) (by omega) (by omega) (by omega) (by omega) (hzz hh hhh)
       have HNew:=Lib.hid hnew
       clear hnew hlo hhh ht1 hX hwv hb' hu hvv HC2 hc2l hzz hul
       go_wp2
       go_roundw
       case rel => exact ⟨i + 1, hh, b', W.set i wv, by omega, by go_num, rfl, rfl, HNew⟩
       case measure=>(simp [intOf] <;> omega)
     · obtain rfl:i=m:=by omega
       have hvv:val (Vv.take (i+1))=val (Vv.take i)+4294967296 ^ i*0:=take_succ_ge (by have:=HS.out.2.2.1;omega)
       obtain ⟨c2,hc2⟩:∃ c2,cy=c2:=⟨_,rfl⟩
       subst hc2
       have c2e:cy=cy:=rfl
       have HC2:cy+q*0=cy:=by omega
       have hc2l:cy<18446744073709551616:=by omega
       have f10:¬ (i:Int)<(i:Int):=by omega
       have hzz:∀ hh,cy / 4294967296=hh→i=i→hh=0:=fun hh h1 _=>by omega
       clear c2e
       obtain ⟨lo,hlo⟩:∃ lo,cy % 4294967296=lo:=⟨_,rfl⟩
       obtain ⟨hh,hhh⟩:∃ hh,cy / 4294967296=hh:=⟨_,rfl⟩
       obtain ⟨t1,ht1⟩:∃ t1,(u+18446744073709551616 - lo) % 18446744073709551616=t1:=⟨_,rfl⟩
       obtain ⟨X,hX⟩:∃ X,(u+18446744073709551616 - lo - b) % 18446744073709551616=X:=⟨_,rfl⟩
       obtain ⟨wv,hwv⟩:∃ wv,X % 4294967296=wv:=⟨_,rfl⟩
       obtain ⟨b', hb'⟩ : ∃ b', X / 9223372036854775808 = b' := ⟨_, rfl⟩
       have g1:Go.bits .and .u64 (cy:Int) 4294967295=(lo:Int):=by rw [and_low cy hc2l,hlo]
       have g2:IntKind.u64.wrap ((u:Int) - (lo:Int))=(t1:Int):=by rw [IntKind.wrap_u64];omega
       have g3:IntKind.u64.wrap ((t1:Int) - (b:Int))=(X:Int):=by rw [IntKind.wrap_u64];omega
       have g4:IntKind.u32.wrap (X:Int)=(wv:Int):=by rw [IntKind.wrap_u32];omega
       have g5:(X:Int) / 9223372036854775808=(b':Int):=by omega
       have g6:(cy:Int) / 4294967296=(hh:Int):=by omega
       have g7:IntKind.u64.wrap (u:Int)=(u:Int):=by rw [IntKind.wrap_u64];omega
       have g8:IntKind.i64.wrap ((i:Int)+1)=(i:Int)+1:=by rw [IntKind.wrap_i64];omega
       have hnew:=HI.out.step HS.out.1 hlt hu hvv (lo:=lo) (hi':=hh) (wv:=wv) (b':=b') (by rw [HC2];omega) (by omega) (by omega) (by omega) (by omega) (hzz hh hhh)
       have HNew:=Lib.hid hnew
       clear hnew hlo hhh ht1 hX hwv hb' hu hvv HC2 hc2l hzz hul
       go_wp2
       go_roundw
       case rel => exact ⟨i + 1, hh, b', W.set i wv, by omega, by go_num, rfl, rfl, HNew⟩
       case measure=>(simp [intOf] <;> omega)
   · obtain rfl:i=m+1:=by omega
     obtain ⟨t1,t2,t3,t4,t5,t6,t7,t8,t9⟩:=HI.out
     obtain rfl:cy=0:=t7 rfl
     have hUl:=HS.out.2.1
     have hVl:=HS.out.2.2.1
     rw [List.take_of_length_le (by omega),List.take_of_length_le (by omega),List.take_of_length_le (by omega),Nat.zero_add] at t6
     have hVlt:=val_lt Vv HV.out.lim
     rw [hVl] at hVlt
     have hWlt:=val_lt W t2
     rw [t1] at hWlt
     have hV0:0<val Vv:=by
      rcases Nat.eq_zero_or_pos (val Vv) with h | h
      · have:=HQ.out.2.1
        rw [h] at this
        omega
      · exact h
     have hM:val Vv<4294967296 ^ (m+1):=Nat.lt_of_lt_of_le hVlt (Nat.pow_le_pow_right (by decide) (by omega))
     obtain ⟨k0,k1⟩:=taken hV0 hM hWlt t6 t5 (by rw [HS.out.2.2.2.2.1];exact HB.out.2.1) (by rw [HS.out.2.2.2.2.1];exact HB.out.2.2)
     have f9:¬ ((m+1:Nat):Int)<(m:Int)+1:=by omega
     have hlimW:Lim (pre ++ W ++ post):=HS.out.2.2.2.1.remid t2
     by_cases hb0:b=0
     · subst hb0
       obtain ⟨e1,e2⟩:=k0 rfl
       have HR:=Lib.hid (show DgPost pre Uu post Vv g m N c base w (.returned (.int .u32 (q:Int))) wr from ⟨W,by rw [← e1],t1,hlimW,e2,t8,t9⟩)
       have g1:IntKind.u32.wrap (q:Int)=(q:Int):=by have:=HB.out.1;rw [IntKind.wrap_u32];omega
       clear t1 t2 t3 t4 t5 t6 t7 t8 t9 hUl hVl hVlt hWlt hV0 hM k0 k1 hlimW e1 e2
       go_wp2
       exact bodyPost_ret (v:=.int .u32 q) (by simp [results,Tryz.results199,go_sem]) rfl HR.out
     · obtain rfl:b=1:=by omega
       obtain ⟨e1,e2⟩:=k1 rfl
       obtain ⟨A,hA⟩:∃ A,val W=A:=⟨_,rfl⟩
       rw [hA] at e2
       have hI0:AbIn pre post Vv g N c base A m w wr 0 0 W:=⟨t1,t2,by omega,by rw [hA];simp [val],t8,t9⟩
       have HI0:=Lib.hid hI0
       have HE:=Lib.hid (show q=val Uu / val Vv+1∧A+val Vv=4294967296 ^ (m+1)+val Uu % val Vv from ⟨e1,e2⟩)
       clear t1 t2 t3 t4 t5 t6 t7 t8 t9 hUl hVl hVlt hWlt hV0 hM k0 k1 hlimW e1 e2 hA hI0 HI
       go_wp2_with fail
       go_loopw [124,9] (fun iv cv wi=>∃ (i cy:Nat) (W:List Nat),i≤m+1∧iv=.int .i64 i∧cv=.int .u64 cy∧Hid (AbIn pre post Vv g N c base A m w wi i cy W)) (fun iv _ _=>m+1 - (intOf iv).toNat)
       case atStart=>exact ⟨0,0,W,by omega,rfl,rfl,HI0⟩
       case round =>
        clear HI0
        obtain ⟨i,cy,W,hi,rfl,rfl,HI⟩:=hrel
        by_cases hlt:i<m+1
        · obtain ⟨u,hu⟩:=Qbg (xs:=W) (i:=i) (by have:=HI.out.1;omega)
          have hul:=HI.out.2.1.get hu
          have hcyl:=HI.out.2.2.1
          have cu1:wr.cell? ⟨g,k+i,none⟩=some (.int .u32 (u:Int)):=by
           have h1:=HI.out.1
           rw [← HS.out.1]
           exact HI.out.2.2.2.2.1.cell (by rw [mid_get (by omega)];exact hu)
          have cu2:wr.frozen? ⟨g,k+i,none⟩=false:=HI.out.2.2.2.2.1.fz (k+i)
          have f10:(i:Int)<(m:Int)+1:=by omega
          have g7:IntKind.u64.wrap (u:Int)=(u:Int):=by rw [IntKind.wrap_u64];omega
          obtain ⟨s1,hs1⟩:∃ s1,cy+u=s1:=⟨_,rfl⟩
          have g8:IntKind.u64.wrap ((cy:Int)+(u:Int))=(s1:Int):=by rw [IntKind.wrap_u64];omega
          have g12:IntKind.i64.wrap ((i:Int)+1)=(i:Int)+1:=by rw [IntKind.wrap_i64];omega
          by_cases him:i<m
          · obtain ⟨v,hv⟩:=Qbg (xs:=Vv) (i:=i) (by have:=HS.out.2.2.1;omega)
            have hvl:=HV.out.lim.get hv
            have hvv:=Qbn hv
            have cv1:wr.cell? ⟨gv,ov+i,none⟩=some (.int .u32 (v:Int)):=HI.out.2.2.2.2.2.cell (p:=⟨gv,ov+i,none⟩) hne (HXV.out i v hv)
            have f11:(i:Int)<(m:Int):=by omega
            have g9:IntKind.u64.wrap (v:Int)=(v:Int):=by rw [IntKind.wrap_u64];omega
            obtain ⟨z,hz'⟩:∃ z,s1+v=z:=⟨_,rfl⟩
            have g10:IntKind.u64.wrap ((s1:Int)+(v:Int))=(z:Int):=by rw [IntKind.wrap_u64];omega
            have hz:z=cy+u+v:=by omega
            clear hv
            have hlow:=low_any z
            obtain ⟨lo,hlo⟩:∃ lo,z % 4294967296=lo:=⟨_,rfl⟩
            obtain ⟨hh,hhh⟩:∃ hh,z / 4294967296=hh:=⟨_,rfl⟩
            rw [hlo,hhh] at hlow
            have HLow:=Lib.hid fun W=>hlow W (by omega)
            have hnew:=HI.out.step HS.out.1 hlt hu hvv hz hlo hhh (by omega)
            have HNew:=Lib.hid hnew
            have HHH:=Lib.hid (show hh≤1 from by omega)
            clear hnew hlow hlo hhh hu hvv hz hul hcyl
            go_wp2_with (go_at_call 131;refine (HLow.out _).mono ?_;rintro e w5 ⟨he,hw⟩;subst he;subst hw)
            go_roundw
            case rel=>exact ⟨i+1,hh,W.set i lo,by omega,by go_num,rfl,HNew⟩
            case measure=>(simp [intOf] <;> omega)
          · have hvv:val (Vv.take (i+1))=val (Vv.take i)+4294967296 ^ i*0:=take_succ_ge (by have:=HS.out.2.2.1;omega)
            have f11:¬ (i:Int)<(m:Int):=by omega
            obtain ⟨z,hz'⟩:∃ z,s1=z:=⟨_,rfl⟩
            subst hz'
            have hz:s1=cy+u+0:=by omega
            have hlow:=low_any s1
            obtain ⟨lo,hlo⟩:∃ lo,s1 % 4294967296=lo:=⟨_,rfl⟩
            obtain ⟨hh,hhh⟩:∃ hh,s1 / 4294967296=hh:=⟨_,rfl⟩
            rw [hlo,hhh] at hlow
            have HLow:=Lib.hid fun W=>hlow W (by omega)
            have hnew:=HI.out.step HS.out.1 hlt hu hvv hz hlo hhh (by omega)
            have HNew:=Lib.hid hnew
            have HHH:=Lib.hid (show hh≤1 from by omega)
            clear hnew hlow hlo hhh hu hvv hz hul hcyl
            go_wp2_with (go_at_call 131;refine (HLow.out _).mono ?_;rintro e w5 ⟨he,hw⟩;subst he;subst hw)
            go_roundw
            case rel=>exact ⟨i+1,hh,W.set i lo,by omega,by go_num,rfl,HNew⟩
            case measure=>(simp [intOf] <;> omega)
        · obtain rfl:i=m+1:=by omega
          have f10:¬ ((m+1:Nat):Int)<(m:Int)+1:=by omega
          obtain ⟨t1,t2,t3,t4,t5,t6⟩:=HI.out
          rw [List.take_of_length_le (by have:=HS.out.2.2.1;omega),HE.out.2] at t4
          have hWlt:=val_lt W t2
          rw [t1] at hWlt
          have hc1:cy=1:=by
           rcases Nat.eq_zero_or_pos cy with h | h
           · subst h
             omega
           · omega
          subst hc1
          have hfin:val W=val Uu % val Vv:=by
           rw [Nat.mul_one,Nat.add_comm] at t4
           exact Nat.add_left_cancel t4
          have hq':q - 1=val Uu / val Vv:=by rw [HE.out.1,Nat.add_sub_cancel]
          obtain ⟨q', hq1⟩ : ∃ q', q - 1 = q' := ⟨_, rfl⟩
          have HR := Lib.hid (show DgPost pre Uu post Vv g m N c base w (.returned (.int .u32 (q' : Int))) wr from ⟨W, by rw [← hq', hq1], t1, HS.out.2.2.2.1.remid t2, hfin, t5, t6⟩)
          have hqp:1≤q:=by rw [HE.out.1];exact Nat.le_add_left ..
          have hqb:=HB.out.1
          have g1:IntKind.u64.wrap ((q:Int) - 1)=(q':Int):=by rw [IntKind.wrap_u64];omega
          have g2:IntKind.u32.wrap (q':Int)=(q':Int):=by rw [IntKind.wrap_u32];omega
          clear t1 t2 t3 t4 t5 t6 hWlt hfin hq' hq1 hqp hqb
          go_wp2
          exact bodyPost_ret (v:=.int .u32 q') (by simp [results,Tryz.results199,go_sem]) rfl HR.out
end Go.Proofs.YtfmceonbejlhlaaGreatDoor
