import Derived.Test.YtfmceonbejlhlaaGreatDoorMWs9
namespace Go.Proofs.YtfmceonbejlhlaaGreatDoor
open Go.RowKit Go.Proofs.YtfmceonbejlhlaaGreatDoorW.PrintWords Go.Proofs.YtfmceonbejlhlaaGreatDoorW.PrintLast Go.Proofs.YtfmceonbejlhlaaGreatDoorW.PrintMore
set_option linter.unusedVariables false
theorem val_at {xs:List Nat} {i x:Nat} (h:xs[i]? = some x):val xs=val (xs.take i)+4294967296 ^ i*(x+4294967296*val (xs.drop (i+1))):=by
 have hi:=(List.getElem?_eq_some_iff.1 h).1
 rw [val_take_drop xs i (by omega),List.drop_eq_getElem_cons hi,val]
 have:xs[i]=x:=by rw [List.getElem?_eq_getElem hi] at h;injection h
 rw [this]
theorem Lim.take {xs:List Nat} (h:Lim xs) (n:Nat):Lim (xs.take n):=fun x hx=>h x (List.mem_of_mem_take hx)
theorem Lim.drop {xs:List Nat} (h:Lim xs) (n:Nat):Lim (xs.drop n):=fun x hx=>h x (List.mem_of_mem_drop hx)
theorem Qca {xs:List Nat} (h:Lim xs) (i:Nat) (hi:i≤xs.length):val (xs.take i)<4294967296 ^ i:=by
 have:=val_lt _ (h.take i)
 rwa [List.length_take,Nat.min_eq_left hi] at this
theorem val_lt_of {xs ys:List Nat} {i x y:Nat} (hx:xs[i]? = some x) (hy:ys[i]? = some y) (hL:Lim xs) (hd:val (xs.drop (i+1))=val (ys.drop (i+1))) (hlt:x<y):val xs<val ys:=by
 have h1:=Qca hL i (by have:=(List.getElem?_eq_some_iff.1 hx).1;omega)
 rw [val_at hx,val_at hy,hd]
 have h2:4294967296 ^ i*(x+1+4294967296*val (ys.drop (i+1)))≤4294967296 ^ i*(y+4294967296*val (ys.drop (i+1))):=Nat.mul_le_mul_left _ (by omega)
 have h3:4294967296 ^ i*(x+1+4294967296*val (ys.drop (i+1)))=4294967296 ^ i+4294967296 ^ i*(x+4294967296*val (ys.drop (i+1))):=by grind
 omega
theorem len_lt {a b:Nat} (h:(limbs a).length<(limbs b).length):a<b:=by
 by_cases hlt:a<b
 · exact hlt
 · have hb:b<4294967296 ^ (limbs a).length:=by
    have:=val_lt _ (Qay a)
    rw [Qap] at this
    omega
   have:=Qb6 hb
   omega
def cmpF (a b:Nat):Int:=if a<b then -1 else if b<a then 1 else 0
set_option maxHeartbeats 4000000 in
set_option maxRecDepth 100000 in
theorem cmp_any (xs ys:List Nat) (v u:Value) (w:World) (h1:LAt w v xs) (h2:LAt w u ys) (hs1:xs.length≤1099511627776) (hs2:ys.length≤1099511627776) :
 Calls Tryz.prog 157 #[v,u] w (Ret (.int .i64 (cmpF (val xs) (val ys))) w):=by
 obtain ⟨A,hA⟩:∃ A,val xs=A:=⟨_,rfl⟩
 obtain ⟨B,hB⟩:∃ B,val ys=B:=⟨_,rfl⟩
 have hla:(limbs A).length≤1099511627776:=by
  have h:=val_lt xs h1.lim
  rw [hA] at h
  have:=Qb6 h
  omega
 have hlb:(limbs B).length≤1099511627776:=by
  have h:=val_lt ys h2.lim
  rw [hB] at h
  have:=Qb6 h
  omega
 have HT1:=Lib.hid (Qbq xs v w h1 hs1)
 have HT2:=Lib.hid fun W (hb:Below w.heap.size w W)=>Qbq ys u W (h2.below hb) hs2
 rw [hA] at HT1 ⊢
 rw [hB] at HT2 ⊢
 have HLN:=Lib.hid (show (limbs A).length≤1099511627776∧(limbs B).length≤1099511627776 from ⟨hla,hlb⟩)
 clear hA hB h1 h2 hs1 hs2 hla hlb
 obtain ⟨n,hn⟩:∃ n,(limbs A).length=n:=⟨_,rfl⟩
 obtain ⟨m,hm⟩:∃ m,(limbs B).length=m:=⟨_,rfl⟩
 have HN:=Lib.hid (show (limbs A).length=n∧(limbs B).length=m from ⟨hn,hm⟩)
 clear hn hm
 have e0:IntKind.i64.wrap ((n:Int) - 1)=(n:Int) - 1:=by have:=HLN.out.1;have:=HN.out.1;rw [IntKind.wrap_i64];omega
 by_cases hnm:n=m
 · subst hnm
   go_enter Tryz.func157,Tryz.ntmps157
   go_wp2_with (first
    | (go_at_call 130;refine HT1.out.mono ?_;rintro e w1 ⟨v1,he,hl1,hb1⟩;subst he;obtain ⟨a1,c1,hv1,hc1⟩:=hl1.slice;rw [HN.out.1] at hv1;subst hv1;have HL1:=Lib.hid hl1;have HB1:=Lib.hid hb1;clear hb1 hl1 hc1 HT1)
    | (go_at_call 130;refine (HT2.out w1 HB1.out).mono ?_;rintro e w2 ⟨v2,he,hl2,hb2⟩;subst he;obtain ⟨a2,c2,hv2,hc2⟩:=hl2.slice;rw [HN.out.2] at hv2;subst hv2;have HL2:=Lib.hid hl2;have HL12:=Lib.hid (HL1.out.below hb2);have HB2:=Lib.hid (HB1.out.trans (hb2.mono HB1.out.size));clear hb2 hl2 hc2 HT2))
   go_loopw [5] (fun s wr=>∃ k:Nat,k≤n∧s=.int .i64 ((k:Int) - 1)∧Hid (Below w2.heap.size w2 wr)∧Hid (val ((limbs A).drop k)=val ((limbs B).drop k))) (fun s _=>(intOf s+1).toNat)
   case atStart =>
    refine ⟨n,Nat.le_refl _,rfl,Below.refl _ _,?_⟩
    · show val _=val _;rw [List.drop_eq_nil_of_le (by have:=HN.out.1;omega),List.drop_eq_nil_of_le (by have:=HN.out.2;omega)]
   case round =>
    obtain ⟨k,hk,rfl,HB,HD⟩:=hrel
    by_cases h0:0<k
    · obtain ⟨i,hi⟩:∃ i,k=i+1:=⟨k - 1,by omega⟩
      obtain ⟨g1,o1,e1,hg1,hx1⟩:=HL12.out.cells (by omega)
      obtain ⟨g2,o2,e2,hg2,hx2⟩:=HL2.out.cells (by omega)
      subst e1 e2
      obtain ⟨x,hx⟩:∃ x,(limbs A)[i]? = some x:=⟨_,List.getElem?_eq_getElem (by have:=HN.out.1;omega)⟩
      obtain ⟨y,hy⟩:∃ y,(limbs B)[i]? = some y:=⟨_,List.getElem?_eq_getElem (by have:=HN.out.2;omega)⟩
      have d1:=(HB.out.cell (p:=⟨g1,o1+i,none⟩) hg1).trans (hx1 i x hx)
      have d2:=(HB.out.cell (p:=⟨g2,o2+i,none⟩) hg2).trans (hx2 i y hy)
      have ei:((k:Int) - 1)=(i:Int):=by omega
      rw [ei]
      have f1:(0:Int)≤(i:Int):=by omega
      have f2:(i:Int)<(n:Int):=by omega
      have HX:=Lib.hid (show (limbs A)[i]? = some x∧(limbs B)[i]? = some y∧k=i+1 from ⟨hx,hy,hi⟩)
      clear hx hy hx1 hx2 ei hi hg1 hg2
      by_cases hxy:x<y
      · have g1':(x:Int)<(y:Int):=by omega
        have hAB:A<B:=by
         have:=val_lt_of HX.out.1 HX.out.2.1 (Qay A) (by have:=HD.out;rw [HX.out.2.2] at this;exact this) hxy
         rwa [Qap,Qap] at this
        have HAB:=Lib.hid hAB
        clear hAB
        go_wp2_with fail
        go_quiet (fail)
        go_wp2
        exact bodyPost_ret (v:=.int .i64 (-1)) (by simp [results,Tryz.results157,go_sem]) rfl ⟨by rw [cmpF,if_pos HAB.out],HB2.out.trans ((Qab HB.out _).mono HB2.out.size)⟩
      · have g1':¬ (x:Int)<(y:Int):=by omega
        by_cases hyx:y<x
        · have g2':(y:Int)<(x:Int):=by omega
          have hAB:B<A:=by
           have:=val_lt_of HX.out.2.1 HX.out.1 (Qay B) (by have:=HD.out;rw [HX.out.2.2] at this;exact this.symm) hyx
           rwa [Qap,Qap] at this
          have HAB:=Lib.hid hAB
          clear hAB
          go_wp2_with fail
          go_quiet (fail)
          go_wp2_with fail
          go_quiet (fail)
          go_wp2
          exact bodyPost_ret (v:=.int .i64 1) (by simp [results,Tryz.results157,go_sem]) rfl ⟨by rw [cmpF,if_neg (by have:=HAB.out;omega),if_pos HAB.out],HB2.out.trans ((Qab (Qab HB.out _) _).mono HB2.out.size)⟩
        · have g2':¬ (y:Int)<(x:Int):=by omega
          have e3:IntKind.i64.wrap ((i:Int) - 1)=(i:Int) - 1:=by have:=HLN.out.1;have:=HN.out.1;rw [IntKind.wrap_i64];omega
          go_wp2_with fail
          go_quiet (fail)
          go_wp2_with fail
          go_quiet (fail)
          go_wp2
          go_roundw
          case rel =>
           refine ⟨i,by have:=HX.out.2.2;omega,rfl,Qab HB.out _,?_⟩
           have hk1:=HX.out.2.2
           have hD:=HD.out
           rw [hk1] at hD
           have hlt:i<(limbs A).length:=by have:=HN.out.1;omega
           have hlt2:i<(limbs B).length:=by have:=HN.out.2;omega
           have hX:=HX.out.1
           have hY:=HX.out.2.1
           rw [List.getElem?_eq_getElem hlt] at hX
           rw [List.getElem?_eq_getElem hlt2] at hY
           injection hX with hX
           injection hY with hY
           show val _=val _
           rw [List.drop_eq_getElem_cons hlt,List.drop_eq_getElem_cons hlt2,val,val,hD,hX,hY]
           omega
          case measure=>have:=HX.out.2.2;(simp [intOf] <;> omega)
    · obtain rfl:k=0:=by omega
      have hAB:A=B:=by
       have:=HD.out
       rwa [List.drop_zero,List.drop_zero,Qap,Qap] at this
      have HAB:=Lib.hid hAB
      clear hAB
      go_wp2
      exact bodyPost_ret (v:=.int .i64 0) (by simp [results,Tryz.results157,go_sem]) rfl ⟨by rw [cmpF,HAB.out,if_neg (by omega),if_neg (by omega)],HB2.out.trans (HB.out.mono HB2.out.size)⟩
 · have hnz:¬ (n:Int)=(m:Int):=by omega
   by_cases hlt:n<m
   · have g1':(n:Int)<(m:Int):=by omega
     have HAB:=Lib.hid (len_lt (a:=A) (b:=B) (by have:=HN.out;omega))
     go_enter Tryz.func157,Tryz.ntmps157
     go_wp2_with (first
      | (go_at_call 130;refine HT1.out.mono ?_;rintro e w1 ⟨v1,he,hl1,hb1⟩;subst he;obtain ⟨a1,c1,hv1,hc1⟩:=hl1.slice;rw [HN.out.1] at hv1;subst hv1;have HB1:=Lib.hid hb1;clear hb1 hl1 hc1 HT1)
      | (go_at_call 130;refine (HT2.out w1 HB1.out).mono ?_;rintro e w2 ⟨v2,he,hl2,hb2⟩;subst he;obtain ⟨a2,c2,hv2,hc2⟩:=hl2.slice;rw [HN.out.2] at hv2;subst hv2;have HB2:=Lib.hid (HB1.out.trans (hb2.mono HB1.out.size));clear hb2 hl2 hc2 HT2))
     exact bodyPost_ret (v:=.int .i64 (-1)) (by simp [results,Tryz.results157,go_sem]) rfl ⟨by rw [cmpF,if_pos HAB.out],HB2.out⟩
   · have g1':¬ (n:Int)<(m:Int):=by omega
     have HAB:=Lib.hid (len_lt (a:=B) (b:=A) (by have:=HN.out;omega))
     go_enter Tryz.func157,Tryz.ntmps157
     go_wp2_with (first
      | (go_at_call 130;refine HT1.out.mono ?_;rintro e w1 ⟨v1,he,hl1,hb1⟩;subst he;obtain ⟨a1,c1,hv1,hc1⟩:=hl1.slice;rw [HN.out.1] at hv1;subst hv1;have HB1:=Lib.hid hb1;clear hb1 hl1 hc1 HT1)
      | (go_at_call 130;refine (HT2.out w1 HB1.out).mono ?_;rintro e w2 ⟨v2,he,hl2,hb2⟩;subst he;obtain ⟨a2,c2,hv2,hc2⟩:=hl2.slice;rw [HN.out.2] at hv2;subst hv2;have HB2:=Lib.hid (HB1.out.trans (hb2.mono HB1.out.size));clear hb2 hl2 hc2 HT2))
     exact bodyPost_ret (v:=.int .i64 1) (by simp [results,Tryz.results157,go_sem]) rfl ⟨by rw [cmpF,if_neg (by have:=HAB.out;omega),if_pos HAB.out],HB2.out⟩
theorem val_set:∀ (xs:List Nat) (i x z:Nat),xs[i]? = some x→val (xs.set i z)+4294967296 ^ i*x=val xs+4294967296 ^ i*z:=by
 intro xs
 induction xs with
 | nil=>intro i x z h;simp at h
 | cons y r ih =>
   intro i x z h
   cases i with
   | zero =>
     simp only [List.getElem?_cons_zero] at h
     injection h with h
     subst h
     simp only [List.set_cons_zero,val]
     omega
   | succ i =>
     simp only [List.getElem?_cons_succ] at h
     have:=ih i x z h
     simp only [List.set_cons_succ,val,Nat.pow_succ]
     grind
theorem Lim.set {xs:List Nat} (h:Lim xs) (i:Nat) {z:Nat} (hz:z<4294967296):Lim (xs.set i z):=fun x hx=>by
 rcases List.mem_or_eq_of_mem_set hx with hx | rfl
 · exact h x hx
 · exact hz
theorem Qbn {xs:List Nat} {i x:Nat} (h:xs[i]? = some x):val (xs.take (i+1))=val (xs.take i)+4294967296 ^ i*x:=by
 have hi:=(List.getElem?_eq_some_iff.1 h).1
 rw [List.take_add_one,h,val_append,List.length_take,Nat.min_eq_left (by omega)]
 simp [val]
theorem Lim.get {xs:List Nat} (h:Lim xs) {i x:Nat} (hx:xs[i]? = some x):x<4294967296:=h x (List.mem_of_getElem? hx)
theorem Qbg {xs:List Nat} {i:Nat} (h:i<xs.length):∃ x,xs[i]? = some x:=⟨_,List.getElem?_eq_getElem h⟩
theorem Lim.zeros (n:Nat):Lim (List.replicate n 0):=fun x hx=>by rw [List.mem_replicate] at hx;omega
theorem LOwn.cell {W:World} {base q n c:Nat} {xs:List Nat} (h:LOwn W base (.slice (some ⟨q,0,none⟩) n c) xs) {i x:Nat} (hx:xs[i]? = some x):W.cell? ⟨q,i,none⟩=some (.int .u32 (x:Int)):=by
 have:=h.cells (g:=q) rfl i _ (U_get hx)
 rwa [WideShapes.add_plain,Nat.zero_add] at this
theorem LOwn.fz {W:World} {base q n c:Nat} {xs:List Nat} (h:LOwn W base (.slice (some ⟨q,0,none⟩) n c) xs) (i:Nat):W.frozen? ⟨q,i,none⟩=false:=by
 obtain ⟨cs,hc⟩:=Qba h q rfl
 exact frozen_of_row W q i _ _ hc
theorem LOwn.stored {W:World} {base q n c:Nat} {xs:List Nat} (h:LOwn W base (.slice (some ⟨q,0,none⟩) n c) xs) (i z:Nat):LOwn (W.setCell ⟨q,i,none⟩ (.int .u32 (z:Int))) base (.slice (some ⟨q,0,none⟩) n c) (xs.set i z):=by
 have hn:n=xs.length:=by
  rcases h.2 with ⟨hv,_⟩ | ⟨g,cap,cur,hv,_⟩
  · cases hv
  · injection hv
 subst hn
 have:=(World.ownsRow.stored h i (.int .u32 (z:Int)))
 unfold LOwn
 rw [U_set,List.length_set]
 exact this.1
theorem LOwn.drawn {W:World} {base:Nat} {v:Value} {xs:List Nat} (h:LOwn W base v xs) (n:Nat):LOwn (W.drewN n) base v xs:=h.below ⟨rfl,rfl,rfl,Nat.le_refl _,fun _ _=>rfl⟩
theorem mul_step {O:List Nat} {i k x y cy o z P:Nat} {Y:List Nat} (hO:O[i+k]? = some o) (hy:Y[k]? = some y) (hz:z=cy+o+x*y) (hI:val O+4294967296 ^ (i+k)*cy=P+4294967296 ^ i*(x*val (Y.take k))) :
 val (O.set (i+k) (z % 4294967296))+4294967296 ^ (i+(k+1))*(z / 4294967296)=P+4294967296 ^ i*(x*val (Y.take (k+1))):=by
 have h1:=val_set O (i+k) o (z % 4294967296) hO
 have h2:=Qbn hy
 have h3:4294967296 ^ (i+(k+1))=4294967296 ^ (i+k)*4294967296:=by rw [← Nat.add_assoc,Nat.pow_succ]
 have h4:4294967296 ^ (i+k)=4294967296 ^ i*4294967296 ^ k:=Nat.pow_add ..
 have h5:z % 4294967296+4294967296*(z / 4294967296)=z:=Nat.mod_add_div ..
 rw [h2,h3]
 generalize z % 4294967296=lo at *
 generalize z / 4294967296=hi at *
 have h6:4294967296 ^ (i+k)*lo+4294967296 ^ (i+k)*4294967296*hi=4294967296 ^ (i+k)*(cy+o+x*y):=by
  rw [← hz,← h5];grind
 have h7:4294967296 ^ i*(x*(val (Y.take k)+4294967296 ^ k*y))=4294967296 ^ i*(x*val (Y.take k))+4294967296 ^ (i+k)*(x*y):=by
  rw [h4];grind
 rw [h7]
 have h8:4294967296 ^ (i+k)*(cy+o+x*y)=4294967296 ^ (i+k)*cy+4294967296 ^ (i+k)*o+4294967296 ^ (i+k)*(x*y):=by grind
 omega
theorem mul_bound {cy o x y:Nat} (h1:cy<4294967296) (h2:o<4294967296) (h3:x<4294967296) (h4:y<4294967296):cy+o+x*y<18446744073709551616∧x*y<18446744073709551616:=by
 have:x*y≤4294967295*4294967295:=Nat.mul_le_mul (by omega) (by omega)
 omega
theorem made_own {W:World} {base q N:Nat} (h:W.ownsRow base 152 1 (.slice (some ⟨q,0,none⟩) N N) N (madeCells (Value.int .u32 0).cells (N*1)).toList):LOwn W base (.slice (some ⟨q,0,none⟩) N N) (List.replicate N 0):=by
 rw [Nat.mul_one,show (Value.int .u32 0).cells=#[.int .u32 0] from rfl,toList_madeCells_one] at h
 unfold LOwn U
 rw [List.map_replicate,List.length_replicate]
 exact h
def MulOut (w3 wi:World) (q N m B:Nat) (X:List Nat) (i:Nat) (O:List Nat):Prop:=O.length=N∧Lim O∧val O=val (X.take i)*B∧(∀ j,i+m≤j→j<N→O[j]? = some 0)∧LOwn wi q (.slice (some ⟨q,0,none⟩) N N) O∧Below q w3 wi
def MulIn (w3 wi:World) (q N m B:Nat) (X Y:List Nat) (i x k cy:Nat) (O:List Nat):Prop:=O.length=N∧Lim O∧cy<4294967296∧val O+4294967296 ^ (i+k)*cy=val (X.take i)*B+4294967296 ^ i*(x*val (Y.take k))∧(∀ j,i+m≤j→j<N→O[j]? = some 0)∧LOwn wi q (.slice (some ⟨q,0,none⟩) N N) O∧Below q w3 wi
set_option maxHeartbeats 8000000 in
set_option maxRecDepth 100000 in
theorem mul_any (xs ys:List Nat) (v u:Value) (w:World) (h1:LAt w v xs) (h2:LAt w u ys) (hs1:xs.length≤1099511627776) (hs2:ys.length≤1099511627776) (hm1:Sm (val xs)) (hm2:Sm (val ys)) (hm:Sm (val xs*val ys)) :
 Calls Tryz.prog 176 #[v,u] w (NPost (val xs*val ys) w):=by
 obtain ⟨a1,d1,hv1,_⟩:=h1.slice
 obtain ⟨a2,d2,hv2,_⟩:=h2.slice
 obtain ⟨n1,hn1⟩:∃ n,xs.length=n:=⟨_,rfl⟩
 obtain ⟨n2,hn2⟩:∃ n,ys.length=n:=⟨_,rfl⟩
 rw [hn1] at hv1
 rw [hn2] at hv2
 subst hv1 hv2
 obtain ⟨i0,hi,hz0,hz1,hz2⟩:=info_parts info152
 obtain ⟨A,hA⟩:∃ A,val xs=A:=⟨_,rfl⟩
 obtain ⟨B,hB⟩:∃ B,val ys=B:=⟨_,rfl⟩
 have hb0:=(Below.refl w.heap.size w).alloc (Nat.le_refl _) (.cells #[.slice a1 n1 d1,.slice a2 n2 d2] 150)
 have HF:=Lib.hid (fits_any [(.slice a1 n1 d1,xs),(.slice a2 n2 d2,ys)] w.heap.size 2 2 _ rfl (fit_two w _ _ xs ys h1 hs1 hm1 h2 hs2 hm2) (by omega))
 have HT1:=Lib.hid fun W (hb:Below w.heap.size w W)=>Qbq xs _ W (h1.below hb) hs1
 have HT2:=Lib.hid fun W (hb:Below w.heap.size w W)=>Qbq ys _ W (h2.below hb) hs2
 have HB0:=Lib.hid hb0
 rw [hA] at HT1 hm1 hm ⊢
 rw [hB] at HT2 hm2 hm ⊢
 obtain ⟨n,hn⟩:∃ n,(limbs A).length=n:=⟨_,rfl⟩
 obtain ⟨m,hml⟩:∃ m,(limbs B).length=m:=⟨_,rfl⟩
 have hn4:n≤4096:=by rw [← hn];exact hm1
 have hm4:m≤4096:=by rw [← hml];exact hm2
 have HN:=Lib.hid (show (limbs A).length=n∧(limbs B).length=m from ⟨hn,hml⟩)
 have HM:=Lib.hid hm
 clear hA hB h1 h2 hs1 hs2 hn hml hm1 hm2 hm hb0 hn1 hn2
 obtain ⟨N,hN⟩:∃ N,n+m=N:=⟨_,rfl⟩
 have eN:IntKind.i64.wrap ((n:Int)+(m:Int))=(N:Int):=by rw [IntKind.wrap_i64];omega
 have HNN:=Lib.hid hN
 clear hN
 go_enter Tryz.func176,Tryz.ntmps176
 go_wp2_with (first
  | (go_at_call 128;refine HF.out.mono ?_;rintro e w1 ⟨he,hb1⟩;subst he;have HB1:=Lib.hid (HB0.out.trans (hb1.mono HB0.out.size));clear hb1 HF)
  | (go_at_call 130;refine (HT1.out w1 HB1.out).mono ?_;rintro e w2 ⟨v2,he,hl2,hb2⟩;subst he;obtain ⟨p2,c2,hv2,hc2⟩:=hl2.slice;rw [HN.out.1] at hv2;subst hv2;have HL2:=Lib.hid hl2;have HB2:=Lib.hid (HB1.out.trans (hb2.mono HB1.out.size));clear hb2 hl2 hc2 HT1)
  | (go_at_call 130;refine (HT2.out w2 HB2.out).mono ?_;rintro e w3 ⟨v3,he,hl3,hb3⟩;subst he;obtain ⟨p3,c3,hv3,hc3⟩:=hl3.slice;rw [HN.out.2] at hv3;subst hv3;have HL3:=Lib.hid hl3;have HL23:=Lib.hid (HL2.out.below hb3);have HB3:=Lib.hid (HB2.out.trans (hb3.mono HB2.out.size));clear hb3 hl3 hc3 HT2)
  | (at_make;(refine wpList_make_full _ rfl (.tmp 25) (.tmp 25) 150 rfl w3.heap.size 152 i0 (.int .u32 0) 1 Tryz.underlying150 hi hz0 hz1 .i64 .i64 (N:Int) (N:Int) N rfl rfl rfl rfl (by rw [hz2];have:=HNN.out;omega) (by have:=HNN.out;unfold maxLen;omega) (Nat.le_refl _) ?_;intro w4 hown hgr;have HOw:=Lib.hid hown;have HGr:=Lib.hid hgr;clear hown hgr)))
 have hI0:MulOut w3 w4 w3.heap.size N m B (limbs A) 0 (List.replicate N 0) :=
  ⟨List.length_replicate,Lim.zeros _,by rw [val_zeros];simp [val],fun j _ hj=>by rw [List.getElem?_replicate,if_pos hj],made_own HOw.out,(Below.refl _ w3).grown HGr.out (Nat.le_refl _) (fun k e=>by cases e)⟩
 have HI0:=Lib.hid hI0
 clear hI0 HOw HGr HB0 HB1 HB2 HL2
 obtain ⟨q,hq⟩:∃ q,w3.heap.size=q:=⟨_,rfl⟩
 rw [hq] at HI0 ⊢
 have HQ:=Lib.hid hq
 clear hq
 go_loopw [29] (fun s wi=>∃ (i:Nat) (O:List Nat),i≤n∧s=.int .i64 i∧Hid (MulOut w3 wi q N m B (limbs A) i O)) (fun s _=>n - (intOf s).toNat)
 case atStart=>exact ⟨0,_,Nat.zero_le _,rfl,HI0⟩
 case round =>
  clear HI0
  obtain ⟨i,O,hi,rfl,HI⟩:=hrel
  by_cases hlt:i<n
  · obtain ⟨g2,o2,e2,hg2,hx2⟩:=HL23.out.cells (by omega)
    subst e2
    obtain ⟨x,hx⟩:=Qbg (xs:=limbs A) (i:=i) (by have:=HN.out.1;omega)
    have hxl:=(Qay A).get hx
    have d1:=(HI.out.2.2.2.2.2.cell (p:=⟨g2,o2+i,none⟩) (by have:=HQ.out;show g2<q;omega)).trans (hx2 i x hx)
    have f2:(i:Int)<(n:Int):=by omega
    have HX:=Lib.hid (show (limbs A)[i]? = some x∧x<4294967296 from ⟨hx,hxl⟩)
    have HXX:=Lib.hid hx2
    have HG2:=Lib.hid hg2
    clear hx hxl hx2 hg2
    go_wp2_with fail
    have hJ0:MulIn w3 wr q N m B (limbs A) (limbs B) i x 0 0 O:=⟨HI.out.1,HI.out.2.1,by omega,by rw [HI.out.2.2.1];simp [val],HI.out.2.2.2.1,HI.out.2.2.2.2.1,HI.out.2.2.2.2.2⟩
    have HJ0:=Lib.hid hJ0
    clear hJ0
    go_loopw [36,9] (fun s c wj=>∃ (k cy:Nat) (O:List Nat),k≤m∧s=.int .i64 k∧c=.int .u64 cy∧Hid (MulIn w3 wj q N m B (limbs A) (limbs B) i x k cy O)) (fun s _ _=>m - (intOf s).toNat)
    case atStart=>exact ⟨0,0,_,Nat.zero_le _,rfl,rfl,HJ0⟩
    case round =>
     clear HJ0 HI
     obtain ⟨k,cy,O,hk,rfl,rfl,HI⟩:=hrel
     obtain ⟨j,hj⟩:∃ j,i+k=j:=⟨_,rfl⟩
     have hNN:=HNN.out
     obtain ⟨hOl,hOlim,hcy,hval,hzero,hown,hbel⟩:=HI.out
     by_cases hkm:k<m
     · obtain ⟨g3,o3,e3,hg3,hx3⟩:=HL3.out.cells (by omega)
       subst e3
       obtain ⟨y,hy⟩:=Qbg (xs:=limbs B) (i:=k) (by have:=HN.out.2;omega)
       obtain ⟨o,ho⟩:=Qbg (xs:=O) (i:=j) (by omega)
       have hyl:=(Qay B).get hy
       have hol:=hOlim.get ho
       have hxl:=HX.out.2
       obtain ⟨hz2,hz1⟩:=mul_bound hcy hol hxl hyl
       obtain ⟨s1,hs1⟩:∃ s1,cy+o=s1:=⟨_,rfl⟩
       obtain ⟨p1,hp1⟩:∃ p1,x*y=p1:=⟨_,rfl⟩
       obtain ⟨z,hzz⟩:∃ z,s1+p1=z:=⟨_,rfl⟩
       have hzb:z<18446744073709551616:=by omega
       have hstep:=mul_step (i:=i) (k:=k) (P:=val ((limbs A).take i)*B) (by rw [hj];exact ho) hy (show z=cy+o+x*y by omega) hval
       have hlow:=low_any z
       obtain ⟨lo,hlo⟩:∃ lo,z % 4294967296=lo:=⟨_,rfl⟩
       obtain ⟨hi', hhi⟩ : ∃ hi', z / 4294967296 = hi' := ⟨_, rfl⟩
       rw [hlo,hhi] at hlow hstep
       have HLow:=Lib.hid fun W=>hlow W hzb
       have HSt:=Lib.hid (show _∧lo<4294967296∧hi'<4294967296∧i+k=j from ⟨hstep,by omega,by omega,hj⟩)
       have c1:=(hbel.cell (p:=⟨g3,o3+k,none⟩) (by have:=HQ.out;show g3<q;omega)).trans (hx3 k y hy)
       have c2:=hown.cell ho
       have c3:=hown.fz j
       have f3:(k:Int)<(m:Int):=by omega
       have f4:(j:Int)<(N:Int):=by omega
       have b1:IntKind.i64.wrap ((i:Int)+(k:Int))=(j:Int):=by rw [IntKind.wrap_i64];omega
       have b2:IntKind.u64.wrap (o:Int)=(o:Int):=by rw [IntKind.wrap_u64];omega
       have b3:IntKind.u64.wrap (x:Int)=(x:Int):=by rw [IntKind.wrap_u64];omega
       have b4:IntKind.u64.wrap (y:Int)=(y:Int):=by rw [IntKind.wrap_u64];omega
       have b5:IntKind.u64.wrap ((cy:Int)+(o:Int))=(s1:Int):=by rw [IntKind.wrap_u64];omega
       have b6:IntKind.u64.wrap ((x:Int)*(y:Int))=(p1:Int):=by
        rw [IntKind.wrap_u64,← hp1,Int.natCast_mul]
        have:(x:Int)*(y:Int)=((x*y:Nat):Int):=(Int.natCast_mul x y).symm
        omega
       have b7:IntKind.u64.wrap ((s1:Int)+(p1:Int))=(z:Int):=by rw [IntKind.wrap_u64];omega
       clear hx3 hg3 hy ho hyl hol hxl hz1 hz2 hs1 hp1 hzz hzb hstep hlow hlo hhi hj hOl hOlim hcy hval hzero hown hbel hNN
       go_wp2_with (go_at_call 131;refine (HLow.out _).mono ?_;rintro e w5 ⟨he,hw⟩;subst he;subst hw)
       go_roundw
       case rel =>
        obtain ⟨hOl,hOlim,hcy,hval,hzero,hown,hbel⟩:=HI.out
        refine ⟨k + 1, hi', O.set j lo, by omega, by go_num, rfl, (show Hid _ from ⟨by rw [List.length_set]; exact hOl, hOlim.set j HSt.out.2.1, HSt.out.2.2.1, ?_, fun j' h1 h2 => ?_, hown.stored j lo, hbel.setCell (Nat.le_refl _) _⟩)⟩
        · have:=HSt.out.1
          rw [HSt.out.2.2.2] at this
          exact this
        · rw [List.getElem?_set_ne (by have:=HSt.out.2.2.2;omega)]
          exact hzero j' h1 h2
       case measure=>simp [intOf];omega
     · obtain rfl:k=m:=by omega
       have f3:¬ (k:Int)<(k:Int):=by omega
       have f4:(j:Int)<(N:Int):=by omega
       have b1:IntKind.i64.wrap ((i:Int)+(k:Int))=(j:Int):=by rw [IntKind.wrap_i64];omega
       have b2:IntKind.u32.wrap (cy:Int)=(cy:Int):=by rw [IntKind.wrap_u32];omega
       have c2:=hown.cell (hzero j (by omega) (by omega))
       have c3:=hown.fz j
       have e5:IntKind.i64.wrap ((i:Int)+1)=(i:Int)+1:=by rw [IntKind.wrap_i64];omega
       have HJ:=Lib.hid hj
       clear hj hOl hOlim hcy hval hzero hown hbel hNN
       go_wp2
       go_roundw
       case rel =>
        obtain ⟨hOl,hOlim,hcy,hval,hzero,hown,hbel⟩:=HI.out
        have hj:=HJ.out
        refine ⟨i+1,O.set j cy,by omega,by go_num,(show Hid _ from ⟨by rw [List.length_set];exact hOl,hOlim.set j hcy,?_,fun j' h1 h2=>?_,hown.stored j cy,hbel.setCell (Nat.le_refl _) _⟩)⟩
        · have h1:=val_set O j 0 cy (hzero j (by omega) (by have:=HNN.out;omega))
          rw [hj] at hval
          rw [Nat.mul_zero,Nat.add_zero] at h1
          rw [h1,hval,Qbn HX.out.1,show (limbs B).take k=limbs B by rw [← HN.out.2,List.take_length],Qap]
          grind
        · rw [List.getElem?_set_ne (by omega)]
          exact hzero j' (by omega) h2
       case measure=>simp [intOf];omega
  · obtain rfl:i=n:=by omega
    have f2:¬ (i:Int)<(i:Int):=by omega
    have hNN:=HNN.out
    obtain ⟨hOl,hOlim,hval,hzero,hown,hbel⟩:=HI.out
    rw [show (limbs A).take i=limbs A by rw [← HN.out.1,List.take_length],Qap] at hval
    have HT:=Lib.hid (told_any O _ wr (hown.at_ hOlim) (by omega) (by rw [hval];exact HM.out))
    rw [hval] at HT
    have HBB:=Lib.hid (HB3.out.trans ((hbel.mono (by have:=HQ.out;have:=HB3.out.size;omega))))
    clear hOl hOlim hval hzero hown hbel hNN
    go_wp2_with (go_at_call 132;refine HT.out.mono ?_;rintro e w5 ⟨v5,he,hl5,hb5⟩;subst he;have HL5:=Lib.hid hl5;have HB5:=Lib.hid (HBB.out.trans (hb5.mono HBB.out.size));clear hl5 hb5)
    exact bodyPost_ret (v:=.tuple #[v5,.int .i64 0]) (by simp [results,Tryz.results176,go_sem]) rfl ⟨_,rfl,HL5.out,HB5.out⟩
def slen:Value→Nat
 | .slice _ n _=>n
 | _=>0
theorem LOwn.slice {W:World} {base:Nat} {v:Value} {xs:List Nat} (h:LOwn W base v xs):∃ a c,v=.slice a xs.length c∧xs.length≤c:=by
 rcases h.2 with ⟨hv,hx⟩ | ⟨g,cap,cur,hv,h1⟩
 · exact ⟨none,0,by rw [hv,hx],by omega⟩
 · obtain ⟨_,_,h2,_⟩:=h1
   exact ⟨_,_,hv,h2⟩
theorem LOwn.some {W:World} {base n c:Nat} {a:Option Addr} {xs:List Nat} (h:LOwn W base (.slice a n c) xs) (h0:0<n):∃ g,a=some ⟨g,0,none⟩∧base≤g∧g<W.heap.size:=by
 rcases h.2 with ⟨hv,hx⟩ | ⟨g,cap,cur,hv,hg,h1⟩
 · injection hv;omega
 · injection hv with e1 e2 e3
   exact ⟨g,e1,hg,own_lt h g (by rw [e1];rfl)⟩
theorem add_step {O:List Nat} {k cy o y z A:Nat} {Y:List Nat} (hO:O[k]? = some o) (hz:z=cy+o+y) (hy:val (Y.take (k+1))=val (Y.take k)+4294967296 ^ k*y) (hI:val O+4294967296 ^ k*cy=A+val (Y.take k)) :
 val (O.set k (z % 4294967296))+4294967296 ^ (k+1)*(z / 4294967296)=A+val (Y.take (k+1)):=by
 have h1:=val_set O k o (z % 4294967296) hO
 have h5:z % 4294967296+4294967296*(z / 4294967296)=z:=Nat.mod_add_div ..
 rw [hy,Nat.pow_succ]
 generalize z % 4294967296=lo at *
 generalize z / 4294967296=hi at *
 have h6:4294967296 ^ k*lo+4294967296 ^ k*4294967296*hi=4294967296 ^ k*(cy+o+y):=by
  rw [← hz,← h5];grind
 have h8:4294967296 ^ k*(cy+o+y)=4294967296 ^ k*cy+4294967296 ^ k*o+4294967296 ^ k*y:=by grind
 omega
theorem take_succ_ge {Y:List Nat} {k:Nat} (h:Y.length≤k):val (Y.take (k+1))=val (Y.take k)+4294967296 ^ k*0:=by
 rw [List.take_of_length_le h,List.take_of_length_le (by omega)]
 omega
theorem LOwn.ge {W:World} {base:Nat} {v:Value} {xs:List Nat} (h:LOwn W base v xs) (k:Nat) (hk:v.ownBlock=Option.some k):base≤k:=by
 rcases h.2 with ⟨hv,hx⟩ | ⟨g,cap,cur,hv,hg,h1⟩
 · rw [hv] at hk;cases hk
 · rw [hv] at hk
   have:Option.some g=Option.some k:=hk
   injection this with this
   omega
theorem take_len {xs ys:List Nat} {k n:Nat} (h:xs.take k=ys) (hk:k≤n) (hn:xs.length=n):k=ys.length:=by rw [← h,List.length_take];omega
theorem take_get {xs ys:List Nat} {m k y:Nat} (h:xs.take m=ys) (hy:ys[k]? = some y):xs[k]? = some y:=by
 rw [← h,List.getElem?_take] at hy
 split at hy
 · exact hy
 · cases hy
theorem fr_next {q:Nat} {w2 wi wj:World} (h:Below q w2 wi) (hq:w2.heap.size=q) (hb:Below wi.heap.size wi wj):Below q w2 wj:=h.trans (hb.mono (by have:=h.size;omega))
theorem new_one (w:World) (x:Value) (t:TypeId) (j:Nat) (u:Value) (h:[x][j]? = Option.some u):(w.alloc (.cells #[x] t)).cell? ((⟨w.heap.size,0,none⟩:Addr).add j)=Option.some u:=by
 match j,h with
 | 0,h =>
   injection h with h
   subst h
   exact cell_of_row _ _ 0 _ _ _ (heap_alloc_new w _)
theorem one_u32 (x:Int):∀ u ∈ [Value.int .u32 x],u.oneCell'=true:=fun u hu=>by rw [List.mem_singleton.1 hu];rfl
def AddOut (w2 wi:World) (q A B i:Nat) (v:Value) (O:List Nat):Prop:=Lim O∧val O=A+i*B∧O.length≤4096+i∧LOwn wi q v O∧Below q w2 wi
def AddIn (w2 wi:World) (q A:Nat) (Y:List Nat) (v:Value) (l k cy:Nat) (O:List Nat):Prop:=O.length=l∧Lim O∧cy≤1∧val O+4294967296 ^ k*cy=A+val (Y.take k)∧LOwn wi q v O∧Below q w2 wi
set_option maxHeartbeats 8000000 in
set_option maxRecDepth 100000 in
theorem add_any (xs ys:List Nat) (v u:Value) (g:Nat) (w:World) (h1:LAt w v xs) (h2:FitAt w g [(u,ys)]) (hs1:xs.length≤1099511627776) (hm1:Sm (val xs)) (hm:Sm (val xs+val ys)) :
 Calls Tryz.prog 86 #[v,.slice (some ⟨g,0,none⟩) 1 1] w (NPost (val xs+val ys) w):=by
 obtain ⟨a1,d1,hv1,_⟩:=h1.slice
 obtain ⟨hu0,hu,hs2,hm2⟩:=h2.2 0 (u,ys) rfl
 simp only at hu0 hu hs2 hm2
 obtain ⟨a2,d2,hv2,_⟩:=hu.slice
 obtain ⟨n1,hn1⟩:∃ n,xs.length=n:=⟨_,rfl⟩
 obtain ⟨n2,hn2⟩:∃ n,ys.length=n:=⟨_,rfl⟩
 rw [hn1] at hv1
 rw [hn2] at hv2
 subst hv1 hv2
 obtain ⟨i0,hi,hz0,hz1,hz2⟩:=info_parts info152
 obtain ⟨A,hA⟩:∃ A,val xs=A:=⟨_,rfl⟩
 obtain ⟨B,hB⟩:∃ B,val ys=B:=⟨_,rfl⟩
 have hb0:=(Below.refl w.heap.size w).alloc (Nat.le_refl _) (.cells #[.slice a1 n1 d1] 150)
 have HF:=Lib.hid (fits_any [(.slice a1 n1 d1,xs)] w.heap.size 1 1 _ rfl (fit_one w _ xs h1 hs1 hm1) (by omega))
 have HF2:=Lib.hid fun W (hb:Below w.heap.size w W)=>fits_any [(.slice a2 n2 d2,ys)] g 1 1 W rfl (h2.below hb) (by omega)
 have HT1:=Lib.hid fun W (hb:Below w.heap.size w W)=>Qbq xs _ W (h1.below hb) hs1
 have HU:=Lib.hid fun W (hb:Below w.heap.size w W)=>hu.below hb
 have HU0:=Lib.hid fun W (hb:Below w.heap.size w W)=>(hb.cell (p:=⟨g,0,none⟩) h2.1).trans hu0
 have HB0:=Lib.hid hb0
 rw [hA] at HT1 hm1 hm ⊢
 rw [hB] at hm2 hm ⊢
 obtain ⟨n,hn⟩:∃ n,(limbs A).length=n:=⟨_,rfl⟩
 obtain ⟨m,hml⟩:∃ m,(limbs B).length=m:=⟨_,rfl⟩
 have hn4:n≤4096:=by rw [← hn];exact hm1
 have hm4:m≤4096:=by rw [← hml];exact hm2
 have HN:=Lib.hid (show (limbs A).length=n∧(limbs B).length=m∧val ys=B∧ys.length=n2∧n2≤1099511627776 from ⟨hn,hml,hB,hn2,by omega⟩)
 have HM:=Lib.hid hm
 clear hA hB h1 h2 hu hu0 hs1 hs2 hn hml hm1 hm2 hm hb0 hn1 hn2
 go_enter Tryz.func86,Tryz.ntmps86
 go_wp2_with (first
  | (go_at_call 128;refine HF.out.mono ?_;rintro e w1 ⟨he,hb1⟩;subst he;have HB1:=Lib.hid (HB0.out.trans (hb1.mono HB0.out.size));clear hb1 HF)
  | (go_at_call 128;refine (HF2.out w1 HB1.out).mono ?_;rintro e w1' ⟨he,hb1⟩;subst he;have HB1':=Lib.hid (HB1.out.trans (hb1.mono HB1.out.size));clear hb1 HF2)
  | (go_at_call 130;refine (HT1.out w1' HB1'.out).mono ?_;rintro e w2 ⟨v2,he,hl2,hb2⟩;subst he;obtain ⟨p2,c2,hv2,hc2⟩:=hl2.slice;rw [HN.out.1] at hv2;subst hv2;have HL2:=Lib.hid hl2;have HB2:=Lib.hid (HB1'.out.trans (hb2.mono HB1'.out.size));clear hb2 hl2 hc2 HT1)
  | (go_at_call 129;refine (clone_any (limbs A) _ w2 HL2.out (by have:=HN.out.1;omega)).mono ?_;rintro e w3 ⟨v3,he,hl3,hb3⟩;subst he;have HL3:=Lib.hid hl3;have HB3:=Lib.hid hb3;clear hl3 hb3))
 obtain ⟨q,hq⟩:∃ q,w2.heap.size=q:=⟨_,rfl⟩
 have hI0:AddOut w2 w3 q A B 0 v3 (limbs A):=⟨Qay A,by rw [Qap];omega,by have:=HN.out.1;omega,by have:=HL3.out;rw [hq] at this;exact this,by rw [← hq];exact HB3.out⟩
 have HI0:=Lib.hid hI0
 have HQ:=Lib.hid hq
 clear hI0 hq HL2 HL3 HB3 HB1 HB1' HB0
 go_loopw [25,6] (fun s v wi=>∃ (i:Nat) (O:List Nat) (V:Value),i≤1∧s=.int .i64 i∧V=v∧Hid (AddOut w2 wi q A B i V O)) (fun s _ _=>1 - (intOf s).toNat)
 case atStart=>exact ⟨0,_,_,by omega,rfl,rfl,HI0⟩
 case round =>
  clear HI0
  obtain ⟨i,O,v6,hi1,rfl,rfl,HI⟩:=hrel
  by_cases hlt:i<1
  · obtain rfl:i=0:=by omega
    have hbw:Below w.heap.size w wr:=HB2.out.trans (HI.out.2.2.2.2.mono (by have:=HB2.out.size;have:=HQ.out;omega))
    have d1:=HU0.out wr hbw
    have HTU:=Lib.hid (trim_at ys a2 n2 d2 wr (HU.out wr hbw) HN.out.2.2.2.2)
    clear hbw
    go_wp2_with (go_at_call 130;refine HTU.out.mono ?_;rintro e w4 ⟨k,hk,he,htk,hb4⟩;subst he;have hkm:=take_len htk hk HN.out.2.2.2.1;rw [HN.out.2.2.1] at hkm htk;rw [HN.out.2.1] at hkm;have hkm:=hkm.symm;subst hkm;have HTK:=Lib.hid (show ys.take m=limbs B∧m≤n2 from ⟨htk,hk⟩);have HI4:=Lib.hid (show AddOut w2 w4 q A B 0 v6 O from ⟨HI.out.1,HI.out.2.1,HI.out.2.2.1,HI.out.2.2.2.1.below hb4,fr_next HI.out.2.2.2.2 HQ.out hb4⟩);clear htk hk hb4)
    clear HI HTU d1
    go_loopw [6] (fun v wi=>∃ (O:List Nat) (V:Value),V=v∧Hid (AddOut w2 wi q A B 0 V O∧O.length≤4096)) (fun v _=>m - slen v)
    case atStart=>exact ⟨_,_,rfl,⟨HI4.out,HI4.out.2.2.1⟩⟩
    case round =>
     clear HI4
     obtain ⟨O,v6,rfl,HI⟩:=hrel
     obtain ⟨a6,c6,hv6,hc6⟩:=HI.out.1.2.2.2.1.slice
     subst hv6
     obtain ⟨l,hl⟩:∃ l,O.length=l:=⟨_,rfl⟩
     rw [hl] at HI ⊢
     have HLL:=Lib.hid hl
     clear hl hc6
     by_cases hlm:l<m
     · have f1:(l:Int)<(m:Int):=by omega
       go_wp2_with (at_builtin;refine wpList_append_own _ rfl _ _ 150 rfl q 152 i0 (.int .u32 0) 1 4 Tryz.underlying150 hi hz0 hz1 hz2 rfl (by omega) _ _ (U O) rfl (show (wr.alloc _).ownsRow q 152 1 _ l (U O) from by have:=(LOwn.below HI.out.1.2.2.2.1 ((Below.refl _ wr).alloc (Nat.le_refl _) (.cells #[.int .u32 0] 152)));unfold LOwn at this;rw [HLL.out] at this;exact this) ⟨wr.heap.size,0,none⟩ 1 1 [.int .u32 0] rfl rfl (new_one wr _ 152) (one_u32 0) ?qc4 ?qc5 ?qc6 ?_)
       case qc4=>unfold maxLen;omega
       case qc5=>omega
       case qc6=>have:=HI.out.1.2.2.2.2.size;have:=HQ.out;simp;omega
       intro v7 w7 hown hgrow hnil
       have hI7:AddOut w2 w7 q A B 0 v7 (O ++ [0])∧(O ++ [0]).length≤4096:=by
        obtain ⟨⟨h1,h2,h3,h4,h5⟩,h6⟩:=HI.out
        refine ⟨⟨?_,?_,?_,?_,?_⟩,?_⟩
        · intro x hx
          rcases List.mem_append.1 hx with hx | hx
          · exact h1 x hx
          · rw [List.mem_singleton.1 hx];omega
        · rw [val_append,h2];simp [val]
        · rw [List.length_append,HLL.out];show l+1≤_;omega
        · unfold LOwn
          rw [List.length_append,HLL.out,U_app]
          exact hown
        · exact (fr_next h5 HQ.out ((Below.refl _ wr).alloc (Nat.le_refl _) _)).grown hgrow (by have:=h5.size;have:=HQ.out;simp;omega) (fun k hk=>LOwn.ge h4 k hk)
        · rw [List.length_append,HLL.out];show l+1≤_;omega
       have HI7:=Lib.hid hI7
       clear hI7 hown hgrow hnil
       go_wp2
       go_roundw
       case rel=>exact ⟨_,_,rfl,HI7⟩
       case measure =>
        obtain ⟨a7,c7,hv7,_⟩:=HI7.out.1.2.2.2.1.slice
        rw [hv7,List.length_append,HLL.out]
        show m - (l+1)<m - l
        omega
     · have f1:¬ (l:Int)<(m:Int):=by omega
       go_wp2
       have hJ0:AddIn w2 wr q A (limbs B) (.slice a6 l c6) l 0 0 O:=⟨HLL.out,HI.out.1.1,by omega,by rw [HI.out.1.2.1];simp [val],HI.out.1.2.2.2.1,HI.out.1.2.2.2.2⟩
       have HJ0:=Lib.hid hJ0
       have HL4:=Lib.hid HI.out.2
       have hl4:=HI.out.2
       clear hJ0 HI HLL
       go_loopw [41,9] (fun s c wi=>∃ (k cy:Nat) (O:List Nat),k≤l∧s=.int .i64 k∧c=.int .u64 cy∧Hid (AddIn w2 wi q A (limbs B) (.slice a6 l c6) l k cy O)) (fun s _ _=>l - (intOf s).toNat)
       case atStart=>exact ⟨0,0,O,Nat.zero_le _,rfl,rfl,HJ0⟩
       case round =>
        clear HJ0
        obtain ⟨k,cy,O,hk,rfl,rfl,HI⟩:=hrel
        obtain ⟨hOl,hOlim,hcy,hval,hown,hbel⟩:=HI.out
        by_cases hkl:k<l
        · obtain ⟨g6,e6,hg6,hg6'⟩:=hown.some (by omega)
          subst e6
          obtain ⟨o,ho⟩:=Qbg (xs:=O) (i:=k) (by omega)
          have hol:=hOlim.get ho
          obtain ⟨s1,hs1⟩:∃ s1,cy+o=s1:=⟨_,rfl⟩
          have f2:(k:Int)<(l:Int):=by omega
          have b2:IntKind.u64.wrap (o:Int)=(o:Int):=by rw [IntKind.wrap_u64];omega
          have b5:IntKind.u64.wrap ((cy:Int)+(o:Int))=(s1:Int):=by rw [IntKind.wrap_u64];omega
          have c2:=hown.cell ho
          have c3:=hown.fz k
          have HG6:=Lib.hid hg6
          have hbw:Below w.heap.size w wr:=HB2.out.trans (hbel.mono (by have:=HB2.out.size;have:=HQ.out;omega))
          have HUW:=Lib.hid (HU.out wr hbw)
          clear hbw hg6' hg6
          by_cases hkm:k<m
          · obtain ⟨g2,o2,e2,hg2,hx2⟩:=HUW.out.cells (by have:=HTK.out.2;omega)
            subst e2
            obtain ⟨y,hy⟩:=Qbg (xs:=limbs B) (i:=k) (by have:=HN.out.2.1;omega)
            have hyl:=(Qay B).get hy
            have d2:=hx2 k y (take_get HTK.out.1 hy)
            obtain ⟨z,hz⟩:∃ z,s1+y=z:=⟨_,rfl⟩
            have f3:(k:Int)<(m:Int):=by omega
            have b3:IntKind.u64.wrap (y:Int)=(y:Int):=by rw [IntKind.wrap_u64];omega
            have b6:IntKind.u64.wrap ((s1:Int)+(y:Int))=(z:Int):=by rw [IntKind.wrap_u64];omega
            have hstep:=add_step ho (show z=cy+o+y by omega) (Qbn hy) hval
            have hlow:=low_any z
            obtain ⟨lo,hlo⟩:∃ lo,z % 4294967296=lo:=⟨_,rfl⟩
            obtain ⟨hi', hhi⟩ : ∃ hi', z / 4294967296 = hi' := ⟨_, rfl⟩
            rw [hlo,hhi] at hlow hstep
            have HLow:=Lib.hid fun W=>hlow W (by omega)
            have HSt:=Lib.hid (show _∧lo<4294967296∧hi'≤1 from ⟨hstep,by omega,by omega⟩)
            clear hx2 hg2 hy hyl hz hstep hlow hlo hhi ho hol hs1 hOl hOlim hcy hval hown hbel
            go_wp2_with (go_at_call 131;refine (HLow.out _).mono ?_;rintro e w5 ⟨he,hw⟩;subst he;subst hw)
            go_roundw
            case rel =>
             obtain ⟨hOl,hOlim,hcy,hval,hown,hbel⟩:=HI.out
             exact ⟨k + 1, hi', O.set k lo, by omega, by go_num, rfl, (show Hid _ from ⟨by rw [List.length_set]; exact hOl, hOlim.set k HSt.out.2.1, HSt.out.2.2, HSt.out.1, hown.stored k lo, hbel.setCell HG6.out _⟩)⟩
            case measure=>simp [intOf];omega
          · have f3:¬ (k:Int)<(m:Int):=by omega
            have hstep:=add_step ho (show s1=cy+o+0 by omega) (take_succ_ge (Y:=limbs B) (by have:=HN.out.2.1;omega)) hval
            have hlow:=low_any s1
            obtain ⟨lo,hlo⟩:∃ lo,s1 % 4294967296=lo:=⟨_,rfl⟩
            obtain ⟨hi', hhi⟩ : ∃ hi', s1 / 4294967296 = hi' := ⟨_, rfl⟩
            rw [hlo,hhi] at hlow hstep
            have HLow:=Lib.hid fun W=>hlow W (by omega)
            have HSt:=Lib.hid (show _∧lo<4294967296∧hi'≤1 from ⟨hstep,by omega,by omega⟩)
            clear hstep hlow hlo hhi ho hol hs1 hOl hOlim hcy hval hown hbel
            go_wp2_with (go_at_call 131;refine (HLow.out _).mono ?_;rintro e w5 ⟨he,hw⟩;subst he;subst hw)
            go_roundw
            case rel =>
             obtain ⟨hOl,hOlim,hcy,hval,hown,hbel⟩:=HI.out
             exact ⟨k + 1, hi', O.set k lo, by omega, by go_num, rfl, (show Hid _ from ⟨by rw [List.length_set]; exact hOl, hOlim.set k HSt.out.2.1, HSt.out.2.2, HSt.out.1, hown.stored k lo, hbel.setCell HG6.out _⟩)⟩
            case measure=>simp [intOf];omega
        · obtain rfl:k=l:=by omega
          have f2:¬ (k:Int)<(k:Int):=by omega
          have hfin:val O+4294967296 ^ k*cy=A+B:=by
           rw [hval,List.take_of_length_le (by have:=HN.out.2.1;omega),Qap]
          have HFin:=Lib.hid hfin
          by_cases hc0:0<cy
          · have f3:(0:Int)<(cy:Int):=by omega
            have b2:IntKind.u32.wrap (cy:Int)=(cy:Int):=by rw [IntKind.wrap_u32];omega
            clear hOl hOlim hcy hval hown hbel hfin
            go_wp2_with (at_builtin;refine wpList_append_own _ rfl _ _ 150 rfl q 152 i0 (.int .u32 0) 1 4 Tryz.underlying150 hi hz0 hz1 hz2 rfl (by omega) _ _ (U O) rfl (show (wr.alloc _).ownsRow q 152 1 _ k (U O) from by have:=(LOwn.below HI.out.2.2.2.2.1 ((Below.refl _ wr).alloc (Nat.le_refl _) (.cells #[.int .u32 (cy:Int)] 152)));unfold LOwn at this;rw [HI.out.1] at this;exact this) ⟨wr.heap.size,0,none⟩ 1 1 [.int .u32 (cy:Int)] rfl rfl (new_one wr _ 152) (one_u32 _) ?qc4 ?qc5 ?qc6 ?_)
            case qc4=>have:=HL4.out;unfold maxLen;omega
            case qc5=>have:=HL4.out;omega
            case qc6=>have:=HI.out.2.2.2.2.2.size;have:=HQ.out;simp;omega
            intro v7 w7 hown hgrow hnil
            have hI7:AddOut w2 w7 q A B 1 v7 (O ++ [cy]):=by
             obtain ⟨h1,h2,h3,h4,h5,h6⟩:=HI.out
             refine ⟨?_,?_,?_,?_,?_⟩
             · intro x hx
               rcases List.mem_append.1 hx with hx | hx
               · exact h2 x hx
               · rw [List.mem_singleton.1 hx];omega
             · rw [val_append,h1,Nat.one_mul,← HFin.out];simp [val]
             · have:=HL4.out;rw [List.length_append,h1];show k+1≤_;omega
             · unfold LOwn
               rw [List.length_append,h1,U_app]
               exact hown
             · exact (fr_next h6 HQ.out ((Below.refl _ wr).alloc (Nat.le_refl _) _)).grown hgrow (by have:=h6.size;have:=HQ.out;simp;omega) (fun k hk=>LOwn.ge h5 k hk)
            have HI7:=Lib.hid hI7
            clear hI7 hown hgrow hnil
            go_wp2
            go_roundw
            case rel=>exact ⟨1,_,_,by omega,by go_num,rfl,HI7⟩
            case measure=>simp [intOf]
          · obtain rfl:cy=0:=by omega
            have hI7:AddOut w2 wr q A B 1 (.slice a6 k c6) O:=⟨hOlim,by rw [Nat.mul_zero,Nat.add_zero] at hfin;rw [hfin,Nat.one_mul],by have:=HL4.out;omega,hown,hbel⟩
            have HI7:=Lib.hid hI7
            clear hI7 hOl hOlim hcy hval hown hbel hfin
            go_wp2
            go_roundw
            case rel=>exact ⟨1,_,_,by omega,by go_num,rfl,HI7⟩
            case measure=>simp [intOf]
  · obtain rfl:i=1:=by omega
    obtain ⟨h1,h2,h3,h4,h5⟩:=HI.out
    rw [Nat.one_mul] at h2
    obtain ⟨a6,c6,hv6,hc6⟩:=h4.slice
    subst hv6
    have HT:=Lib.hid (told_any O _ wr (h4.at_ h1) (by omega) (by rw [h2];exact HM.out))
    rw [h2] at HT
    have HBB:=Lib.hid (HB2.out.trans ((h5.mono (by have:=HQ.out;have:=HB2.out.size;omega))))
    clear h1 h2 h3 h4 h5 hc6
    go_wp2_with (go_at_call 132;refine HT.out.mono ?_;rintro e w5 ⟨v5,he,hl5,hb5⟩;subst he;have HL5:=Lib.hid hl5;have HB5:=Lib.hid (HBB.out.trans (hb5.mono HBB.out.size));clear hl5 hb5)
    exact bodyPost_ret (v:=.tuple #[v5,.int .i64 0]) (by simp [results,Tryz.results86,go_sem]) rfl ⟨_,rfl,HL5.out,HB5.out⟩
end Go.Proofs.YtfmceonbejlhlaaGreatDoor
