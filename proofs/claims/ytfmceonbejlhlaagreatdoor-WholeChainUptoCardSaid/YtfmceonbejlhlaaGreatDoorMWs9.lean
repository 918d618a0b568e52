import Derived.OwnWalk
import Derived.Laws.OwnMore
import Derived.RegionTactic
import Derived.Lib.Slices
import Derived.Test.YtfmceonbejlhlaaGreatDoorMWs8
namespace Go.Proofs.YtfmceonbejlhlaaGreatDoor
open Go.RowKit
set_option linter.unusedVariables false
def val:List Nat→Nat
 | []=>0
 | x :: r=>x+4294967296*val r
def Lim (xs:List Nat):Prop:=∀ x ∈ xs,x<4294967296
def limbs (n:Nat):List Nat:=if h:n=0 then [] else n % 4294967296 :: limbs (n / 4294967296)
termination_by n
decreasing_by omega
theorem limbs_zero:limbs 0=[]:=by rw [limbs];simp
theorem limbs_pos {n:Nat} (h:n ≠ 0):limbs n=n % 4294967296 :: limbs (n / 4294967296):=by rw [limbs,dif_neg h]
theorem Qap (n:Nat):val (limbs n)=n:=by
 induction n using Nat.strongRecOn with
 | _ n ih =>
   by_cases h:n=0
   · subst h;rw [limbs_zero];rfl
   · rw [limbs_pos h,val,ih _ (by omega)];omega
theorem Qay (n:Nat):Lim (limbs n):=by
 induction n using Nat.strongRecOn with
 | _ n ih =>
   by_cases h:n=0
   · subst h;rw [limbs_zero];intro x hx;simp at hx
   · rw [limbs_pos h]
     intro x hx
     rcases List.mem_cons.1 hx with rfl | hx
     · omega
     · exact ih _ (by omega) x hx
theorem Lim.tail {x:Nat} {r:List Nat} (h:Lim (x :: r)):Lim r:=fun y hy=>h y (List.mem_cons_of_mem _ hy)
theorem Lim.head {x:Nat} {r:List Nat} (h:Lim (x :: r)):x<4294967296:=h x (List.mem_cons_self ..)
theorem val_lt:∀ (xs:List Nat),Lim xs→val xs<4294967296 ^ xs.length:=by
 intro xs
 induction xs with
 | nil=>intro _;simp [val]
 | cons x r ih =>
   intro h
   have h1:=ih h.tail
   have h2:=h.head
   rw [val,List.length_cons,Nat.pow_succ]
   omega
theorem val_append (xs ys:List Nat):val (xs ++ ys)=val xs+4294967296 ^ xs.length*val ys:=by
 induction xs with
 | nil=>simp [val]
 | cons x r ih =>
   rw [List.cons_append,val,ih,val,List.length_cons,Nat.pow_succ]
   grind
theorem val_zeros (n:Nat):val (List.replicate n 0)=0:=by
 induction n with
 | zero=>rfl
 | succ n ih=>rw [List.replicate_succ,val,ih]
theorem val_all_zero {xs:List Nat} (h:∀ x ∈ xs,x=0):val xs=0:=by
 induction xs with
 | nil=>rfl
 | cons x r ih=>rw [val,ih fun y hy=>h y (List.mem_cons_of_mem _ hy),h x (List.mem_cons_self ..)]
theorem limbs_of:∀ (xs:List Nat),Lim xs→(∀ i,xs.length=i+1→xs[i]? ≠ some 0)→limbs (val xs)=xs:=by
 intro xs
 induction xs with
 | nil=>intro _ _;exact limbs_zero
 | cons x r ih =>
   intro h hn
   have hr:=ih h.tail fun i hi=>by
    have:=hn (i+1) (by simp [hi])
    simpa using this
   have hx:=h.head
   by_cases he:r=[]
   · subst he
     have h0:x ≠ 0:=fun e=>by
      have:=hn 0 rfl
      simp [e] at this
     have hv:val [x]=x:=by simp [val]
     rw [hv,limbs_pos h0,show x / 4294967296=0 by omega,limbs_zero,Nat.mod_eq_of_lt hx]
   · have hv:val r ≠ 0:=fun e=>by
      rw [e,limbs_zero] at hr
      exact he hr.symm
     rw [val,limbs_pos (by omega),show (x+4294967296*val r) % 4294967296=x by omega,show (x+4294967296*val r) / 4294967296=val r by omega,hr]
theorem limbs_last (n i:Nat) (h:(limbs n).length=i+1):(limbs n)[i]? ≠ some 0:=by
 induction n using Nat.strongRecOn generalizing i with
 | _ n ih =>
   by_cases h0:n=0
   · subst h0;rw [limbs_zero] at h;simp at h
   · rw [limbs_pos h0] at h ⊢
     rw [List.length_cons] at h
     cases i with
     | zero =>
       have hl:(limbs (n / 4294967296)).length=0:=by omega
       have hz:n / 4294967296=0:=by
        rw [← Qap (n / 4294967296),List.eq_nil_of_length_eq_zero hl]
        rfl
       simp
       omega
     | succ i =>
       simp only [List.getElem?_cons_succ]
       exact ih _ (by omega) i (by omega)
theorem Qb6 {n k:Nat} (h:n<4294967296 ^ k):(limbs n).length≤k:=by
 induction k generalizing n with
 | zero=>simp at h;subst h;simp [limbs_zero]
 | succ k ih =>
   by_cases h0:n=0
   · subst h0;simp [limbs_zero]
   · rw [limbs_pos h0,List.length_cons]
     have:n / 4294967296<4294967296 ^ k:=by rw [Nat.pow_succ] at h;omega
     have:=ih this
     omega
theorem limbs_nil {n:Nat}:limbs n=[]↔n=0:=by
 constructor
 · intro h
   rw [← Qap n,h]
   rfl
 · intro h
   rw [h,limbs_zero]
theorem val_take_drop (xs:List Nat) (n:Nat) (h:n≤xs.length):val xs=val (xs.take n)+4294967296 ^ n*val (xs.drop n):=by
 conv=>lhs;rw [← List.take_append_drop n xs]
 rw [val_append,List.length_take,Nat.min_eq_left h]
theorem limbs_take {xs:List Nat} {n:Nat} (hL:Lim xs) (hn:n≤xs.length) (h0:∀ j,n≤j→j<xs.length→xs[j]? = some 0) (h1:∀ m,n=m+1→xs[m]? ≠ some 0):xs.take n=limbs (val xs):=by
 have hz:val (xs.drop n)=0:=val_all_zero fun x hx=>by
  obtain ⟨i,hi⟩:=List.mem_iff_getElem?.1 hx
  rw [List.getElem?_drop] at hi
  have hlt:n+i<xs.length:=(List.getElem?_eq_some_iff.1 hi).1
  have:=h0 (n+i) (by omega) hlt
  rw [hi] at this
  injection this
 have hv:val xs=val (xs.take n):=by rw [val_take_drop xs n hn,hz];omega
 rw [hv,limbs_of]
 · intro x hx;exact hL x (List.mem_of_mem_take hx)
 · intro i hi
   rw [List.length_take,Nat.min_eq_left hn] at hi
   rw [List.getElem?_take,if_pos (by omega)]
   exact h1 i hi
def LAt (W:World) (v:Value) (xs:List Nat):Prop:=∃ a c,v=.slice a xs.length c∧xs.length≤c∧Lim xs∧(xs=[] ∨ ∃ g o,a=some ⟨g,o,none⟩∧g<W.heap.size∧(∃ cs fr,W.heap[g]? = some (.cells cs 152 fr))∧∀ (i x:Nat),xs[i]? = some x→W.cell? ⟨g,o+i,none⟩=some (.int .u32 (x:Int)))
theorem LAt.lim {W:World} {v:Value} {xs:List Nat} (h:LAt W v xs):Lim xs:=by obtain ⟨a,c,_,_,h,_⟩:=h;exact h
theorem LAt.below {W W':World} {v:Value} {xs:List Nat} (h:LAt W v xs) (hb:Below W.heap.size W W'):LAt W' v xs:=by
 obtain ⟨a,c,hv,hc,hl,h⟩:=h
 refine ⟨a,c,hv,hc,hl,h.imp id ?_⟩
 rintro ⟨g,o,ha,hg,⟨cs,fr,ht⟩,hx⟩
 exact ⟨g,o,ha,Nat.lt_of_lt_of_le hg hb.size,⟨cs,fr,(hb.block g hg).trans ht⟩,fun i x hi=>(hb.cell (p:=⟨g,o+i,none⟩) hg).trans (hx i x hi)⟩
theorem LAt.nil (W:World):LAt W (.slice none 0 0) []:=⟨none,0,rfl,Nat.le_refl _,fun x hx=>by simp at hx,.inl rfl⟩
theorem LAt.take {W:World} {a:Option Addr} {n c k:Nat} {xs:List Nat} (h:LAt W (.slice a n c) xs) (hk:k≤n):LAt W (.slice a k c) (xs.take k):=by
 obtain ⟨a', c', hv, hc, hl, h⟩ := h
 injection hv with e1 e2 e3
 subst e1 e3
 have hlen:(xs.take k).length=k:=by rw [List.length_take];omega
 refine ⟨a,c,by rw [hlen],by omega,fun x hx=>hl x (List.mem_of_mem_take hx),?_⟩
 rcases h with h | ⟨g,o,ha,hg,ht,hx⟩
 · left;rw [h];simp
 · right
   refine ⟨g,o,ha,hg,ht,fun i x hi=>hx i x ?_⟩
   rw [List.getElem?_take] at hi
   split at hi
   · exact hi
   · cases hi
open Go.RowKit Go.Proofs.YtfmceonbejlhlaaGreatDoorW.PrintWords Go.Proofs.YtfmceonbejlhlaaGreatDoorW.PrintLast Go.Proofs.YtfmceonbejlhlaaGreatDoorW.PrintMore
def LPost (xs:List Nat) (w:World) (e:Ending) (w':World):Prop:=∃ v,e=.returned v∧LAt w' v xs∧Below w.heap.size w w'
theorem LAt.slice {W:World} {v:Value} {xs:List Nat} (h:LAt W v xs):∃ a c,v=.slice a xs.length c∧xs.length≤c:=by obtain ⟨a,c,h1,h2,_⟩:=h;exact ⟨a,c,h1,h2⟩
theorem LAt.cells {W:World} {a:Option Addr} {n c:Nat} {xs:List Nat} (h:LAt W (.slice a n c) xs) (h0:0<n):∃ g o,a=some ⟨g,o,none⟩∧g<W.heap.size∧∀ (i x:Nat),xs[i]? = some x→W.cell? ⟨g,o+i,none⟩=some (.int .u32 (x:Int)):=by
 obtain ⟨a', c', hv, _, _, h⟩ := h
 injection hv with e1 e2 e3
 subst e1
 rcases h with h | h
 · rw [h] at e2;simp at e2;omega
 · obtain ⟨g,o,ha,hg,_,hx⟩:=h
   exact ⟨g,o,ha,hg,hx⟩
theorem LAt.len {W:World} {a:Option Addr} {n c:Nat} {xs:List Nat} (h:LAt W (.slice a n c) xs):xs.length=n∧n≤c:=by
 obtain ⟨a', c', hv, hc, _⟩ := h
 injection hv with e1 e2 e3
 exact ⟨e2.symm,by omega⟩
set_option maxHeartbeats 2000000 in
set_option maxRecDepth 100000 in
theorem trim_at (xs:List Nat) (a:Option Addr) (n c:Nat) (w:World) (h:LAt w (.slice a n c) xs) (hs:n≤1099511627776) :
 Calls Tryz.prog 130 #[.slice a n c] w (fun e w'=>∃ k,k≤n∧e=.returned (.slice a k c)∧xs.take k=limbs (val xs)∧Below w.heap.size w w'):=by
 obtain ⟨hn,hc⟩:=h.len
 have HL:=Lib.hid h
 have HN:=Lib.hid hn
 clear h hn
 go_enter Tryz.func130,Tryz.ntmps130
 go_wp2_with fail
 go_loopw [3] (fun s wr=>∃ k:Nat,k≤n∧s=.int .i64 k∧wr=w∧Hid (∀ j,k≤j→j<xs.length→xs[j]? = some 0)) (fun s _=>(intOf s).toNat)
 case atStart=>exact ⟨n,Nat.le_refl _,rfl,rfl,fun j h1 h2=>by rw [HN.out] at h2;omega⟩
 case round =>
  obtain ⟨k,hk,rfl,hwr,HZ⟩:=hrel
  subst wr
  by_cases h0:0<k
  · obtain ⟨g,o,rfl,hg,hcell⟩:=HL.out.cells (by omega)
    obtain ⟨m,hm⟩:∃ m,k=m+1:=⟨k - 1,by omega⟩
    obtain ⟨x,hx⟩:∃ x,xs[m]? = some x:=⟨_,List.getElem?_eq_getElem (by rw [HN.out];omega)⟩
    have hc1:=hcell m x hx
    have e1:IntKind.i64.wrap ((k:Int) - 1)=(m:Int):=by rw [IntKind.wrap_i64];omega
    have e2:(m:Int)<(n:Int):=by omega
    have e3:(0:Int)<(k:Int):=by omega
    have HX:=Lib.hid hx
    have HM:=Lib.hid hm
    clear hcell hx hm
    by_cases hx0:x=0
    · subst hx0
      go_wp2
      go_roundw
      case rel =>
       refine ⟨m,by have:=HM.out;omega,rfl,trivial,(show Hid _ from fun j h1 h2=>?_)⟩
       by_cases hj:j=m
       · subst hj;exact HX.out
       · exact HZ.out j (by have:=HM.out;omega) h2
      case measure=>have:=HM.out;simp [intOf];omega
    · have hxb:((x:Int) == 0)=false:=by simpa using hx0
      have e4:(k:Int)≤(c:Int):=by omega
      have HX0:=Lib.hid hx0
      clear hx0
      go_wp2
      refine bodyPost_ret (v:=.slice (some ⟨g,o,none⟩) k c) (by simp [results,Tryz.results130,go_sem]) rfl ⟨k,hk,rfl,?_,Below.refl _ _⟩
      exact limbs_take HL.out.lim (by rw [HN.out];exact hk) HZ.out (fun m' hm'=>by
       have e:m'=m:=by have:=HM.out;omega
       rw [e,HX.out]
       intro h;injection h with h;exact HX0.out h)
  · obtain rfl:k=0:=by omega
    have e4:(0:Int)≤(c:Int):=by omega
    go_wp2
    refine bodyPost_ret (v:=.slice a 0 c) (by simp [results,Tryz.results130,go_sem]) rfl ⟨0,hk,rfl,?_,Below.refl _ _⟩
    exact limbs_take HL.out.lim (by omega) HZ.out (fun m' hm'=>by omega)
theorem Qbq (xs:List Nat) (v:Value) (w:World) (h:LAt w v xs) (hs:xs.length≤1099511627776) :
 Calls Tryz.prog 130 #[v] w (LPost (limbs (val xs)) w):=by
 obtain ⟨a,c,rfl,hc⟩:=h.slice
 refine (trim_at xs a xs.length c w h hs).mono ?_
 rintro e w' ⟨k,hk,rfl,ht,hb⟩
 refine ⟨_,rfl,?_,hb⟩
 have:=(LAt.take h hk).below hb
 rwa [ht] at this
def FitAt (W:World) (g:Nat) (l:List (Value × List Nat)):Prop:=g<W.heap.size∧∀ (i:Nat) p,l[i]? = some p→W.cell? ⟨g,i,none⟩=some p.1∧LAt W p.1 p.2∧p.2.length≤1099511627776∧(limbs (val p.2)).length≤4096
theorem FitAt.below {W W':World} {g:Nat} {l:List (Value × List Nat)} (h:FitAt W g l) (hb:Below W.heap.size W W'):FitAt W' g l :=
 ⟨Nat.lt_of_lt_of_le h.1 hb.size,fun i p hi=>⟨(hb.cell (p:=⟨g,i,none⟩) h.1).trans (h.2 i p hi).1,(h.2 i p hi).2.1.below hb,(h.2 i p hi).2.2⟩⟩
set_option maxHeartbeats 2000000 in
set_option maxRecDepth 100000 in
theorem fits_any (l:List (Value × List Nat)) (g n c:Nat) (w:World) (hn:l.length=n) (h:FitAt w g l) (hs:n≤1099511627776) :
 Calls Tryz.prog 128 #[.slice (some ⟨g,0,none⟩) n c] w (Ret (.bool true) w):=by
 have HF:=Lib.hid h
 have HN:=Lib.hid hn
 clear h hn
 go_enter Tryz.func128,Tryz.ntmps128
 go_wp2_with fail
 go_loopw [7] (fun s wr=>∃ k:Nat,k≤n∧s=.int .i64 k∧Hid (Below w.heap.size w wr)) (fun s _=>n - (intOf s).toNat)
 case atStart=>exact ⟨0,Nat.zero_le _,rfl,Below.refl _ _⟩
 case round =>
  obtain ⟨k,hk,rfl,HB⟩:=hrel
  by_cases hlt:k<n
  · obtain ⟨p,hp⟩:∃ p,l[k]? = some p:=⟨_,List.getElem?_eq_getElem (by rw [HN.out];exact hlt)⟩
    obtain ⟨v,xs⟩:=p
    obtain ⟨hc1,hl1,hs1,hf1⟩:=(HF.out.below HB.out).2 k (v,xs) hp
    simp only at hc1 hl1 hs1 hf1
    have HT:=Lib.hid (Qbq xs v wr hl1 hs1)
    have HF1:=Lib.hid hf1
    have e2:(k:Int)<(n:Int):=by omega
    clear hl1 hs1 hf1 hp
    go_wp2_with (go_at_call 130;refine HT.out.mono ?_;rintro e w1 ⟨v1,he,hl1,hb1⟩;subst he;obtain ⟨a1,c1,hv1,hc1⟩:=hl1.slice;subst hv1;have f1:((limbs (val xs)).length:Int)≤4096:=(by have:=HF1.out;omega);have HB1:=Lib.hid (HB.out.trans (hb1.mono HB.out.size));clear hb1 hl1)
    go_roundw
    case rel=>exact ⟨k+1,by omega,by go_num,HB1⟩
    case measure=>simp [intOf];omega
  · obtain rfl:k=n:=by omega
    have e2:¬ (k:Int)<(k:Int):=by omega
    go_wp2
    exact bodyPost_ret (v:=.bool true) (by simp [results,Tryz.results128,go_sem]) rfl ⟨rfl,HB.out⟩
def U (xs:List Nat):List Value:=xs.map fun x:Nat=>Value.int .u32 (x:Int)
theorem U_len (xs:List Nat):(U xs).length=xs.length:=by simp [U]
theorem U_get {xs:List Nat} {i x:Nat} (h:xs[i]? = some x):(U xs)[i]? = some (.int .u32 (x:Int)):=by simp [U,h]
theorem U_app (xs ys:List Nat):U (xs ++ ys)=U xs ++ U ys:=by simp [U]
theorem U_set (xs:List Nat) (i x:Nat):U (xs.set i x)=(U xs).set i (.int .u32 (x:Int)):=by simp [U]
theorem U_one (xs:List Nat):∀ u ∈ U xs,u.oneCell'=true:=by
 intro u hu
 obtain ⟨x,_,rfl⟩:=List.mem_map.1 hu
 rfl
def LOwn (W:World) (base:Nat) (v:Value) (xs:List Nat):Prop:=W.ownsRow base 152 1 v xs.length (U xs)
theorem LOwn.at_ {W:World} {base:Nat} {v:Value} {xs:List Nat} (h:LOwn W base v xs) (hl:Lim xs):LAt W v xs:=by
 rcases h.2 with ⟨hv,hx⟩ | ⟨g,cap,cur,hv,h1⟩
 · have:xs=[]:=List.eq_nil_of_length_eq_zero hx
   subst this
   subst hv
   exact ⟨none,0,rfl,Nat.le_refl _,hl,.inl rfl⟩
 · obtain ⟨_,_,h2,_⟩:=h1
   subst hv
   refine ⟨_,_,rfl,h2,hl,.inr ⟨g,0,rfl,own_lt h g rfl,(by obtain ⟨cs,hc⟩:=Qba h g rfl;exact ⟨cs,_,hc⟩),fun i x hi=>?_⟩⟩
   have:=h.cells (g:=g) rfl i _ (U_get hi)
   rwa [WideShapes.add_plain] at this
theorem LOwn.below {W W':World} {base:Nat} {v:Value} {xs:List Nat} (h:LOwn W base v xs) (hb:Below W.heap.size W W'):LOwn W' base v xs:=by
 refine ⟨h.1,h.2.imp id ?_⟩
 rintro ⟨g,cap,cur,hv,hg,hc,r⟩
 have hlt:g<W.heap.size:=by
  by_cases hl:g<W.heap.size
  · exact hl
  · rw [Array.getElem?_eq_none (by omega)] at hc;cases hc
 exact ⟨g,cap,cur,hv,hg,(hb.block g hlt).trans hc,r⟩
theorem eq_nil_slice (w:World) (a:Option Addr) (n c n' c':Nat):(binOp .eql 150 (.slice a n c) (.slice none n' c')).run Tryz.prog w=.ok (.bool a.isNone) w:=Lib.run_eql_slice_nil w _ _ a n c n' c' Tryz.underlying150
set_option maxHeartbeats 2000000 in
set_option maxRecDepth 100000 in
theorem clone_any (xs:List Nat) (v:Value) (w:World) (h:LAt w v xs) (hs:xs.length≤1099511627776) :
 Calls Tryz.prog 129 #[v] w (fun e w' => ∃ v', e = .returned v' ∧ LOwn w' w.heap.size v' xs ∧ Below w.heap.size w w') := by
 obtain ⟨a,c,rfl,hc⟩:=h.slice
 obtain ⟨n,hn⟩:∃ n,xs.length=n:=⟨_,rfl⟩
 obtain ⟨i0,hi,hz0,hz1,hz2⟩:=info_parts info152
 rw [hn] at h hc hs ⊢
 have q150:=eq_nil_slice
 cases a with
 | none =>
   have h0:n=0:=by
    by_cases h0:0<n
    · obtain ⟨g,o,e,_⟩:=h.cells h0
      cases e
    · omega
   subst h0
   have hx:xs=[]:=List.eq_nil_of_length_eq_zero hn
   subst hx
   go_enter Tryz.func129,Tryz.ntmps129
   go_wp2
   exact bodyPost_ret (v:=.slice none 0 0) (by simp [results,Tryz.results129,go_sem]) rfl ⟨_,rfl,World.ownsRow_nil _ _ _ _,Below.refl _ _⟩
 | some b =>
   have HC:Hid (∀ j u,(U xs)[j]? = some u→w.cell? (b.add j)=some u):=Lib.hid fun j u hj=>by
    have hlt:j<xs.length:=by
     have:=(List.getElem?_eq_some_iff.1 hj).1
     rwa [U_len] at this
    obtain ⟨g,o,e,_,hx⟩:=h.cells (by omega)
    injection e with e
    subst e
    rw [WideShapes.add_plain,hx j _ (List.getElem?_eq_getElem hlt),← hj,U_get (List.getElem?_eq_getElem hlt)]
   have HN:=Lib.hid hn
   clear h hn
   go_enter Tryz.func129,Tryz.ntmps129
   go_wp2_with (at_builtin;refine wpList_append_own _ rfl _ _ 150 rfl w.heap.size 152 i0 (.int .u32 0) 1 4 Tryz.underlying150 hi hz0 hz1 hz2 rfl (by omega) _ _ _ rfl (World.ownsRow_made w #[] 0 (Nat.le_refl _) (Nat.zero_le _) (by simp)) b n c (U xs) rfl ?qc1 ?qc2 ?qc3 ?qc4 ?qc5 ?qc6 ?_)
   case qc1=>rw [U_len,HN.out,Nat.mul_one]
   case qc2 =>
    intro j u hj
    exact Lib.cell?_alloc_some _ (HC.out j u hj)
   case qc3=>exact U_one xs
   case qc4=>rw [Nat.zero_add];unfold maxLen;omega
   case qc5=>rw [Nat.zero_add];omega
   case qc6=>simp
   intro v' w1 hown hgrow hnil
   go_wp2
   refine bodyPost_ret (v := v') (by simp [results, Tryz.results129, go_sem]) rfl ⟨v', rfl, ?_, ?_⟩
   · unfold LOwn;rw [HN.out];simpa using hown
   · exact ((Below.refl _ w).alloc (Nat.le_refl _) _).grown hgrow (by simp) (by intro k hk;simp [Value.ownBlock] at hk;omega)
def Sm (n:Nat):Prop:=(limbs n).length≤4096
def NPost (n:Nat) (w:World) (e:Ending) (w':World):Prop:=∃ v,e=.returned (.tuple #[v,.int .i64 0])∧LAt w' v (limbs n)∧Below w.heap.size w w'
theorem fit_one (w:World) (v:Value) (xs:List Nat) (h:LAt w v xs) (hs:xs.length≤1099511627776) (hm:Sm (val xs)):FitAt (w.alloc (.cells #[v] 150)) w.heap.size [(v,xs)]:=by
 have hb:=(Below.refl w.heap.size w).alloc (Nat.le_refl _) (.cells #[v] 150)
 refine ⟨by simp,fun i p hi=>?_⟩
 match i,hi with
 | 0,hi =>
   injection hi with hi
   subst hi
   exact ⟨cell_of_row _ _ 0 _ _ _ (heap_alloc_new w _),h.below hb,hs,hm⟩
theorem fit_two (w:World) (v u:Value) (xs ys:List Nat) (h:LAt w v xs) (hs:xs.length≤1099511627776) (hm:Sm (val xs)) (h2:LAt w u ys) (hs2:ys.length≤1099511627776) (hm2:Sm (val ys)):FitAt (w.alloc (.cells #[v,u] 150)) w.heap.size [(v,xs),(u,ys)]:=by
 have hb:=(Below.refl w.heap.size w).alloc (Nat.le_refl _) (.cells #[v,u] 150)
 refine ⟨by simp,fun i p hi=>?_⟩
 match i,hi with
 | 0,hi =>
   injection hi with hi
   subst hi
   exact ⟨cell_of_row _ _ 0 _ _ _ (heap_alloc_new w _),h.below hb,hs,hm⟩
 | 1,hi =>
   injection hi with hi
   subst hi
   exact ⟨cell_of_row _ _ 1 _ _ _ (heap_alloc_new w _),h2.below hb,hs2,hm2⟩
set_option maxHeartbeats 2000000 in
set_option maxRecDepth 100000 in
theorem told_any (xs:List Nat) (v:Value) (w:World) (h:LAt w v xs) (hs:xs.length≤1099511627776) (hm:Sm (val xs)) :
 Calls Tryz.prog 132 #[v] w (NPost (val xs) w):=by
 obtain ⟨a,c,hv,hc⟩:=h.slice
 obtain ⟨n,hn⟩:∃ n,xs.length=n:=⟨_,rfl⟩
 rw [hn] at hv
 subst hv
 have hb0:=(Below.refl w.heap.size w).alloc (Nat.le_refl _) (.cells #[.slice a n c] 150)
 have HF:=Lib.hid (fits_any [(.slice a n c,xs)] w.heap.size 1 1 _ rfl (fit_one w (.slice a n c) xs h hs hm) (by omega))
 have HB0:=Lib.hid hb0
 have HL:=Lib.hid h
 have HS:=Lib.hid (show xs.length≤1099511627776∧(limbs (val xs)).length≤4096 from ⟨hs,hm⟩)
 clear h hb0 hm hn
 go_enter Tryz.func132,Tryz.ntmps132
 go_wp2_with (first
  | (go_at_call 128;refine HF.out.mono ?_;rintro e w1 ⟨he,hb1⟩;subst he;have HB1:=Lib.hid (HB0.out.trans (hb1.mono HB0.out.size));clear hb1)
  | (go_at_call 130;refine (Qbq xs (.slice a n c) w1 (HL.out.below HB1.out) HS.out.1).mono ?_;rintro e w2 ⟨v2,he,hl2,hb2⟩;subst he;have HL2:=Lib.hid hl2;have HB2:=Lib.hid (HB1.out.trans (hb2.mono HB1.out.size));clear hb2 hl2)
  | (go_at_call 129;refine (clone_any (limbs (val xs)) v2 w2 HL2.out (by have:=HS.out.2;omega)).mono ?_;rintro e w3 ⟨v3,he,hl3,hb3⟩;subst he;have HL3:=Lib.hid hl3;have HB3:=Lib.hid (HB2.out.trans (hb3.mono HB2.out.size));clear hb3 hl3))
 exact bodyPost_ret (v:=.tuple #[v3,.int .i64 0]) (by simp [results,Tryz.results132,go_sem]) rfl ⟨_,rfl,HL3.out.at_ (Qay _),HB3.out⟩
set_option maxHeartbeats 2000000 in
theorem low_any (x:Nat) (w:World) (hx:x<18446744073709551616) :
 Calls Tryz.prog 131 #[.int .u64 (x:Int)] w (fun e w'=>e=.returned (.tuple #[.int .u32 ((x % 4294967296:Nat):Int),.int .u64 ((x / 4294967296:Nat):Int)])∧w'=w):=by
 have e1:IntKind.u32.wrap (x:Int)=((x % 4294967296:Nat):Int):=by rw [IntKind.wrap_u32];omega
 have e2:(x:Int) / 4294967296=((x / 4294967296:Nat):Int):=by omega
 obtain ⟨p,hp⟩:∃ p,x % 4294967296=p:=⟨_,rfl⟩
 obtain ⟨q,hq⟩:∃ q,x / 4294967296=q:=⟨_,rfl⟩
 rw [hp] at e1 ⊢
 rw [hq] at e2 ⊢
 clear hp hq
 go_enter Tryz.func131,Tryz.ntmps131
 go_wp2
 exact bodyPost_ret (v:=.tuple #[.int .u32 p,.int .u64 q]) (by simp [results,Tryz.results131,go_sem]) rfl ⟨rfl,rfl⟩
end Go.Proofs.YtfmceonbejlhlaaGreatDoor
