import Derived.Laws.MakeOwn
import Derived.Deep.RegionHeld3
import Derived.Deep.AppendLies
import Derived.Test.YtfmceonbejlhlaaGreatDoorMWs38
import Derived.Test.YtfmceonbejlhlaaGreatDoorMWs39
namespace Go.Proofs.YtfmceonbejlhlaaGreatDoor
open Go.RowKit Go.Proofs.YtfmceonbejlhlaaGreatDoorW.PrintWords Go.Proofs.YtfmceonbejlhlaaGreatDoorW.PrintLast Go.Proofs.YtfmceonbejlhlaaGreatDoorW.PrintMore
set_option linter.unusedVariables false
theorem info25:(Tryz.prog.info? 25).map (fun i=>(i.zero,i.size,i.bytes))=some (some (.agg #[.int .i64 0,.bool false,.int .u64 0,.string ⟨#[]⟩,.slice none 0 0]),5,64):=by kernel_rfl
theorem make25 (n:Nat) (hn:n≤4294967296):∃ zc:Array Value,zc.size=n*5∧∀ W,(Instr.makeSlice 23 (.int .i64 (n:Int)) (.int .i64 (n:Int))).run Tryz.prog W=.ok (.slice (some ⟨W.heap.size,0,none⟩) n n) (W.alloc (.cells zc 25)):=by
 obtain ⟨i0,hi,hz0,hz1,hz2⟩:=info_parts info25
 refine ⟨madeCells (Value.agg #[.int .i64 0,.bool false,.int .u64 0,.string ⟨#[]⟩,.slice none 0 0]).cells (n*5),size_madeCells _ _,fun W=>?_⟩
 have:=run_make (P:=Tryz.prog) W 23 25 i0 _ Tryz.underlying23 hi hz0 .i64 .i64 (n:Int) (n:Int) (by omega) (by omega) (by rw [hz2];omega) (by omega)
 rw [hz1,Int.toNat_natCast] at this
 exact this
def Rowg (W:World) (g n:Nat) (us:List T):Prop:=(∃ cs,W.heap[g]? = some (.cells cs 25 (0,0))∧cs.size=n*5)∧TreeL W (fun b=>TyAt W b 25∧g<b) us g 0
theorem Rowg.ty {W:World} {g n:Nat} {us:List T} (h:Rowg W g n us):TyAt W g 25:=by
 obtain ⟨⟨cs,h1,_⟩,_⟩:=h
 exact ⟨cs,_,h1⟩
theorem Rowg.fz {W:World} {g n:Nat} {us:List T} (h:Rowg W g n us) (j:Nat):W.frozen? ⟨g,j,none⟩=false:=by
 obtain ⟨⟨cs,h1,_⟩,_⟩:=h
 exact frozen_of_row W g j _ _ h1
theorem Rowg.there {W:World} {g n:Nat} {us:List T} (h:Rowg W g n us) (j:Nat) (hj:j<n*5):∃ v,W.cell? ⟨g,j,none⟩=some v:=by
 obtain ⟨⟨cs,h1,h2⟩,_⟩:=h
 refine ⟨cs[j]'(by omega),(cell_of_row W g j _ _ _ h1).trans ?_⟩
 rw [Array.getElem?_eq_getElem (by omega)]
theorem Rowg.keep {W W':World} {pl g n m:Nat} {us:List T} (h:Rowg W g n us) (hL:Qa7 W pl m) (hb:Bc pl W W'):Rowg W' g n us:=by
 have hg:=hL.type h.ty (by decide)
 obtain ⟨⟨cs,h1,h2⟩,h3⟩:=h
 have h1':=hb.cells h1 hg (by decide)
 have hty:∀ b,TyAt W b 25→W'.heap[b]? = W.heap[b]?∧TyAt W' b 25:=fun b hb'=>by
  have hne:=hL.type hb' (by decide)
  obtain ⟨cs', fr, hc⟩ := hb'
  have:=hb.cells hc hne (by decide)
  exact ⟨this.trans hc.symm, cs', fr, this⟩
 refine ⟨⟨cs, h1', h2⟩, treeL_mk fun i t e => ?_⟩
 obtain ⟨a,c,q1,q2,q3⟩:=treeL_at h3 e
 exact ⟨a,c,fun j v hv=>(cell_same (h1'.trans h1.symm) _).trans (q1 j v hv),q2,Qaq (fun b hb'=>⟨(hty b hb'.1).2,hb'.2⟩) (fun b hb'=>(hty b hb'.1).1) q3⟩
theorem heap_set1 {W:World} {g:Nat} {cs:Array Value} {t:TypeId} (h:W.heap[g]? = some (.cells cs t (0,0))) (i:Nat) (u:Value):(W.setCell ⟨g,i,none⟩ u).heap[g]? = some (.cells (cs.setIfInBounds i u) t (0,0)):=by
 simp [World.setCell,Array.getElem?_modify,h]
def put5at (W:World) (g o:Nat) (v0 v1 v2 v3 v4:Value):World:=((((W.setCell ⟨g,o,none⟩ v0).setCell ⟨g,o+1,none⟩ v1).setCell ⟨g,o+2,none⟩ v2).setCell ⟨g,o+3,none⟩ v3).setCell ⟨g,o+4,none⟩ v4
theorem Qb7 {W:World} {g o k:Nat} (h:k ≠ g) (v0 v1 v2 v3 v4:Value):(put5at W g o v0 v1 v2 v3 v4).heap[k]? = W.heap[k]?:=by
 unfold put5at
 rw [Below.heap_setCell _ ⟨g,o+4,none⟩ _ k h,Below.heap_setCell _ ⟨g,o+3,none⟩ _ k h,Below.heap_setCell _ ⟨g,o+2,none⟩ _ k h,Below.heap_setCell _ ⟨g,o+1,none⟩ _ k h,Below.heap_setCell _ ⟨g,o,none⟩ _ k h]
theorem row_put5at {W:World} {g o:Nat} {cs:Array Value} {t:TypeId} (h:W.heap[g]? = some (.cells cs t (0,0))) (v0 v1 v2 v3 v4:Value) :
 (put5at W g o v0 v1 v2 v3 v4).heap[g]? = some (.cells (((((cs.setIfInBounds o v0).setIfInBounds (o+1) v1).setIfInBounds (o+2) v2).setIfInBounds (o+3) v3).setIfInBounds (o+4) v4) t (0,0)) :=
 heap_set1 (heap_set1 (heap_set1 (heap_set1 (heap_set1 h o v0) (o+1) v1) (o+2) v2) (o+3) v3) (o+4) v4
theorem size_put5at (W:World) (g o:Nat) (v0 v1 v2 v3 v4:Value):(put5at W g o v0 v1 v2 v3 v4).heap.size=W.heap.size:=by simp [put5at,World.setCell]
theorem below_put5at {B:Nat} {w W:World} (h:Below B w W) {g:Nat} (hg:B≤g) (o:Nat) (v0 v1 v2 v3 v4:Value):Below B w (put5at W g o v0 v1 v2 v3 v4) :=
 ((((h.setCell (p:=⟨g,o,none⟩) hg _).setCell (p:=⟨g,o+1,none⟩) hg _).setCell (p:=⟨g,o+2,none⟩) hg _).setCell (p:=⟨g,o+3,none⟩) hg _).setCell (p:=⟨g,o+4,none⟩) hg _
theorem Bc.put5at {pl g:Nat} {W W':World} (h:Bc pl W W') (hp:pl≤W.heap.size) (hg:W.heap.size≤g) (o:Nat) (v0 v1 v2 v3 v4:Value):Bc pl W (put5at W' g o v0 v1 v2 v3 v4) :=
 ⟨below_put5at h.1 (Nat.le_trans hp hg) _ _ _ _ _ _,by rw [size_put5at];exact h.2.1,fun k cs t fr hx ht hk=>(Qb7 (by have:=(Array.getElem?_eq_some_iff.1 hk).1;omega) _ _ _ _ _).trans (h.2.2 k cs t fr hx ht hk)⟩
theorem Qa7.put5at {pl g o n:Nat} {W:World} (h:Qa7 W pl n) (hg:TyAt W g 25) (v0 v1 v2 v3 v4:Value):Qa7 (put5at W g o v0 v1 v2 v3 v4) pl n:=by
 have hne:=h.type hg (by decide)
 obtain ⟨v,xs,h1,h2⟩:=h
 refine ⟨v,xs,(Qb7 (Ne.symm hne) _ _ _ _ _).trans h1,Qbl h2 fun k hk=>Qb7 (fun e=>?_) _ _ _ _ _⟩
 subst e
 obtain ⟨cells,hc⟩:=Qba h2 k hk
 obtain ⟨cs,fr,hg⟩:=hg
 rw [hc] at hg
 injection hg with hg
 injection hg with _ hg
 exact absurd hg (by decide)
theorem Rowg.push {W:World} {g n:Nat} {us:List T} {u:T} {a:Option Addr} {c:Nat} (h:Rowg W g n us) (hj:us.length<n) (ht:Tree W (fun b=>TyAt W b 25∧g<b) u a) (hc:u.f4.length≤c) :
 Rowg (put5at W g (us.length*5) (.int .i64 u.f0) (.bool u.f1) (.int .u64 u.f2) (.string u.f3) (.slice a u.f4.length c)) g n (us ++ [u]):=by
 obtain ⟨⟨cs,h1,h2⟩,h3⟩:=h
 have hr:=row_put5at (o:=us.length*5) h1 (.int .i64 u.f0) (.bool u.f1) (.int .u64 u.f2) (.string u.f3) (.slice a u.f4.length c)
 have hP:∀ b,(TyAt W b 25∧g<b)→(TyAt (put5at W g (us.length*5) (.int .i64 u.f0) (.bool u.f1) (.int .u64 u.f2) (.string u.f3) (.slice a u.f4.length c)) b 25∧g<b):=fun b hb=>by
  obtain ⟨⟨cs', fr, hb1⟩, hb2⟩ := hb
  exact ⟨⟨cs', fr, (Qb7 (by omega) _ _ _ _ _).trans hb1⟩, hb2⟩
 have hk:∀ b,(TyAt W b 25∧g<b)→(put5at W g (us.length*5) (.int .i64 u.f0) (.bool u.f1) (.int .u64 u.f2) (.string u.f3) (.slice a u.f4.length c)).heap[b]? = W.heap[b]?:=fun b hb=>Qb7 (by have:=hb.2;omega) _ _ _ _ _
 refine ⟨⟨_,hr,by simpa using h2⟩,treeL_mk fun i t e=>?_⟩
 by_cases hi:i<us.length
 · rw [List.getElem?_append_left hi] at e
   obtain ⟨a', c', q1, q2, q3⟩ := treeL_at h3 e
   refine ⟨a', c', fun j v hv => ?_, q2, Qaq hP hk q3⟩
   have hj5:j<5:=by
    have:=(Array.getElem?_eq_some_iff.1 hv).1
    simpa [five] using this
   have q4:=q1 j v hv
   rw [cell_of_row _ _ _ _ _ _ h1] at q4
   rw [cell_of_row _ _ _ _ _ _ hr,← q4]
   rw [Array.getElem?_setIfInBounds_ne (by omega),Array.getElem?_setIfInBounds_ne (by omega),Array.getElem?_setIfInBounds_ne (by omega),Array.getElem?_setIfInBounds_ne (by omega),Array.getElem?_setIfInBounds_ne (by omega)]
 · have hi2:i=us.length:=by
    have:=(List.getElem?_eq_some_iff.1 e).1
    simp at this;omega
   subst hi2
   rw [List.getElem?_append_right (by omega),Nat.sub_self] at e
   cases e
   refine ⟨a,c,fun j v hv=>?_,hc,Qaq hP hk ht⟩
   have hj5:j<5:=by
    have:=(Array.getElem?_eq_some_iff.1 hv).1
    simpa [five] using this
   rw [cell_of_row _ _ _ _ _ _ hr,← hv]
   obtain ⟨o,ho⟩:∃ o,us.length*5=o:=⟨_,rfl⟩
   have hcs:o+5≤cs.size:=by omega
   rw [show 0+5*us.length+j=o+j by omega,ho]
   unfold five
   obtain rfl | rfl | rfl | rfl | rfl:j=0 ∨ j=1 ∨ j=2 ∨ j=3 ∨ j=4:=by omega
   all_goals simp [Array.getElem?_setIfInBounds]
   all_goals omega
theorem rowg_new {W:World} {zc:Array Value} {n:Nat} (h:zc.size=n*5):Rowg (W.alloc (.cells zc 25)) W.heap.size n []:=⟨⟨zc,heap_alloc_new W _,h⟩,trivial⟩
theorem TyAt.ne {W:World} {a g:Nat} {cs:Array Value} {t u:TypeId} {fr:Nat × Nat} (hg:TyAt W g u) (h:W.heap[a]? = some (.cells cs t fr)) (ht:t ≠ u):a ≠ g:=fun e=>by
 subst e
 obtain ⟨cs', fr', hg⟩ := hg
 rw [h] at hg
 injection hg with hg
 injection hg with _ hg
 exact ht hg
theorem PSt.other {W W1 W2:World} {f:Int} {pl qF ps pb n pm pc q g:Nat} {A:Option Addr} {px:List Value} {k:Int} {neg:Bool} {nn:Int} {s:ByteArray} {lv:Value} (h:PSt W W1 f pl qF ps pb n pm pc q A px k neg nn s lv) (hg:TyAt W1 g 25) (hs:∀ b,b ≠ g→W2.heap[b]? = W1.heap[b]?) (hbc:Bc pl W W2) (h1:g ≠ q+1) (h2:g ≠ q+1+1) :
 PSt W W2 f pl qF ps pb n pm pc q A px k neg nn s lv:=by
 refine ⟨hbc,h.plq,⟨(hs _ (hg.ne h.env.fb (by decide))).trans h.env.fb,(hs _ (hg.ne h.env.sb (by decide))).trans h.env.sb,(hs _ (hg.ne h.env.bb (by decide))).trans h.env.bb⟩,?_,?_,(hs _ (hg.ne h.bp (by decide))).trans h.bp,(hs _ (Ne.symm h1)).trans h.bv,(hs _ (Ne.symm h2)).trans h.br⟩
 · obtain ⟨v,xs,q1,q2⟩:=h.lost
   refine ⟨v,xs,(hs _ (hg.ne q1 (by decide))).trans q1,Qbl q2 fun b hb=>hs b ?_⟩
   obtain ⟨cells,hc⟩:=Qba q2 b hb
   exact hg.ne hc (by decide)
 · obtain ⟨⟨q1,q2,q3,q4,q5⟩,q6⟩:=h.path
   refine ⟨⟨q1,q2,q3,q4,fun b hb=>?_⟩,q6⟩
   obtain ⟨gp,e,hx,⟨cs,fr,ht⟩,hc⟩:=q5 b hb
   have hsm:=hs gp (hg.ne ht (by decide))
   exact ⟨gp,e,hx,⟨cs,fr,hsm.trans ht⟩,fun j u hu=>(cell_same hsm j).trans (hc j u hu)⟩
theorem Bc.set1 {pl q i:Nat} {W W':World} (h:Bc pl W W') (hp:pl≤W.heap.size) (hq:W.heap.size≤q) (v:Value):Bc pl W (W'.setCell ⟨q,i,none⟩ v) :=
 ⟨h.1.setCell (p:=⟨q,i,none⟩) (Nat.le_trans hp hq) v,by simpa [World.setCell] using h.2.1,fun g cs t fr hx ht hg=>(Below.heap_setCell W' ⟨q,i,none⟩ v g (by have:=(Array.getElem?_eq_some_iff.1 hg).1;show g ≠ q;omega)).trans (h.2.2 g cs t fr hx ht hg)⟩
structure LSt (W wr:World) (f:Int) (pl qF ps pb n pm pc q qx g ln:Nat) (A:Option Addr) (px:List Value) (k:Int) (neg:Bool) (nn:Int) (s:ByteArray) (lv:Value) (us:List T):Prop where
 st:PSt W wr f pl qF ps pb n pm pc q A px k neg nn s lv
 xr:Row5 wr qx (.int .i64 k) (.bool neg) (.int .u64 nn) (.string s) (.slice (some ⟨g,0,none⟩) ln ln)
 row:Rowg wr g ln us
theorem LSt.keep {W W1 W2:World} {f:Int} {pl qF ps pb n n2 pm pc q qx g ln:Nat} {A:Option Addr} {px:List Value} {k:Int} {neg:Bool} {nn:Int} {s:ByteArray} {lv:Value} {us:List T} (h:LSt W W1 f pl qF ps pb n pm pc q qx g ln A px k neg nn s lv us) (hb:Bc pl W1 W2) (hL:Qa7 W2 pl n2):LSt W W2 f pl qF ps pb n2 pm pc q qx g ln A px k neg nn s lv us :=
 ⟨h.st.keep hb hL,hb.row5 h.xr (h.st.lost.type ⟨_,_,h.xr⟩ (by decide)),h.row.keep h.st.lost hb⟩
theorem LSt.below {W W1 W2:World} {f:Int} {pl qF ps pb n pm pc q qx g ln:Nat} {A:Option Addr} {px:List Value} {k:Int} {neg:Bool} {nn:Int} {s:ByteArray} {lv:Value} {us:List T} (h:LSt W W1 f pl qF ps pb n pm pc q qx g ln A px k neg nn s lv us) (hb:Below W1.heap.size W1 W2):LSt W W2 f pl qF ps pb n pm pc q qx g ln A px k neg nn s lv us :=
 h.keep (Bc.of_below (Nat.le_of_lt h.st.lost.lt) hb) (h.st.lost.below hb)
theorem LSt.push {W W1:World} {f:Int} {pl qF ps pb n pm pc q qx g ln:Nat} {A:Option Addr} {px:List Value} {k:Int} {neg:Bool} {nn:Int} {s:ByteArray} {lv:Value} {us:List T} (h:LSt W W1 f pl qF ps pb n pm pc q qx g ln A px k neg nn s lv us) (hW:W.heap.size≤g) (hp:pl≤W.heap.size) (hq1:g ≠ q+1) (hq2:g ≠ q+1+1) (hqx:g ≠ qx) (hj:us.length<ln)
 {u:T} {a:Option Addr} {c:Nat} (ht:Tree W1 (fun b=>TyAt W1 b 25∧g<b) u a) (hc:u.f4.length≤c):LSt W (put5at W1 g (us.length*5) (.int .i64 u.f0) (.bool u.f1) (.int .u64 u.f2) (.string u.f3) (.slice a u.f4.length c)) f pl qF ps pb n pm pc q qx g ln A px k neg nn s lv (us ++ [u]) :=
 ⟨h.st.other h.row.ty (fun b hb=>Qb7 hb _ _ _ _ _) (Bc.put5at h.st.bc hp hW _ _ _ _ _ _) hq1 hq2,(Qb7 (Ne.symm hqx) _ _ _ _ _).trans h.xr,h.row.push hj ht hc⟩
theorem cell_nest {W:World} {g o b i:Nat} {v:Value} (hc:W.cell? ⟨b,i,none⟩=some v) (h:b ≠ g) (v0 v1 v2 v3 v4:Value):(((((W.setCell ⟨g,o,none⟩ v0).setCell ⟨g,o+1,none⟩ v1).setCell ⟨g,o+2,none⟩ v2).setCell ⟨g,o+3,none⟩ v3).setCell ⟨g,o+4,none⟩ v4).cell? ⟨b,i,none⟩=some v :=
 (cell_same (Qb7 h v0 v1 v2 v3 v4) i).trans hc
theorem TyAt.lt {W:World} {g:Nat} {t:TypeId} (h:TyAt W g t):g<W.heap.size:=by
 obtain ⟨cs,fr,h⟩:=h
 exact (Array.getElem?_eq_some_iff.1 h).1
theorem take_more {ll:List T} {j:Nat} {x:T} (h:ll[j]? = some x):ll.take (j+1)=ll.take j ++ [x]:=by rw [List.take_add_one,h];rfl
theorem preL_room {ll:List T} {j:Nat} {x:T} (h:ll[j]? = some x):(preL (ll.take j)).length+(preF x).length≤(preL ll).length∧(preL (ll.take (j+1))).length=(preL (ll.take j)).length+(preF x).length:=by
 obtain ⟨r,hr⟩:=preL_take_len h
 have h1:=congrArg List.length hr
 have h2:=congrArg List.length (preL_take h)
 simp only [List.length_append] at h1 h2
 omega
set_option maxRecDepth 100000 in
set_option maxHeartbeats 8000000 in
theorem become_node (f:Int) (hf:f=0 ∨ f=1 ∨ f=2) (k:Int) (neg:Bool) (nn:Int) (s:ByteArray) (ll:List T) (hs:sayB f k neg nn=true) (hck:Qaz ⟨k,neg,nn,s,ll⟩=0) (hwf:Wf ⟨k,neg,nn,s,ll⟩) (hbk:bulk ⟨k,neg,nn,s,ll⟩≤2147483648) (hC:∀ x ∈ ll,BecC f x):BecC f ⟨k,neg,nn,s,ll⟩:=by
 intro pl qF ps pb n pm pc c A a px W hE hL hP hT hc ht hm hn
 dsimp only at hc ⊢
 have hu:U64 nn:=u64_of_wf (wfT.1 hwf).2.1
 have hTL:=(Qb1 hT).2
 dsimp only at hTL
 have HR:=Lib.hid (fun W'=>rule_said f hf k neg nn hu s a ll.length c W' hs)
 have hB:=pst_new (k:=k) (neg:=neg) (nn:=nn) (s:=s) (lv:=.slice a ll.length c) hE hL hP
 obtain ⟨q,hq⟩:∃ q,W.heap.size=q:=⟨_,rfl⟩
 obtain ⟨W1,hW1⟩:∃ W1,((W.alloc (.cells #[.slice A pm pc] 63)).alloc (.cells #[.int .i64 k,.bool neg,.int .u64 nn,.string s,.slice a ll.length c] 25)).alloc (.cells #[.int .i64 0,.bool false,.int .u64 0,.string ⟨#[]⟩,.slice none 0 0] 25)=W1:=⟨_,rfl⟩
 rw [hW1,hq] at hB
 have hplW:=hL.lt
 have hbt:bulk ⟨k,neg,nn,s,ll⟩=s.size+bulkL ll+1:=by simp [bulk]
 have hpt:(preF ⟨k,neg,nn,s,ll⟩).length=(preL ll).length+1:=by simp [preF]
 have hlen:=bulkL_len ll
 rw [hbt] at hm hbk
 rw [hpt] at hn
 obtain ⟨zc,hzc,hmk⟩:=make25 ll.length (by omega)
 have f1:=hB.env.fb.cell
 have v0:=hB.bv.c0
 have v1:=hB.bv.c1
 have v2:=hB.bv.c2
 have v3:=hB.bv.c3
 have v4:=hB.bv.c4
 have HB:=Lib.hid hB
 have HNB:=Lib.hid hck
 have HWF:=Lib.hid hwf
 have HT:=Lib.hid ht
 have HTL:=Lib.hid hTL
 have HC:=Lib.hid hC
 have HSY:=Lib.hid (show (f=0 ∨ f=1 ∨ f=2)∧sayB f k neg nn=true from ⟨hf,hs⟩)
 have HM:=Lib.hid (show pm+(s.size+bulkL ll+1)≤8796093022208∧n+((preL ll).length+1)≤1000000∧s.size+bulkL ll+1≤2147483648 from ⟨hm,hn,hbk⟩)
 have hln:ll.length≤2147483648:=by omega
 clear hE hL hP hT ht hB hs hwf hC hf hTL hck hbk hbt hpt hn hm hu hlen hc
 go_enter Tryz.func26,Tryz.ntmps26
 go_wp2_with (go_at_call 27
              refine (HR.out W1).mono ?_
              rintro e w2 ⟨he,hb2⟩
              subst he
              have hB2:=HB.out.below hb2
              have hb3:=(Below.refl w2.heap.size w2).alloc (Nat.le_refl _) (.cells #[.int .i64 k,.bool neg,.int .u64 nn,.string s,.slice a ll.length c] 25)
              have X3:=Row5.new w2 (.int .i64 k) (.bool neg) (.int .u64 nn) (.string s) (.slice a ll.length c)
              have hB3:=hB2.below hb3
              have hb4:=hb3.alloc hb3.size (.cells zc 25)
              have hB4:=hB2.below hb4
              have X4:=X3.alloc (.cells zc 25)
              have u4:=hB3.bv.c4
              have x4:=X4.fz 4
              have x5:=X4.c4
              obtain ⟨W4,hW4⟩:∃ W4,(w2.alloc (.cells #[.int .i64 k,.bool neg,.int .u64 nn,.string s,.slice a ll.length c] 25)).alloc (.cells zc 25)=W4:=⟨_,rfl⟩
              rw [hW4] at hb4 hB4 X4 x4 x5
              have r5:=(cell_same (Below.heap_setCell W4 ⟨w2.heap.size,4,none⟩ (.slice (some ⟨w2.heap.size+1,0,none⟩) ll.length ll.length) (q+1) (by have:=hB2.br.lt;show q+1 ≠ w2.heap.size;omega)) 4).trans hB4.bv.c4
              have hqx:q+1+1<w2.heap.size:=hB2.br.lt
              have hqx1:¬ q+1=w2.heap.size:=(by omega)
              have hqx2:¬ w2.heap.size=q+1:=(by omega))
 obtain ⟨qx,hqxe⟩:∃ qx,w2.heap.size=qx:=⟨_,rfl⟩
 have hR4:Rowg W4 (qx+1) ll.length []:=by
  have:=rowg_new (W:=w2.alloc (.cells #[.int .i64 k,.bool neg,.int .u64 nn,.string s,.slice a ll.length c] 25)) hzc
  rw [hW4,World.size_alloc,hqxe] at this
  exact this
 have hq2:=hB2.br.lt
 rw [hqxe] at X4 hq2 ⊢
 have hWq:W.heap.size≤qx:=by omega
 obtain ⟨W5,hW5⟩:∃ W5,W4.setCell ⟨qx,4,none⟩ (.slice (some ⟨qx+1,0,none⟩) ll.length ll.length)=W5:=⟨_,rfl⟩
 have hL0:LSt W W5 f pl qF ps pb (n+0) pm pc q qx (qx+1) ll.length A px k neg nn s (.slice a ll.length c) []:=by
  rw [← hW5]
  refine ⟨hB4.other ⟨_,_,X4⟩ (fun b hb=>Below.heap_setCell W4 ⟨qx,4,none⟩ _ b hb) (hB4.bc.set1 (by omega) hWq _) (by omega) (by omega),X4.w4 _,?_⟩
  obtain ⟨⟨cs,r1,r2⟩,_⟩:=hR4
  exact ⟨⟨cs,(Below.heap_setCell W4 ⟨qx,4,none⟩ _ (qx+1) (by show qx+1 ≠ qx;omega)).trans r1,r2⟩,trivial⟩
 rw [hW5]
 have HL0:=Lib.hid hL0
 have hqq:q+1+1<qx:=by omega
 clear hL0 hR4 hW5 hW4 hW1 X4 X3 hB2 hB3 hB4 hb2 hb3 hb4 u4 x4 x5 r5 hqx hqx1 hqx2 hq2 f1 v0 v1 v2 v3 v4 HR hmk hqxe HB hzc
 go_loopw [42] (fun i wr=>∃ (j:Nat) (us:List T) (M:Nat),j≤ll.length∧i=.int .i64 j∧Hid (LSt W wr f pl qF ps pb (n+M) pm pc q qx (qx+1) ll.length A px k neg nn s (.slice a ll.length c) us)∧Hid (LoOk f k (ll.take j) us M∧M≤(preL (ll.take j)).length∧us.length=j)) (fun i _=>ll.length - (intOf i).toNat)
 case atStart=>exact ⟨0,[],0,by omega,rfl,HL0,Lib.hid ⟨.nil,Nat.zero_le _,rfl⟩⟩
 case round =>
  clear HL0
  obtain ⟨j,us,M,hj,rfl,HL,HO⟩:=hrel
  rename World=>wr
  by_cases hlt:j<ll.length
  · rcases HTL.out with e | ⟨gl,off,e,hg,hTLL⟩
    · rw [e] at hlt;simp at hlt
    subst e
    obtain ⟨x,xa,xc,hx,e0,e1,e2,e3,e4,hxc,hxT⟩:=Qbm hTLL hlt
    have hxm:=List.mem_of_getElem? hx
    have hxb:=bulkL_mem hxm
    have hpr:=preL_room hx
    have HE:=Lib.hid (fun (W':World) (h:Below pl W W')=>show W'.cell? ⟨gl,off+j*5,none⟩=some (.int .i64 x.f0)∧W'.cell? ⟨gl,off+j*5+1,none⟩=some (.bool x.f1)∧W'.cell? ⟨gl,off+j*5+2,none⟩=some (.int .u64 x.f2)∧W'.cell? ⟨gl,off+j*5+3,none⟩=some (.string x.f3)∧W'.cell? ⟨gl,off+j*5+4,none⟩=some (.slice xa x.f4.length xc) from
     ⟨(h.cell (p:=⟨gl,off+j*5,none⟩) hg).trans e0,(h.cell (p:=⟨gl,off+j*5+1,none⟩) hg).trans e1,(h.cell (p:=⟨gl,off+j*5+2,none⟩) hg).trans e2,(h.cell (p:=⟨gl,off+j*5+3,none⟩) hg).trans e3,(h.cell (p:=⟨gl,off+j*5+4,none⟩) hg).trans e4⟩)
    have HXT:=Lib.hid (fun (W':World) (h:Below pl W W')=>Qaq (W':=W') (P':=(·<pl)) (fun _ h=>h) (fun b hb=>h.block b hb) hxT)
    have HKY:=Lib.hid (keyed_any f HSY.out.1 k neg nn s ll (some ⟨gl,off,none⟩) c j x wr hx (by omega) ⟨gl,off,rfl,(HE.out wr HL.out.st.bc.1).1⟩)
    have HX:=Lib.hid (show ll[j]? = some x∧x.f4.length≤xc∧x ∈ ll∧bulk x≤bulkL ll from ⟨hx,hxc,hxm,hxb⟩)
    have HPR:=Lib.hid hpr
    have f1:=HL.out.st.env.fb.cell
    have v0:=HL.out.st.bv.c0
    have v1:=HL.out.st.bv.c1
    have v2:=HL.out.st.bv.c2
    have v3:=HL.out.st.bv.c3
    have v4:=HL.out.st.bv.c4
    have hj0:(0:Int)≤(j:Int):=by omega
    have hj1:(j:Int)<(ll.length:Int):=by omega
    have wj:IntKind.i64.wrap ((j:Int)+1)=((j+1:Nat):Int):=by rw [IntKind.wrap_i64];omega
    have hqxq:qx ≠ qx+1:=by omega
    obtain ⟨kb,hkb⟩:∃ kb,keyB f (keyAt k j) x=kb:=⟨_,rfl⟩
    rw [hkb] at HKY
    have HKB:=Lib.hid hkb
    clear e0 e1 e2 e3 e4 hTLL hxT hx hxc hxm hxb hpr hkb
    cases kb
    · have HPT:=Lib.hid (fun (W':World) (hW:Below pl W W')=>printed_any x xa xc W' (·<pl) (fun g h=>by have:=hW.size;omega) (HXT.out W' hW) HX.out.2.1 (by have:=HM.out.2.2;have:=HX.out.2.2.2;omega) (wfL_mem (wfT.1 HWF.out).2.2 HX.out.2.2.1) (check_kid HNB.out HX.out.2.2.1) (HT.out.to hW).tabs)
      obtain ⟨i3,hi3,hz30,hz31,hz32⟩:=info_parts info3
      have hpmb:pm+1≤8796093022208:=by have:=HM.out.1;omega
      have hnb:n+M≤1000000:=by have:=HM.out.2.1;have:=HO.out.2.1;have:=HPR.out.1;omega
      go_wp2_with (go_at_call 29
                   refine HKY.out.mono ?_
                   rintro e w6 ⟨he,hb6⟩
                   subst he
                   have h6:=HL.out.below hb6
                   have HL6:=Lib.hid h6
                   have p6:=h6.st.env.sb.cell
                   have q6:=h6.st.bp.cell
                   have hps6:=h6.st.env.sb.lt
                   have hq6:=h6.st.bp.lt
                   have hpmc:=h6.st.path.1.2.1
                   clear hb6 h6)
      go_region_held3 (fun w'=>w'.cell? ⟨ps,0,none⟩=some (.func (.func 25) #[] #[.pointer (some ⟨pl,0,none⟩)])∧w'.cell? ⟨q,0,none⟩=some (.slice A pm pc))
       (first
         | with_reducible exact HP9.out
         | (go_split_ands;refine ⟨?_,?_⟩ <;> (rw [hgr.cell_far _ (by simp;omega) (by simp)];assumption))
         | go_keep)
       (first
         | (go_at_call 25
            refine (lose_any pl (n + M) (pm + 1) cap' (some ⟨g', 0, none⟩) (px ++ [.int .i64 j]) 7 w8 HL8.out.st.lost hnb HP8.out hpmb).mono ?_
            rintro e w9 ⟨he,l1,l2⟩
            subst he
            have h9:=HL8.out.keep l2 l1
            have HL9:=Lib.hid h9
            have HP9:=Lib.hid (show _∧_ from ⟨h9.st.env.sb.cell,h9.st.bp.cell⟩)
            clear l1 l2 h9)
         | (refine step_append_grows rfl (.tmp 55) (.tmp 57) 63 rfl 3 i3 (.int .i64 0) 1 8 Tryz.underlying63 hi3 hz30 hz31 hz32 rfl (by decide) A pm pm px (by rfl) (fun e=>⟨(HL6.out.st.path.1.1 e).1,(HL6.out.st.path.1.1 e).1⟩) HL6.out.st.path.1.2.2.1 (fun b hb j' u hu=>HL6.out.st.path.1.cell ((Below.refl _ w6).alloc (Nat.le_refl _) _).drew hb hu) ⟨w6.heap.size,0,none⟩ 1 1 [.int .i64 j] (by rfl) rfl (fun j' u hu=>news_one w6 j j' u hu) (by intro u hu;rw [List.mem_singleton] at hu;subst hu;rfl) (by omega) (by unfold maxLen;omega) (by omega) ?_
            intro v' w8 hown hgr
            obtain ⟨g', cap', rfl⟩ := ownsRow_succ hown
            have hB8:Below w6.heap.size w6 w8:=(((Below.refl _ w6).alloc (Nat.le_refl _) _).drew).grown hgr (by simp) (fun k e=>by cases e)
            have HL8:=Lib.hid (HL6.out.below hB8)
            have HP8:=Lib.hid (PathQ.own hown (one_snoc HL6.out.st.path.1.2.2.2.1 j))
            clear hB8 hown))
      have E9:=HE.out w9 HL9.out.st.bc.1
      have a0:=E9.1
      have a1:=E9.2.1
      have a2:=E9.2.2.1
      have a3:=E9.2.2.2.1
      have a4:=E9.2.2.2.2
      have p9:=HL9.out.xr.c4
      have q9:=HL9.out.st.bv.c4
      have HLD:=Lib.hid (HL9.out.below (Below.refl _ w9).drew)
      have hglg:gl ≠ qx+1:=by omega
      have hqv:q+1 ≠ qx+1:=by omega
      clear E9 p6 q6
      go_wp2_with fail
      go_region_held3 (fun w'=>w'.cell? ⟨qx,4,none⟩=some (.slice (some ⟨qx+1,0,none⟩) ll.length ll.length)∧w'.cell? ⟨q+1,4,none⟩=some (.slice (some ⟨gl,off,none⟩) ll.length c)∧w'.cell? ⟨gl,off+j*5,none⟩=some (.int .i64 x.f0)∧w'.cell? ⟨gl,off+j*5+1,none⟩=some (.bool x.f1)∧w'.cell? ⟨gl,off+j*5+2,none⟩=some (.int .u64 x.f2)∧w'.cell? ⟨gl,off+j*5+3,none⟩=some (.string x.f3)∧w'.cell? ⟨gl,off+j*5+4,none⟩=some (.slice xa x.f4.length xc))
       (first
         | with_reducible exact HP7.out
         | with_reducible exact ⟨cell_nest HP7.out.1 hqxq _ _ _ _ _,cell_nest HP7.out.2.1 hqv _ _ _ _ _,cell_nest HP7.out.2.2.1 hglg _ _ _ _ _,cell_nest HP7.out.2.2.2.1 hglg _ _ _ _ _,cell_nest HP7.out.2.2.2.2.1 hglg _ _ _ _ _,cell_nest HP7.out.2.2.2.2.2.1 hglg _ _ _ _ _,cell_nest HP7.out.2.2.2.2.2.2 hglg _ _ _ _ _⟩
         | go_keep)
       (first
         | (go_at_call 30
            refine (HPT.out _ HLD.out.st.bc.1).mono ?_
            rintro e w7 ⟨S,he,hS,hb7⟩
            subst he
            have h7:=HLD.out.below hb7
            have HL7:=Lib.hid h7
            have E7:=HE.out w7 h7.st.bc.1
            have HP7:=Lib.hid (show _∧_∧_∧_∧_∧_∧_ from ⟨h7.xr.c4,h7.st.bv.c4,E7.1,E7.2.1,E7.2.2.1,E7.2.2.2.1,E7.2.2.2.2⟩)
            have HU:=Lib.hid hS
            obtain ⟨t0,c0⟩:=h7.row.there (j*5) (by omega)
            obtain ⟨t1,c1⟩:=h7.row.there (j*5+1) (by omega)
            obtain ⟨t2,c2⟩:=h7.row.there (j*5+2) (by omega)
            obtain ⟨t3,c3⟩:=h7.row.there (j*5+3) (by omega)
            obtain ⟨t4,c4⟩:=h7.row.there (j*5+4) (by omega)
            have y0:=h7.row.fz (j*5)
            have y1:=h7.row.fz (j*5+1)
            have y2:=h7.row.fz (j*5+2)
            have y3:=h7.row.fz (j*5+3)
            have y4:=h7.row.fz (j*5+4)
            clear hS hb7 E7 h7))
      have hnew:=HL7.out.push (u:=⟨10,false,0,S,[]⟩) (a:=none) (c:=0) (by omega) (by omega) (by omega) (by omega) (by omega) (by rw [HO.out.2.2];exact hlt) (by simp [Tree]) (Nat.le_refl _)
      rw [HO.out.2.2] at hnew
      have HNW:=Lib.hid hnew
      clear hnew
      go_wp2
      refine ⟨?rel2,?measure2⟩
      case rel2 =>
       refine ⟨j+1,us ++ [⟨10,false,0,S,[]⟩],M+1,by omega,rfl,Lib.hid (by rw [← Nat.add_assoc];exact HNW.out),Lib.hid ⟨?_,?_,?_⟩⟩
       · rw [take_more HX.out.1]
         refine .snoc HO.out.1 (.inr ?_)
         rw [List.length_take,Nat.min_eq_left (by omega)]
         exact ⟨HKB.out,rfl,S,rfl,HU.out.1,by have:=HU.out.2;have:=bulk_pos x;omega⟩
       · rw [HPR.out.2];have:=HO.out.2.1;have:=preL_len_pos x;omega
       · rw [List.length_append,HO.out.2.2];rfl
      case measure2=>simp [intOf];omega
    · have HD:=Lib.hid (fun (W':World) (h:LSt W W' f pl qF ps pb (n+M) pm pc q qx (qx+1) ll.length A px k neg nn s (.slice (some ⟨gl,off,none⟩) ll.length c) us) =>
       down_any f x (HC.out x HX.out.2.2.1) pl qF ps pb (n+M) pm pc c q (q+1) j ll.length xc gl off k neg nn s A xa px W' h.st.env h.st.lost h.st.path h.st.bp h.st.bv hlt (by omega) hg (HE.out W' h.st.bc.1).1 (HE.out W' h.st.bc.1).2.1 (HE.out W' h.st.bc.1).2.2.1 (HE.out W' h.st.bc.1).2.2.2.1 (HE.out W' h.st.bc.1).2.2.2.2 (HXT.out W' h.st.bc.1) HX.out.2.1 (HT.out.to h.st.bc.1)
        (by have:=HM.out.1;have:=HX.out.2.2.2;omega) (by have:=HM.out.2.1;have:=HO.out.2.1;have:=HPR.out.1;omega))
      go_wp2_with (go_at_call 29
                   refine HKY.out.mono ?_
                   rintro e w6 ⟨he,hb6⟩
                   subst he
                   have h6:=HL.out.below hb6
                   have HL6:=Lib.hid (h6.below (Below.refl _ w6).drew)
                   have p6:=h6.xr.c4
                   clear hb6 h6)
      go_region_held3 (fun w'=>w'.cell? ⟨qx,4,none⟩=some (.slice (some ⟨qx+1,0,none⟩) ll.length ll.length))
       (first
         | with_reducible exact HP7.out
         | with_reducible exact cell_nest HP7.out hqxq _ _ _ _ _
         | go_keep)
       (first
         | (go_at_call 28
            refine (HD.out _ HL6.out).mono ?_
            rintro e w7 ⟨u,ua,uc,um,he,u1,u2,u3,u4,u5,u6⟩
            subst he
            have h7:=HL6.out.keep u6 u5
            have HL7:=Lib.hid h7
            have HP7:=Lib.hid h7.xr.c4
            have HU:=Lib.hid (show u.f4.length≤uc∧Tree w7 (fun b=>TyAt w7 b 25∧qx+1<b) u ua∧BecOk f x u um∧um≤(preF x).length from ⟨u1,Qaq (fun b hb=>⟨hb.1,by have:=HL6.out.row.ty.lt;have:=hb.2;omega⟩) (fun _ _=>rfl) u2,u3,u4⟩)
            obtain ⟨t0,c0⟩:=h7.row.there (j*5) (by omega)
            obtain ⟨t1,c1⟩:=h7.row.there (j*5+1) (by omega)
            obtain ⟨t2,c2⟩:=h7.row.there (j*5+2) (by omega)
            obtain ⟨t3,c3⟩:=h7.row.there (j*5+3) (by omega)
            obtain ⟨t4,c4⟩:=h7.row.there (j*5+4) (by omega)
            have y0:=h7.row.fz (j*5)
            have y1:=h7.row.fz (j*5+1)
            have y2:=h7.row.fz (j*5+2)
            have y3:=h7.row.fz (j*5+3)
            have y4:=h7.row.fz (j*5+4)
            clear u1 u2 u3 u4 u5 u6 h7))
      have hnew:=HL7.out.push (by omega) (by omega) (by omega) (by omega) (by omega) (by rw [HO.out.2.2];exact hlt) HU.out.2.1 HU.out.1
      rw [HO.out.2.2] at hnew
      have HNW:=Lib.hid hnew
      clear hnew
      go_wp2
      refine ⟨?rel,?measure⟩
      case rel =>
       refine ⟨j+1,us ++ [u],M+um,by omega,rfl,Lib.hid (by rw [← Nat.add_assoc];exact HNW.out),Lib.hid ⟨?_,?_,?_⟩⟩
       · rw [take_more HX.out.1]
         refine .snoc HO.out.1 (.inl ?_)
         rw [List.length_take,Nat.min_eq_left (by omega)]
         exact ⟨HKB.out,HU.out.2.2.1⟩
       · rw [HPR.out.2];have:=HO.out.2.1;have:=HU.out.2.2.2;omega
       · rw [List.length_append,HO.out.2.2];rfl
      case measure=>simp [intOf];omega
  · obtain rfl:j=ll.length:=by omega
    have hlt2:¬ ((ll.length:Int)<(ll.length:Int)):=by omega
    have x0:=HL.out.xr.c0
    have x1:=HL.out.xr.c1
    have x2:=HL.out.xr.c2
    have x3:=HL.out.xr.c3
    have x4:=HL.out.xr.c4
    have z0:=HL.out.st.br.c0
    have z1:=HL.out.st.br.c1
    have z2:=HL.out.st.br.c2
    have z3:=HL.out.st.br.c3
    have z4:=HL.out.st.br.c4
    have y0:=HL.out.st.br.fz 0
    have y1:=HL.out.st.br.fz 1
    have y2:=HL.out.st.br.fz 2
    have y3:=HL.out.st.br.fz 3
    have y4:=HL.out.st.br.fz 4
    have Z5:=HL.out.st.br.put5 (.int .i64 k) (.bool neg) (.int .u64 nn) (.string s) (.slice (some ⟨qx+1,0,none⟩) ll.length ll.length)
    have k0:=Z5.c0
    have k1:=Z5.c1
    have k2:=Z5.c2
    have k3:=Z5.c3
    have k4:=Z5.c4
    clear Z5
    go_wp2
    refine bodyPost_ret (v:=.agg #[.int .i64 k,.bool neg,.int .u64 nn,.string s,.slice (some ⟨qx+1,0,none⟩) ll.length ll.length]) (by simp [results,Tryz.f26,go_sem,k0,k1,k2,k3,k4]) rfl ?_
    obtain ⟨o1,o2,o3⟩:=HO.out
    rw [List.take_length] at o1 o2
    have hrow:=HL.out.row
    have hTr:Tree wr (fun b=>TyAt wr b 25∧qx+1≤b) ⟨k,neg,nn,s,us⟩ (some ⟨qx+1,0,none⟩):=by
     simp only [Tree]
     refine ⟨by omega,.inr ⟨qx+1,0,rfl,⟨hrow.ty,Nat.le_refl _⟩,treeL_mk fun i t e=>?_⟩⟩
     obtain ⟨a', c', r1, r2, r3⟩ := treeL_at hrow.2 e
     exact ⟨a', c', r1, r2, Qaq (fun b hb => ⟨hb.1, by omega⟩) (fun _ _ => rfl) r3⟩
    refine ⟨⟨k,neg,nn,s,us⟩,some ⟨qx+1,0,none⟩,ll.length,M,by dsimp only;rw [o3],by dsimp only;omega,Qaq (fun b hb=>?_) (fun b hb=>Qb3 (by have:=hb.2;omega) _ _ _ _ _) hTr,becOk_node HSY.out.1 HSY.out.2 HWF.out (nodes_one (check_is HNB.out).1) o1,?_,HL.out.st.lost.put5 ⟨_,_,HL.out.st.br⟩ _ _ _ _ _,Bc.put5 HL.out.st.bc (by omega) (by omega) _ _ _ _ _⟩
    · obtain ⟨⟨cs,fr,h⟩,hb⟩:=hb
      exact ⟨⟨cs,fr,(Qb3 (by omega) _ _ _ _ _).trans h⟩,by omega⟩
    · simp only [preF,List.length_cons];omega
theorem become_all (f:Int) (hf:f=0 ∨ f=1 ∨ f=2):∀ t:T,Qaz t=0→Wf t→bulk t≤2147483648→BecC f t:=by
 intro t
 induction t using T.ind with
 | h k neg n s l ih =>
   intro hck hwf hbk
   have hbt:bulk ⟨k,neg,n,s,l⟩=s.size+bulkL l+1:=by simp [bulk]
   have hC:∀ x ∈ l,BecC f x:=fun x hx=>ih x hx (check_kid hck hx) (wfL_mem (wfT.1 hwf).2.2 hx) (by have:=bulkL_mem hx;omega)
   cases hs:sayB f k neg n with
   | true=>exact become_node f hf k neg n s l hs hck hwf hbk hC
   | false =>
     by_cases h13:k=13
     · subst h13
       obtain ⟨x,rfl⟩:=tag_one (nodes_one (check_is hck).1)
       refine become_tag f ?_ neg n s x (hC x (by simp)) hwf
       rcases hf with rfl | rfl | rfl
       · exact .inl rfl
       · rw [say_1] at hs;simp at hs
       · exact .inr rfl
     · exact become_leaf f hf k neg n s l hs h13 hck hwf hbk
end Go.Proofs.YtfmceonbejlhlaaGreatDoor
