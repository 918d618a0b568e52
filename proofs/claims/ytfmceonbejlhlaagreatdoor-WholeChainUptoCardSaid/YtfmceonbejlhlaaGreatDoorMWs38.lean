import Derived.Deep.RegionHeld3
import Derived.Deep.AppendLies
import Derived.Test.YtfmceonbejlhlaaGreatDoorMWs31
import Derived.Test.YtfmceonbejlhlaaGreatDoorMWs33
import Derived.Test.YtfmceonbejlhlaaGreatDoorMWs37
namespace Go.Proofs.YtfmceonbejlhlaaGreatDoor
open Go.RowKit Go.Proofs.YtfmceonbejlhlaaGreatDoorW.PrintWords Go.Proofs.YtfmceonbejlhlaaGreatDoorW.PrintLast Go.Proofs.YtfmceonbejlhlaaGreatDoorW.PrintMore
set_option linter.unusedVariables false
theorem info65:(Tryz.prog.info? 65).map (fun i=>(i.zero,i.size,i.bytes))=some (some (.agg #[.slice none 0 0,.int .i64 0]),2,32):=by kernel_rfl
def Bc (pl:Nat) (W W':World):Prop:=Below pl W W'∧KT 65 (fun g=>g=pl) W W'
theorem Bc.refl (pl:Nat) (W:World):Bc pl W W:=⟨Below.refl _ _,KT.refl _ _ _⟩
theorem Bc.trans {pl:Nat} {A B C:World} (h:Bc pl A B) (k:Bc pl B C):Bc pl A C:=⟨h.1.trans k.1,h.2.trans k.2⟩
theorem Bc.of_below {pl:Nat} {A B:World} (hp:pl≤A.heap.size) (h:Below A.heap.size A B):Bc pl A B:=⟨h.mono hp,KT.of_below h⟩
theorem Bc.size {pl:Nat} {A B:World} (h:Bc pl A B):A.heap.size≤B.heap.size:=h.1.size
theorem Bc.cells {pl:Nat} {A B:World} (h:Bc pl A B) {g:Nat} {cs:Array Value} {t:TypeId} {fr:Nat × Nat} (hg:A.heap[g]? = some (.cells cs t fr)) (hp:g ≠ pl) (ht:t ≠ 65):B.heap[g]? = some (.cells cs t fr):=h.2.2 g cs t fr hp ht hg
theorem Bc.boxed {pl:Nat} {A B:World} (h:Bc pl A B) {g:Nat} {t:TypeId} {v:Value} (hb:Boxed A g t v) (hp:g ≠ pl) (ht:t ≠ 65):Boxed B g t v:=h.cells hb hp ht
theorem Bc.row5 {pl:Nat} {A B:World} (h:Bc pl A B) {g:Nat} {a b c d e:Value} (hb:Row5 A g a b c d e) (hp:g ≠ pl):Row5 B g a b c d e:=h.cells hb hp (by decide)
def Qa7 (W:World) (pl n:Nat):Prop:=∃ v xs,Boxed W pl 41 v∧W.ownsRow pl 65 2 v n xs
theorem Boxed.apart {W:World} {a b:Nat} {t u:TypeId} {v x:Value} (h:Boxed W a t v) (k:Boxed W b u x) (ht:t ≠ u):a ≠ b:=fun e=>by
 subst e
 have:=(show W.heap[a]? = _ from h).symm.trans (show W.heap[a]? = _ from k)
 injection this with this
 injection this with _ this
 exact ht this
theorem Qa7.below {W W':World} {pl n:Nat} (h:Qa7 W pl n) (hb:Below W.heap.size W W'):Qa7 W' pl n:=by
 obtain ⟨v,xs,h1,h2⟩:=h
 exact ⟨v,xs,(hb.block _ h1.lt).trans h1,Qbl h2 fun k hk=>hb.block k (own_lt h2 k hk)⟩
theorem Qa7.lt {W:World} {pl n:Nat} (h:Qa7 W pl n):pl<W.heap.size:=by
 obtain ⟨v,xs,h1,h2⟩:=h
 exact h1.lt
theorem Qa7.type {W:World} {pl n g:Nat} {t:TypeId} (h:Qa7 W pl n) (k:TyAt W g t) (ht:t ≠ 41):g ≠ pl:=by
 obtain ⟨v,xs,h1,h2⟩:=h
 obtain ⟨cs,fr,k⟩:=k
 intro e
 subst e
 have:=(show W.heap[g]? = _ from h1).symm.trans k
 injection this with this
 injection this with _ this
 exact ht this.symm
def LosePost (pl n:Nat) (W:World) (e:Ending) (W':World):Prop:=e=.returned (.tuple #[])∧Qa7 W' pl (n+1)∧Bc pl W W'
def PathQ (W:World) (A:Option Addr) (m c:Nat) (xs:List Value):Prop:=PathT (fun _=>False) W A m c xs∧(m=0→A=none∧c=0)
theorem PathQ.keep {pl:Nat} {W W':World} {A:Option Addr} {m c:Nat} {xs:List Value} (h:PathQ W A m c xs) (hk:Bc pl W W') (hl:∀ g,TyAt W g 3→g ≠ pl):PathQ W' A m c xs:=by
 obtain ⟨⟨h1,h2,h3,h4,h5⟩,h6⟩:=h
 refine ⟨⟨h1,h2,h3,h4,fun b hb=>?_⟩,h6⟩
 obtain ⟨g,e,hx,⟨cs,fr,ht⟩,hc⟩:=h5 b hb
 have ht':=hk.cells ht (hl g ⟨cs,fr,ht⟩) (by decide)
 exact ⟨g,e,hx,⟨cs,fr,ht'⟩,fun j u hu=>(cell_same (ht'.trans ht.symm) j).trans (hc j u hu)⟩
theorem PathQ.nil (W:World):PathQ W none 0 0 []:=⟨PathT.nil _ _,fun _=>⟨rfl,rfl⟩⟩
theorem PathQ.own {W:World} {base m g cap:Nat} {xs:List Value} (h:W.ownsRow base 3 1 (.slice (some ⟨g,0,none⟩) (m+1) cap) (m+1) xs) (h1:∀ u ∈ xs,u.oneCell'=true):PathQ W (some ⟨g,0,none⟩) (m+1) cap xs:=⟨PathT.own h (fun h=>h) h1,fun e=>by omega⟩
set_option maxRecDepth 100000 in
set_option maxHeartbeats 8000000 in
theorem lose_any (pl n m c:Nat) (A:Option Addr) (xs:List Value) (kd:Int) (W:World) (hL:Qa7 W pl n) (hn:n≤1000000) (hP:PathQ W A m c xs) (hm:m≤8796093022208) :
 Calls Tryz.prog 25 #[.slice A m c,.int .i64 kd,.pointer (some ⟨pl,0,none⟩)] W (LosePost pl n W):=by
 obtain ⟨lv,ls,hB,hO⟩:=hL
 have hc:=hB.cell
 have hfz:=hB.frozen
 have hlt:=hB.lt
 have HP:=Lib.hid hP
 have HO:=Lib.hid hO
 have HB:=Lib.hid hB
 have hB0:=hB
 obtain ⟨i3,hi3,hz30,hz31,hz32⟩:=info_parts info3
 obtain ⟨i6,hi6,hz60,hz61,hz62⟩:=info_parts info65
 clear hP hO hB
 have fin:∀ (w2 w4:World) (g3 cap3:Nat) (ys:List Value) (cs:Array Value),Below W.heap.size W w2→(w2.alloc (.cells cs 65)).grownBy w4 lv.ownBlock→w4.ownsRow pl 65 2 (.slice (some ⟨g3,0,none⟩) (n+1) cap3) (n+1) ys →
  Qa7 (w4.setCell ⟨pl,0,none⟩ (.slice (some ⟨g3,0,none⟩) (n+1) cap3)) pl (n+1)∧Bc pl W (w4.setCell ⟨pl,0,none⟩ (.slice (some ⟨g3,0,none⟩) (n+1) cap3))∧w4.frozen? ⟨pl,0,none⟩=false∧w4.cell? ⟨pl,0,none⟩=some lv:=fun w2 w4 g3 cap3 ys cs hB2 hgw hown4=>by
  have hB3:Below W.heap.size W (w2.alloc (.cells cs 65)):=hB2.alloc hB2.size _
  have hO3:(w2.alloc (.cells cs 65)).ownsRow pl 65 2 lv n ls:=Qbl HO.out fun k hk=>hB3.block k (own_lt HO.out k hk)
  have hb3:Boxed (w2.alloc (.cells cs 65)) pl 41 lv:=(hB3.block _ hlt).trans HB.out
  have hne:some pl ≠ lv.ownBlock:=fun e=>by
   obtain ⟨cells,hcc⟩:=Qba hO3 pl e.symm
   have:=(show (w2.alloc (.cells cs 65)).heap[pl]? = _ from hb3).symm.trans hcc
   injection this with this
   injection this with _ this
   exact absurd this (by decide)
  have hb4:Boxed w4 pl 41 lv:=(hgw.block _ hb3.lt hne).trans hb3
  have hs3:=hB3.size
  refine ⟨⟨_,ys,Boxed.set _ hb4,Qbl hown4 fun k hk=>Below.heap_setCell _ _ _ k fun e=>?_⟩,?_,hb4.frozen,hb4.cell⟩
  · subst e
    obtain ⟨cells,hcc⟩:=Qba hown4 k hk
    have:=(show w4.heap[k]? = _ from hb4).symm.trans hcc
    injection this with this
    injection this with _ this
    exact absurd this (by decide)
  · refine ⟨((hB3.mono (by omega)).grown hgw (by omega) fun j ej=>Qb5 hO3 j ej).setCell (p:=⟨pl,0,none⟩) (Nat.le_refl _) _,((KT.of_below hB3).trans (KT.grown hgw hO3)).trans ⟨by simp [World.setCell],fun g cs t fr hx ht hg=>?_⟩⟩
    exact (Below.heap_setCell w4 ⟨pl,0,none⟩ _ g hx).trans hg
 have FIN:=Lib.hid fin
 clear fin
 have one2 : ∀ (g' k cap' : Nat), ∀ u ∈ ([.slice (some ⟨g', 0, none⟩) k cap', .int .i64 kd] : List Value), u.oneCell' = true := fun g' k cap' u hu => by
  simp only [List.mem_cons,List.not_mem_nil,or_false] at hu
  rcases hu with rfl | rfl <;> rfl
 by_cases hm0:m=0
 · subst hm0
   obtain ⟨rfl,rfl⟩:=HP.out.2 rfl
   have hc1:=fun o=>(hB0.alloc o).cell
   go_enter Tryz.func25,Tryz.ntmps25
   go_wp2_with fail
   go_region_law (first
    | (refine step_append_lies _ rfl (.tmp 5) (.tmp 10) 41 rfl pl 65 i6 _ 2 32 Tryz.underlying41 hi6 hz60 hz61 hz62 rfl (by decide) lv n ls (by rfl) (Qbl HO.out fun k hk=>Below.heap_alloc W _ k (own_lt HO.out k hk)) ⟨W.heap.size,0,none⟩ 1 1 [.slice none 0 0,.int .i64 kd] (by rfl) (by rfl) (World.news_of_block (heap_alloc_new W _)) (by intro u hu;simp only [List.mem_cons,List.not_mem_nil,or_false] at hu;rcases hu with rfl | rfl <;> rfl) (by omega) (by unfold maxLen;omega) (by omega) (by simp;omega) (W.heap.size+1) (by simp) ?_
       intro g3 cap3 w4 hown4 hgw hat hlt4
       obtain ⟨f1,f2,f3,f4⟩:=FIN.out W.drew w4 g3 cap3 _ #[.slice none 0 0,.int .i64 kd] (Below.refl _ _).drew hgw hown4
       have HF:=Lib.hid (show _∧_ from ⟨f1,f2⟩)
       clear f1 f2 hgw hown4))
   all_goals
    go_wp2
    go_end0
    exact ⟨rfl,HF.out.1,HF.out.2⟩
 · obtain ⟨k,rfl⟩:∃ k,m=k+1:=⟨m - 1,by omega⟩
   obtain ⟨ad,rfl⟩:∃ ad,A=some ad:=by
    cases A with
    | none=>exact absurd (HP.out.1.1 rfl).1 (by omega)
    | some ad=>exact ⟨ad,rfl⟩
   go_enter Tryz.func25,Tryz.ntmps25
   go_wp2_with fail
   go_region_law (first
    | (refine step_append_grows rfl (.const (.slice none 0 0)) (.tmp 6) 63 rfl 3 i3 (.int .i64 0) 1 8 Tryz.underlying63 hi3 hz30 hz31 hz32 rfl (by decide) none 0 0 [] (by rfl) (fun _=>⟨rfl,rfl⟩) rfl (fun b e=>by cases e) ad (k+1) c xs (by rfl) HP.out.1.2.2.1 (fun j u hu=>HP.out.1.cell (Below.refl _ _).drew rfl hu) HP.out.1.2.2.2.1 (by omega) (by unfold maxLen;omega) (by omega) ?_
       intro v' w2 hown hgr
       rw [Nat.zero_add] at hown
       obtain ⟨g', cap', rfl⟩ := ownsRow_succ hown
       have hB2:Below W.heap.size W w2:=((Below.refl _ W).drew).grown hgr (by simp) (fun k e=>by cases e)
       have hb2:=(hB2.block _ hlt).trans HB.out
       have e0:=Boxed.cell hb2
       have e1:=fun o=>(Boxed.alloc hb2 o).cell
       have hw2:=hB2.size
       have HB2:=Lib.hid hB2
       clear hB2 hown hgr hb2)
    | (refine step_append_lies _ rfl (.tmp 5) (.tmp 10) 41 rfl pl 65 i6 _ 2 32 Tryz.underlying41 hi6 hz60 hz61 hz62 rfl (by decide) lv n ls (by rfl) (Qbl HO.out fun k hk => (HB2.out.alloc (by omega) _).block k (own_lt HO.out k hk)) ⟨w2.heap.size, 0, none⟩ 1 1 [.slice (some ⟨g', 0, none⟩) (k + 1) cap', .int .i64 kd] (by rfl) (by rfl) (World.news_of_block (heap_alloc_new w2 _)) (one2 _ _ _) (by omega) (by unfold maxLen; omega) (by omega) (by simp; omega) (w2.heap.size + 1) (by simp) ?_
       intro g3 cap3 w4 hown4 hgw hat hlt4
       obtain ⟨f1,f2,f3,f4⟩:=FIN.out w2 w4 g3 cap3 _ _ HB2.out hgw hown4
       have HF:=Lib.hid (show _∧_ from ⟨f1,f2⟩)
       clear f1 f2 hgw hown4))
   all_goals
    go_wp2
    go_end0
    exact ⟨rfl,HF.out.1,HF.out.2⟩
structure EnvP (W:World) (f:Int) (pl qF ps pb:Nat):Prop where
 fb:Boxed W qF 3 (.int .i64 f)
 sb:Boxed W ps 66 (.func (.func 25) #[] #[.pointer (some ⟨pl,0,none⟩)])
 bb:Boxed W pb 67 (.func (.func 26) #[] #[.pointer (some ⟨qF,0,none⟩),.pointer (some ⟨ps,0,none⟩),.pointer (some ⟨pb,0,none⟩)])
theorem EnvP.keep {W W':World} {f:Int} {pl qF ps pb n:Nat} (h:EnvP W f pl qF ps pb) (hL:Qa7 W pl n) (hb:Bc pl W W'):EnvP W' f pl qF ps pb :=
 ⟨hb.boxed h.fb (hL.type ⟨_,_,h.fb⟩ (by decide)) (by decide),hb.boxed h.sb (hL.type ⟨_,_,h.sb⟩ (by decide)) (by decide),hb.boxed h.bb (hL.type ⟨_,_,h.bb⟩ (by decide)) (by decide)⟩
def BecPost (f:Int) (pl n:Nat) (t:T) (W:World) (e:Ending) (W':World):Prop:=∃ (u:T) (a:Option Addr) (c m:Nat),e=.returned (.agg #[.int .i64 u.f0,.bool u.f1,.int .u64 u.f2,.string u.f3,.slice a u.f4.length c])∧u.f4.length≤c ∧
 Tree W' (fun b=>TyAt W' b 25∧W.heap.size≤b) u a∧BecOk f t u m∧m≤(preF t).length∧Qa7 W' pl (n+m)∧Bc pl W W'
def BecC (f:Int) (t:T):Prop:=∀ (pl qF ps pb n pm pc c:Nat) (A a:Option Addr) (px:List Value) (W:World),EnvP W f pl qF ps pb→Qa7 W pl n→PathQ W A pm pc px→Tree W (·<pl) t a→t.f4.length≤c→TabsIn pl W→pm+bulk t≤8796093022208→n+(preF t).length≤1000000 →
 Calls Tryz.prog 26 #[.slice A pm pc,.agg #[.int .i64 t.f0,.bool t.f1,.int .u64 t.f2,.string t.f3,.slice a t.f4.length c],.pointer (some ⟨qF,0,none⟩),.pointer (some ⟨ps,0,none⟩),.pointer (some ⟨pb,0,none⟩)] W (BecPost f pl n t W)
theorem Qb3 {W:World} {q k:Nat} (h:k ≠ q) (u0 u1 u2 u3 u4:Value):(((((W.setCell ⟨q,0,none⟩ u0).setCell ⟨q,1,none⟩ u1).setCell ⟨q,2,none⟩ u2).setCell ⟨q,3,none⟩ u3).setCell ⟨q,4,none⟩ u4).heap[k]? = W.heap[k]?:=by
 rw [Below.heap_setCell _ ⟨q,4,none⟩ _ k h,Below.heap_setCell _ ⟨q,3,none⟩ _ k h,Below.heap_setCell _ ⟨q,2,none⟩ _ k h,Below.heap_setCell _ ⟨q,1,none⟩ _ k h,Below.heap_setCell _ ⟨q,0,none⟩ _ k h]
theorem cell_put5 {W:World} {q b j:Nat} {v:Value} (hc:W.cell? ⟨b,j,none⟩=some v) (h:b ≠ q) (u0 u1 u2 u3 u4:Value):(((((W.setCell ⟨q,0,none⟩ u0).setCell ⟨q,1,none⟩ u1).setCell ⟨q,2,none⟩ u2).setCell ⟨q,3,none⟩ u3).setCell ⟨q,4,none⟩ u4).cell? ⟨b,j,none⟩=some v :=
 (cell_same (Qb3 h u0 u1 u2 u3 u4) j).trans hc
theorem Bc.put5 {pl q:Nat} {W W':World} (h:Bc pl W W') (hp:pl≤W.heap.size) (hq:W.heap.size≤q) (u0 u1 u2 u3 u4:Value):Bc pl W (((((W'.setCell ⟨q,0,none⟩ u0).setCell ⟨q,1,none⟩ u1).setCell ⟨q,2,none⟩ u2).setCell ⟨q,3,none⟩ u3).setCell ⟨q,4,none⟩ u4) :=
 ⟨Qa2 h.1 (Nat.le_trans hp hq) _ _ _ _ _,by simpa [World.setCell] using h.2.1,fun g cs t fr hx ht hg=>(Qb3 (by have:=(Array.getElem?_eq_some_iff.1 hg).1;omega) _ _ _ _ _).trans (h.2.2 g cs t fr hx ht hg)⟩
theorem Qa7.put5 {pl q n:Nat} {W:World} (h:Qa7 W pl n) (hq:TyAt W q 25) (u0 u1 u2 u3 u4:Value):Qa7 (((((W.setCell ⟨q,0,none⟩ u0).setCell ⟨q,1,none⟩ u1).setCell ⟨q,2,none⟩ u2).setCell ⟨q,3,none⟩ u3).setCell ⟨q,4,none⟩ u4) pl n:=by
 have hne:=h.type hq (by decide)
 obtain ⟨v,xs,h1,h2⟩:=h
 refine ⟨v,xs,(Qb3 (Ne.symm hne) _ _ _ _ _).trans h1,Qbl h2 fun k hk=>Qb3 (fun e=>?_) _ _ _ _ _⟩
 subst e
 obtain ⟨cells,hc⟩:=Qba h2 k hk
 obtain ⟨cs,fr,hq⟩:=hq
 rw [hc] at hq
 injection hq with hq
 injection hq with _ hq
 exact absurd hq (by decide)
theorem BecPost.result {f:Int} {pl n:Nat} {t:T} {W W3 W4:World} {u:T} {a:Option Addr} {c m q:Nat} (hp:pl≤W.heap.size) (hb3:Below W.heap.size W W3) (hq:W.heap.size≤q) (hq3:q<W3.heap.size) (hty:TyAt W4 q 25) (h1:u.f4.length≤c)
 (h2:Tree W4 (fun b=>TyAt W4 b 25∧W3.heap.size≤b) u a) (h3:BecOk f t u m) (h4:m≤(preF t).length) (h5:Qa7 W4 pl (n+m)) (h6:Bc pl W3 W4) (u0 u1 u2 u3 u4:Value) :
 BecPost f pl n t W (.returned (.agg #[.int .i64 u.f0,.bool u.f1,.int .u64 u.f2,.string u.f3,.slice a u.f4.length c])) (((((W4.setCell ⟨q,0,none⟩ u0).setCell ⟨q,1,none⟩ u1).setCell ⟨q,2,none⟩ u2).setCell ⟨q,3,none⟩ u3).setCell ⟨q,4,none⟩ u4):=by
 have hs:=hb3.size
 refine ⟨u,a,c,m,rfl,h1,Qaq (fun b hb=>?_) (fun b hb=>Qb3 (by have:=hb.2;omega) _ _ _ _ _) h2,h3,h4,h5.put5 hty _ _ _ _ _,Bc.put5 ((Bc.of_below hp hb3).trans h6) hp hq _ _ _ _ _⟩
 obtain ⟨⟨cs,fr,h⟩,hb⟩:=hb
 exact ⟨⟨cs,fr,(Qb3 (by omega) _ _ _ _ _).trans h⟩,by omega⟩
set_option maxRecDepth 100000 in
set_option maxHeartbeats 8000000 in
theorem down_any (f:Int) (x:T) (hC:BecC f x) (pl qF ps pb n pm pc c bp bv j nl xc g off:Nat) (k:Int) (neg:Bool) (nn:Int) (s:ByteArray) (A xa:Option Addr) (px:List Value) (W:World) (hE:EnvP W f pl qF ps pb) (hL:Qa7 W pl n) (hP:PathQ W A pm pc px) (hbp:Boxed W bp 63 (.slice A pm pc))
 (hbv:Row5 W bv (.int .i64 k) (.bool neg) (.int .u64 nn) (.string s) (.slice (some ⟨g,off,none⟩) nl c)) (hj:j<nl) (hnl:nl≤4294967296) (hg:g<pl)
 (e0:W.cell? ⟨g,off+j*5,none⟩=some (.int .i64 x.f0)) (e1:W.cell? ⟨g,off+j*5+1,none⟩=some (.bool x.f1)) (e2:W.cell? ⟨g,off+j*5+2,none⟩=some (.int .u64 x.f2)) (e3:W.cell? ⟨g,off+j*5+3,none⟩=some (.string x.f3)) (e4:W.cell? ⟨g,off+j*5+4,none⟩=some (.slice xa x.f4.length xc))
 (hT:Tree W (·<pl) x xa) (hxc:x.f4.length≤xc) (ht:TabsIn pl W) (hm:pm+1+bulk x≤8796093022208) (hn:n+(preF x).length≤1000000) :
 Calls Tryz.prog 28 #[.int .i64 j,.pointer (some ⟨pb,0,none⟩),.pointer (some ⟨bp,0,none⟩),.pointer (some ⟨bv,0,none⟩)] W (BecPost f pl n x W):=by
 have hplW:=hL.lt
 have hgW:g<W.heap.size:=by omega
 obtain ⟨q,hq⟩:∃ q,W.heap.size=q:=⟨_,rfl⟩
 have Z:=Row5.new W (.int .i64 0) (.bool false) (.int .u64 0) (.string ⟨#[]⟩) (.slice none 0 0)
 have hb1:=(Below.refl W.heap.size W).alloc (Nat.le_refl _) (.cells #[.int .i64 0,.bool false,.int .u64 0,.string ⟨#[]⟩,.slice none 0 0] 25)
 obtain ⟨W1,hW1⟩:∃ W1,W.alloc (.cells #[.int .i64 0,.bool false,.int .u64 0,.string ⟨#[]⟩,.slice none 0 0] 25)=W1:=⟨_,rfl⟩
 rw [hW1] at Z hb1
 rw [hq] at Z
 have d0:=(hb1.cell (p:=⟨g,off+j*5,none⟩) hgW).trans e0
 have d1:=(hb1.cell (p:=⟨g,off+j*5+1,none⟩) hgW).trans e1
 have d2:=(hb1.cell (p:=⟨g,off+j*5+2,none⟩) hgW).trans e2
 have d3:=(hb1.cell (p:=⟨g,off+j*5+3,none⟩) hgW).trans e3
 have d4:=(hb1.cell (p:=⟨g,off+j*5+4,none⟩) hgW).trans e4
 have b1:Boxed W1 bp 63 (.slice A pm pc):=(hb1.block _ hbp.lt).trans hbp
 have v1:=hbv.below hb1
 have E1:=hE.keep hL (Bc.of_below (by omega) hb1)
 have p1:=E1.bb.cell
 have p2:=Boxed.cell b1
 have p3:=v1.c4
 have hs1:=hb1.size
 have hpb1:=E1.bb.lt
 have hbp1:=Boxed.lt b1
 have hbv1:=v1.lt
 have hgW1:g<W1.heap.size:=by omega
 have hj0:(0:Int)≤(j:Int):=by omega
 have hj1:(j:Int)<(nl:Int):=by omega
 have hPA:=hP.1.keep (ty:=65) (by decide) (KT.of_below hb1)
 have HPA:=Lib.hid hPA
 have HL1:=Lib.hid (hL.below hb1)
 have HE1:=Lib.hid E1
 have HV1:=Lib.hid v1
 have HBP:=Lib.hid b1
 have HB1:=Lib.hid hb1
 have HZ:=Lib.hid Z
 have hpmc:=hPA.2.1
 have hpbq:pb ≠ q:=by have:=hE.bb.lt;omega
 have hbpq:bp ≠ q:=by have:=hbp.lt;omega
 have hbvq:bv ≠ q:=by have:=hbv.lt;omega
 have hgq:g ≠ q:=by omega
 have hq1:q<W1.heap.size:=Z.lt
 obtain ⟨i3,hi3,hz30,hz31,hz32⟩:=info_parts info3
 have HCC := Lib.hid (fun (w2 : World) (g' cap' : Nat) (hb2 : Below W.heap.size W w2) (hp : PathQ w2 (some ⟨g', 0, none⟩) (pm + 1) cap' (px ++ [.int .i64 j])) =>
  hC pl qF ps pb n (pm + 1) cap' xc (some ⟨g', 0, none⟩) xa (px ++ [.int .i64 j]) w2 (hE.keep hL (Bc.of_below (by omega) hb2)) (hL.below hb2) hp (Qaq (fun _ h => h) (fun b hb => hb2.block b (by omega)) hT) hxc (ht.to (hb2.mono (by omega))) hm hn)
 clear hE hL hP hbp hbv e0 e1 e2 e3 e4 hT ht hPA E1 b1 v1 hb1 Z hn hC
 go_enter Tryz.func28,Tryz.ntmps28
 go_wp2_with fail
 go_region_held3 (fun w'=>w'.cell? ⟨pb,0,none⟩=some (.func (.func 26) #[] #[.pointer (some ⟨qF,0,none⟩),.pointer (some ⟨ps,0,none⟩),.pointer (some ⟨pb,0,none⟩)])∧w'.cell? ⟨bp,0,none⟩=some (.slice A pm pc)∧w'.cell? ⟨bv,4,none⟩=some (.slice (some ⟨g,off,none⟩) nl c) ∧
  w'.cell? ⟨g,off+j*5,none⟩=some (.int .i64 x.f0)∧w'.cell? ⟨g,off+j*5+1,none⟩=some (.bool x.f1)∧w'.cell? ⟨g,off+j*5+2,none⟩=some (.int .u64 x.f2)∧w'.cell? ⟨g,off+j*5+3,none⟩=some (.string x.f3)∧w'.cell? ⟨g,off+j*5+4,none⟩=some (.slice xa x.f4.length xc))
  (first
    | with_reducible exact HS4.out
    | with_reducible exact ⟨cell_put5 HS4.out.1 hpbq _ _ _ _ _,cell_put5 HS4.out.2.1 hbpq _ _ _ _ _,cell_put5 HS4.out.2.2.1 hbvq _ _ _ _ _,cell_put5 HS4.out.2.2.2.1 hgq _ _ _ _ _,cell_put5 HS4.out.2.2.2.2.1 hgq _ _ _ _ _,cell_put5 HS4.out.2.2.2.2.2.1 hgq _ _ _ _ _,cell_put5 HS4.out.2.2.2.2.2.2.1 hgq _ _ _ _ _,cell_put5 HS4.out.2.2.2.2.2.2.2 hgq _ _ _ _ _⟩
    | (go_split_ands;refine ⟨?_,?_,?_,?_,?_,?_,?_,?_⟩ <;> (rw [hgr.cell_far _ (by simp;omega) (by simp)];assumption))
    | go_keep)
  (first
    | (go_at_call 26
       refine (HCC.out w2 g' cap' HB2.out.1 HP2.out).mono ?_
       rintro e w4 ⟨u,ua,uc,um,he,u1,u2,u3,u4,u5,u6⟩
       subst he
       have bc:=HB2.out.2.trans u6
       have E4:=HE1.out.keep HL1.out bc
       have V4:=bc.row5 HV1.out (HL1.out.type ⟨_,_,HV1.out⟩ (by decide))
       have P4:=bc.boxed HBP.out (HL1.out.type ⟨_,_,HBP.out⟩ (by decide)) (by decide)
       have Z4:=bc.row5 HZ.out (HL1.out.type ⟨_,_,HZ.out⟩ (by decide))
       have HS4:=Lib.hid (show _∧_∧_∧_∧_∧_∧_∧_ from ⟨E4.bb.cell,Boxed.cell P4,V4.c4,(bc.1.cell (p:=⟨g,off+j*5,none⟩) hg).trans d0,(bc.1.cell (p:=⟨g,off+j*5+1,none⟩) hg).trans d1,(bc.1.cell (p:=⟨g,off+j*5+2,none⟩) hg).trans d2,(bc.1.cell (p:=⟨g,off+j*5+3,none⟩) hg).trans d3,(bc.1.cell (p:=⟨g,off+j*5+4,none⟩) hg).trans d4⟩)
       have HU:=Lib.hid (show _∧_∧_∧_∧_∧_ from ⟨u1,u2,u3,u4,u5,u6⟩)
       have HZ4:=Lib.hid Z4
       have z0:=Z4.c0;have z1:=Z4.c1;have z2:=Z4.c2;have z3:=Z4.c3;have z4:=Z4.c4;have y0:=Z4.fz 0;have y1:=Z4.fz 1;have y2:=Z4.fz 2;have y3:=Z4.fz 3;have y4:=Z4.fz 4
       clear u1 u2 u3 u4 u5 u6 bc E4 V4 P4 Z4)
    | (refine step_append_grows rfl (.tmp 12) (.tmp 14) 63 rfl 3 i3 (.int .i64 0) 1 8 Tryz.underlying63 hi3 hz30 hz31 hz32 rfl (by decide) A pm pm px (by rfl) (fun e=>⟨(HPA.out.1 e).1,(HPA.out.1 e).1⟩) HPA.out.2.2.1 (fun b hb j' u hu=>HPA.out.cell ((Below.refl _ W1).alloc (Nat.le_refl _) _).drew hb hu) ⟨W1.heap.size,0,none⟩ 1 1 [.int .i64 j] (by rfl) rfl (fun j' u hu=>news_one W1 j j' u hu) (by intro u hu;rw [List.mem_singleton] at hu;subst hu;rfl) (by omega) (by unfold maxLen;omega) (by omega) ?_
       intro v' w2 hown hgr
       obtain ⟨g', cap', rfl⟩ := ownsRow_succ hown
       have hB2:Below W1.heap.size W1 w2:=(((Below.refl _ W1).alloc (Nat.le_refl _) _).drew).grown hgr (by simp) (fun k e=>by cases e)
       have hw2:=hB2.size
       have HB2:=Lib.hid (show Below W.heap.size W w2∧Bc pl W1 w2 from ⟨HB1.out.trans (hB2.mono hs1),Bc.of_below (by omega) hB2⟩)
       have HP2:=Lib.hid (PathQ.own hown (one_snoc HPA.out.2.2.2.1 j))
       clear hB2 hown))
 have Z5:=HZ4.out.put5 (.int .i64 u.f0) (.bool u.f1) (.int .u64 u.f2) (.string u.f3) (.slice ua u.f4.length uc)
 have k0:=Z5.c0
 have k1:=Z5.c1
 have k2:=Z5.c2
 have k3:=Z5.c3
 have k4:=Z5.c4
 go_wp2
 refine bodyPost_ret (v:=.agg #[.int .i64 u.f0,.bool u.f1,.int .u64 u.f2,.string u.f3,.slice ua u.f4.length uc]) (by simp [results,Tryz.f28,go_sem,k0,k1,k2,k3,k4]) rfl ?_
 exact BecPost.result (by omega) HB2.out.1 (by omega) (by omega) ⟨_,_,HZ4.out⟩ HU.out.1 HU.out.2.1 HU.out.2.2.1 HU.out.2.2.2.1 HU.out.2.2.2.2.1 HU.out.2.2.2.2.2 _ _ _ _ _
end Go.Proofs.YtfmceonbejlhlaaGreatDoor
