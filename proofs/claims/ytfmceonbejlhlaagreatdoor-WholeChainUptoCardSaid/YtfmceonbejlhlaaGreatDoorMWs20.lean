import Derived.Shelf.Abstract
import Derived.Test.YtfmceonbejlhlaaGreatDoorMWs18
namespace Go.Proofs.YtfmceonbejlhlaaGreatDoor
open Go.RowKit Go.Shelf Go.Proofs.YtfmceonbejlhlaaGreatDoorW.PrintWords Go.Proofs.YtfmceonbejlhlaaGreatDoorW.PrintLast Go.Proofs.YtfmceonbejlhlaaGreatDoorW.PrintMore
set_option linter.unusedVariables false
attribute [local go_sem] Oper.semAt_some
set_option maxRecDepth 100000 in
set_option maxHeartbeats 4000000 in
theorem count_in (n:Nat) (hn:5≤n) (t:T) (a:Option Addr) (c:Nat) (w:World) (P:Nat→Prop) (hP:∀ g,P g→g<w.heap.size) (hT:Tree w P t a) (hc:t.f4.length≤c) (hb:bulk t≤8796093022208) :
 CallsIn Fence.wide n Tryz.prog 14 #[.agg #[.int .i64 t.f0,.bool t.f1,.int .u64 t.f2,.string t.f3,.slice a t.f4.length c]] w (Ret (.int .i64 (preF t).length) w):=by
 have h1:1≤n:=by omega
 have hpb:=preF_bulk t
 have R0:=((Row5.new w (.int .i64 t.f0) (.bool t.f1) (.int .u64 t.f2) (.string t.f3) (.slice a t.f4.length c)).alloc (.cells #[.int .i64 0] 3))
 have k0:=R0.c0
 have k1:=R0.c1
 have k2:=R0.c2
 have k3:=R0.c3
 have k4:=R0.c4
 have f1:=(Boxed.new (w.alloc (.cells #[.int .i64 t.f0,.bool t.f1,.int .u64 t.f2,.string t.f3,.slice a t.f4.length c] 25)) 3 (.int .i64 0)).frozen
 have g1:=(Boxed.new (w.alloc (.cells #[.int .i64 t.f0,.bool t.f1,.int .u64 t.f2,.string t.f3,.slice a t.f4.length c] 25)) 3 (.int .i64 0)).cell
 rw [World.size_alloc] at f1 g1
 refine callsIn_of_wp_marks Tryz.func14 rfl trivial ?_ rfl
 simp only [Tryz.ntmps14,List.size_toArray,List.length_cons,List.length_nil,Nat.reduceAdd,Nat.reduceSub,Array.replicate_succ,Array.replicate_zero,List.push_toArray,List.append_toArray,List.nil_append,List.cons_append]
 gi_wp2_with (refine ⟨trivial,?_⟩;gi_at_call 32;refine (each_in (n - 1) _ _ _ _ _ _).mono ?_;rintro e w' ⟨rfl,rfl⟩)
 have bC:=(Boxed.new (w.alloc (.cells #[.int .i64 t.f0,.bool t.f1,.int .u64 t.f2,.string t.f3,.slice a t.f4.length c] 25)) 3 (.int .i64 0)).alloc (.cells #[.int .i64 t.f0,.bool t.f1,.int .u64 t.f2,.string t.f3,.slice a t.f4.length c] 25)
 have bV:=Row5.new ((w.alloc (.cells #[.int .i64 t.f0,.bool t.f1,.int .u64 t.f2,.string t.f3,.slice a t.f4.length c] 25)).alloc (.cells #[.int .i64 0] 3)) (.int .i64 t.f0) (.bool t.f1) (.int .u64 t.f2) (.string t.f3) (.slice a t.f4.length c)
 have hB0:=(((Below.refl _ w).alloc (Nat.le_refl _) (.cells #[.int .i64 t.f0,.bool t.f1,.int .u64 t.f2,.string t.f3,.slice a t.f4.length c] 25)).alloc (by simp) (.cells #[.int .i64 0] 3)).alloc (by simp;omega) (.cells #[.int .i64 t.f0,.bool t.f1,.int .u64 t.f2,.string t.f3,.slice a t.f4.length c] 25)
 have hsz:(((w.alloc (.cells #[.int .i64 t.f0,.bool t.f1,.int .u64 t.f2,.string t.f3,.slice a t.f4.length c] 25)).alloc (.cells #[.int .i64 0] 3)).alloc (.cells #[.int .i64 t.f0,.bool t.f1,.int .u64 t.f2,.string t.f3,.slice a t.f4.length c] 25)).heap.size=w.heap.size+3:=by simp
 simp only [World.size_alloc] at bC bV
 obtain ⟨W0,hW0⟩:∃ W0,((w.alloc (.cells #[.int .i64 t.f0,.bool t.f1,.int .u64 t.f2,.string t.f3,.slice a t.f4.length c] 25)).alloc (.cells #[.int .i64 0] 3)).alloc (.cells #[.int .i64 t.f0,.bool t.f1,.int .u64 t.f2,.string t.f3,.slice a t.f4.length c] 25)=W0:=⟨_,rfl⟩
 rw [hW0] at bC bV hB0 hsz ⊢
 clear hW0 R0 k0 k1 k2 k3 k4 f1 g1
 have hT0:Tree W0 P t a:=Qaq (fun _ h=>h) (fun g hg=>hB0.block g (hP g hg)) hT
 refine wpIn_rangeFunc_ownH rfl h1 (gf:=60) (lb:=#[.pointer (some ⟨w.heap.size+1+1,0,none⟩)]) rfl trivial (enters_of Tryz.func60 (by kernel_rfl) rfl)
  (each1_in (n - 1) (by omega) W0 P (8796093022208) (fun g h=>by have:=hP g h;omega) (fun g=>g=w.heap.size+1) (fun g h=>by omega) (fun g h h'=>by have:=hP g h;omega) (by omega) t a c hT0 hc hb (w.heap.size+1+1) (by omega) bV)
  (fun h h'=>h.trans h') (fun W l o o' _ ho hc _=>KeepC.putObj W l o o' ho hc) (Below.refl _ _) (fun _=>rfl)
  (fun pre W=>Boxed W (w.heap.size+1) 3 (.int .i64 pre.length)∧Below w.heap.size w W)
  (fun c pre W=>False)
  ?hI ?hIx ?h0
  (fun x a' W=>a'={ tmps:=#[.agg #[.int .i64 t.f0,.bool t.f1,.int .u64 t.f2,.string t.f3,.slice a t.f4.length c],.pointer (some ⟨w.heap.size,0,none⟩),.int .i64 0,.pointer (some ⟨w.heap.size+1,0,none⟩),.agg #[.int .i64 t.f0,.bool t.f1,.int .u64 t.f2,.string t.f3,.slice a t.f4.length c],.func (.func 60) #[] #[.pointer (some ⟨w.heap.size+1+1,0,none⟩)],x.path,.agg #[.int .i64 x.t.f0,.bool x.t.f1,.int .u64 x.t.f2,.string x.t.f3,.slice x.a x.t.f4.length x.c],undef,undef,undef],defers:=[] })
  (fun x a' _ X Y row hs hg hr=>hs)
  ?assign ?body ?done ?stop
 case hI=>exact OwnFrom.and (Own.from (boxed_own _ _ (fun (pre:List (Node W0 P 8796093022208))=>.int .i64 pre.length)) _) (ownFrom_below (by omega) (by omega))
 case hIx=>exact fun c s' X Y row h hg hr=>h
 case h0=>exact ⟨bC,hB0⟩
 case assign =>
  intro l pre x W K hI hK
  dsimp only [encN] at hK ⊢
  gi_wp2
  exact hK _ _ (KeepsFrom.refl _ _) (KeepC.refl _ _) hI (by simp)
 case body =>
  rintro l pre x a' W hl hr ⟨hbx,hbel⟩ rfl hlt
  have c1:=hbx.cell
  have f1:=hbx.frozen
  gi_wp2
  refine ⟨(KeepsOthers.setCell _ _ _).from _,KeepC.setCell (X:=fun g=>g=w.heap.size+1) W rfl _ _,?_,hbel.setCell (p:=⟨w.heap.size+1,0,none⟩) (by show w.heap.size≤w.heap.size+1;omega) _⟩
  have:=hbx.set (.int .i64 (pre.length+1))
  simpa using this
 case done =>
  rintro D ys W hD hys ⟨hbx,hbel⟩ hK
  have hlen:(ys.length:Int)=(preF t).length:=by rw [← hys];simp
  have c1:=hbx.cell
  rw [hlen] at c1
  gi_wp2
  refine ⟨by simp,.inl ⟨_,_,rfl,run_takeDeferred hK,?_⟩⟩
  refine ⟨.int .i64 (preF t).length,by simp [results,Tryz.f14,go_sem],rfl,?_⟩
  exact hbel.trans (belowK_b (w:=w) (Nat.le_refl _) _ D _ _ (by omega) hK rfl rfl)
 case stop=>exact fun D c pre W _ _ h _=>h.elim
theorem count_any (t:T) (a:Option Addr) (c:Nat) (w:World) (P:Nat→Prop) (hP:∀ g,P g→g<w.heap.size) (hT:Tree w P t a) (hc:t.f4.length≤c) (hb:bulk t≤8796093022208) :
 Calls Tryz.prog 14 #[.agg #[.int .i64 t.f0,.bool t.f1,.int .u64 t.f2,.string t.f3,.slice a t.f4.length c]] w (Ret (.int .i64 (preF t).length) w) :=
 callsIn_wide.1 (count_in 5 (Nat.le_refl _) t a c w P hP hT hc hb)
end Go.Proofs.YtfmceonbejlhlaaGreatDoor
