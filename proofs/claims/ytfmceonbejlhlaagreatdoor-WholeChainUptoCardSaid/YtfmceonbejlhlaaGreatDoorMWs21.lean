import Derived.BigGuardIn
import Derived.BigGuardPartIn
import Derived.Test.YtfmceonbejlhlaaGreatDoorMWs20
namespace Go.Proofs.YtfmceonbejlhlaaGreatDoor
open Go.RowKit Go.Shelf Go.Proofs.YtfmceonbejlhlaaGreatDoorW.PrintWords Go.Proofs.YtfmceonbejlhlaaGreatDoorW.PrintLast Go.Proofs.YtfmceonbejlhlaaGreatDoorW.PrintMore
set_option linter.unusedVariables false
attribute [local go_sem] Oper.semAt_some
def nodeB (t:T):Bool:=oneF t.f0 t.f1 t.f2 t.f3 t.f4 && !(leafF t.f0 && decide (0<t.f4.length))
def Qaz (t:T):Int:=if 64<depthF t ∨ 65536<(preF t).length then 2 else if (preF t).all nodeB then 0 else 9
theorem Qcg {W W':World} (h:Below W.heap.size W W'):KeepsOthers W W':=⟨h.size,fun k o hk ho=>(h.block k (Array.getElem?_eq_some_iff.1 hk).1).trans hk⟩
theorem row5_own {β:Type} (B:Nat) (f:β→Value × Value × Value × Value × Value):Own (fun s W=>Row5 W B (f s).1 (f s).2.1 (f s).2.2.1 (f s).2.2.2.1 (f s).2.2.2.2):=fun s X Y row hs hg hrow =>
 (hg.block B hs.lt (fun e'=>by obtain ⟨o,ho,hc⟩:=hrow B e'.symm;rw [show X.heap[B]? = _ from hs] at ho;cases ho;cases hc)).trans hs
theorem bulk_str (t:T):bulk t=t.f3.size+bulkL t.f4+1:=by
 obtain ⟨_,_,_,_,_⟩:=t
 simp [bulk]
set_option maxRecDepth 100000 in
set_option maxHeartbeats 8000000 in
theorem checkT_in (n:Nat) (hn:8≤n) (t:T) (a:Option Addr) (c:Nat) (w:World) (P:Nat→Prop) (hP:∀ g,P g→g<w.heap.size) (hT:Tree w P t a) (hc:t.f4.length≤c) (hb:bulk t≤8796093022208) :
 CallsIn Fence.wide n Tryz.prog 16 #[.agg #[.int .i64 t.f0,.bool t.f1,.int .u64 t.f2,.string t.f3,.slice a t.f4.length c]] w (Ret (.int .i64 (Qaz t)) w):=by
 have h1:1≤n:=by omega
 have hpb:=preF_bulk t
 have hdb:=depth_bulk t
 have R0:=((Row5.new w (.int .i64 t.f0) (.bool t.f1) (.int .u64 t.f2) (.string t.f3) (.slice a t.f4.length c)).alloc (.cells #[.int .i64 0] 27))
 have k0:=R0.c0
 have k1:=R0.c1
 have k2:=R0.c2
 have k3:=R0.c3
 have k4:=R0.c4
 have B1:=Boxed.new (w.alloc (.cells #[.int .i64 t.f0,.bool t.f1,.int .u64 t.f2,.string t.f3,.slice a t.f4.length c] 25)) 27 (.int .i64 0)
 have f1:=B1.frozen
 have g1:=B1.cell
 rw [World.size_alloc] at f1 g1 B1
 obtain ⟨d,hd⟩:∃ d,depthF t=d:=⟨_,rfl⟩
 obtain ⟨m,hm⟩:∃ m,(preF t).length=m:=⟨_,rfl⟩
 have hDep:∀ W,Below w.heap.size w W→Calls Tryz.prog 15 #[.agg #[.int .i64 t.f0,.bool t.f1,.int .u64 t.f2,.string t.f3,.slice a t.f4.length c]] W (Ret (.int .i64 d) W):=fun W h=>by
  have:=depth_any t a c W P (fun g hg=>Nat.lt_of_lt_of_le (hP g hg) h.size) (Qaq (fun _ h=>h) (fun g hg=>h.block g (hP g hg)) hT) (by omega)
  rw [hd] at this
  exact this
 have hCnt:∀ W,Below w.heap.size w W→Calls Tryz.prog 14 #[.agg #[.int .i64 t.f0,.bool t.f1,.int .u64 t.f2,.string t.f3,.slice a t.f4.length c]] W (Ret (.int .i64 m) W):=fun W h=>by
  have:=count_any t a c W P (fun g hg=>Nat.lt_of_lt_of_le (hP g hg) h.size) (Qaq (fun _ h=>h) (fun g hg=>h.block g (hP g hg)) hT) hc hb
  rw [hm] at this
  exact this
 have HD:=Lib.hid hDep
 have HC:=Lib.hid hCnt
 have Hd:=Lib.hid hd
 have Hm:=Lib.hid hm
 rw [hd] at hdb
 rw [hm] at hpb
 clear hDep hCnt hd hm
 have hB2:=((Below.refl _ w).alloc (Nat.le_refl _) (.cells #[.int .i64 t.f0,.bool t.f1,.int .u64 t.f2,.string t.f3,.slice a t.f4.length c] 25)).alloc (by simp) (.cells #[.int .i64 0] 27)
 have HB2:=Lib.hid hB2
 clear hB2
 refine callsIn_of_wp_marks Tryz.func16 rfl trivial ?_ rfl
 simp only [Tryz.ntmps16,List.size_toArray,List.length_cons,List.length_nil,Nat.reduceAdd,Nat.reduceSub,Array.replicate_succ,Array.replicate_zero,List.push_toArray,List.append_toArray,List.nil_append,List.cons_append]
 by_cases hd64:64<d
 · have q1:decide ((64:Int)<(d:Int))=true:=by simp;omega
   gi_wp2_with (refine ⟨trivial,?_⟩;gi_at_call 15;refine (callsIn_wide.2 (HD.out _ HB2.out)).mono ?_;rintro e w1 ⟨rfl,hb1⟩;have hbx:=(show Boxed w1 (w.heap.size+1) 27 _ from (hb1.block _ B1.lt).trans B1);have c1:=hbx.cell;have f1:=hbx.frozen)
   refine ⟨trivial,?_⟩
   go_at_K
   gi_wp2
   refine ⟨.int .i64 2,?_,?_⟩
   · have c2:=(hbx.set (.int .i64 2)).cell
     simp [results,Tryz.f16,go_sem,c2]
   · refine ⟨?_,(HB2.out.trans (hb1.mono HB2.out.size)).setCell (p:=⟨w.heap.size+1,0,none⟩) (by show w.heap.size≤w.heap.size+1;omega) _⟩
     unfold Qaz;rw [if_pos (.inl (by rw [Hd.out];exact hd64))]
 · have q1:decide ((64:Int)<(d:Int))=false:=by simp;omega
   by_cases hm6:65536<m
   · have q2:decide ((65536:Int)<(m:Int))=true:=by simp;omega
     gi_wp2_with (first
      | (refine ⟨trivial,?_⟩;gi_at_call 15;refine (callsIn_wide.2 (HD.out _ HB2.out)).mono ?_;rintro e w1 ⟨rfl,hb1⟩;have R1:=(show Row5 w1 w.heap.size _ _ _ _ _ from (hb1.block _ R0.lt).trans R0);have k0:=R1.c0;have k1:=R1.c1;have k2:=R1.c2;have k3:=R1.c3;have k4:=R1.c4)
      | (refine ⟨trivial,?_⟩;gi_at_call 14;refine (callsIn_wide.2 (HC.out _ (HB2.out.trans (hb1.mono HB2.out.size)))).mono ?_;rintro e w2 ⟨rfl,hb2⟩;have hb12:=hb1.trans (hb2.mono hb1.size);have hbx:=(show Boxed w2 (w.heap.size+1) 27 _ from (hb12.block _ B1.lt).trans B1);have c1:=hbx.cell;have f1:=hbx.frozen))
     refine ⟨.int .i64 2,?_,?_⟩
     · have c2:=(hbx.set (.int .i64 2)).cell
       simp [results,Tryz.f16,go_sem,c2]
     · refine ⟨?_,(HB2.out.trans (hb12.mono HB2.out.size)).setCell (p:=⟨w.heap.size+1,0,none⟩) (by show w.heap.size≤w.heap.size+1;omega) _⟩
       unfold Qaz;rw [if_pos (.inr (by rw [Hm.out];exact hm6))]
   · have q2:decide ((65536:Int)<(m:Int))=false:=by simp;omega
     gi_wp2_with (first
      | (refine ⟨trivial,?_⟩;gi_at_call 15;refine (callsIn_wide.2 (HD.out _ HB2.out)).mono ?_;rintro e w1 ⟨rfl,hb1⟩;have R1:=(show Row5 w1 w.heap.size _ _ _ _ _ from (hb1.block _ R0.lt).trans R0);have k0:=R1.c0;have k1:=R1.c1;have k2:=R1.c2;have k3:=R1.c3;have k4:=R1.c4)
      | (refine ⟨trivial,?_⟩;gi_at_call 14;refine (callsIn_wide.2 (HC.out _ (HB2.out.trans (hb1.mono HB2.out.size)))).mono ?_;rintro e w2 ⟨rfl,hb2⟩;have hb12:=hb1.trans (hb2.mono hb1.size);have hbx:=(show Boxed w2 (w.heap.size+1) 27 _ from (hb12.block _ B1.lt).trans B1);have R2:=(show Row5 w2 w.heap.size _ _ _ _ _ from (hb12.block _ R0.lt).trans R0);have k0:=R2.c0;have k1:=R2.c1;have k2:=R2.c2;have k3:=R2.c3;have k4:=R2.c4)
      | (refine ⟨trivial,?_⟩;gi_at_call 32;refine (each_in (n - 1) _ _ _ _ _ _).mono ?_;rintro e w' ⟨rfl,rfl⟩))
     have hB3:=(HB2.out.trans (hb12.mono HB2.out.size)).alloc (HB2.out.trans (hb12.mono HB2.out.size)).size (.cells #[.int .i64 t.f0,.bool t.f1,.int .u64 t.f2,.string t.f3,.slice a t.f4.length c] 25)
     have hq:w.heap.size+2≤w2.heap.size:=by have:=hb12.size;simp at this;omega
     have bR:=hbx.alloc (.cells #[.int .i64 t.f0,.bool t.f1,.int .u64 t.f2,.string t.f3,.slice a t.f4.length c] 25)
     have bV:=Row5.new w2 (.int .i64 t.f0) (.bool t.f1) (.int .u64 t.f2) (.string t.f3) (.slice a t.f4.length c)
     have hsz:(w2.alloc (.cells #[.int .i64 t.f0,.bool t.f1,.int .u64 t.f2,.string t.f3,.slice a t.f4.length c] 25)).heap.size=w2.heap.size+1:=by simp
     obtain ⟨W0,hW0⟩:∃ W0,w2.alloc (.cells #[.int .i64 t.f0,.bool t.f1,.int .u64 t.f2,.string t.f3,.slice a t.f4.length c] 25)=W0:=⟨_,rfl⟩
     rw [hW0] at bR bV hB3 hsz ⊢
     clear hW0 R0 R1 R2 k0 k1 k2 k3 k4 f1 g1 hb12 hb1 hb2 HB2 HD HC hbx B1
     have hT0:Tree W0 P t a:=Qaq (fun _ h=>h) (fun g hg=>hB3.block g (hP g hg)) hT
     refine wpIn_rangeFunc_ownH rfl h1 (gf:=60) (lb:=#[.pointer (some ⟨w2.heap.size,0,none⟩)]) rfl trivial (enters_of Tryz.func60 (by kernel_rfl) rfl)
      (each1_in (n - 1) (by omega) W0 P (8796093022208) (fun g h=>by have:=hP g h;omega) (fun g=>False) (fun g h=>h.elim) (fun g _ h'=>h') (by omega) t a c hT0 hc hb w2.heap.size (fun h=>h) bV)
      (fun h h'=>h.trans h') (fun W l o o' _ ho hc _=>KeepC.putObj W l o o' ho hc) (Below.refl _ _) (fun _=>rfl)
      (fun pre W=>(∀ x ∈ pre,nodeB x.t=true)∧Below W0.heap.size W0 W)
      (fun c pre W=>((c=.ret∧∃ x ∈ pre,nodeB x.t=false)∧Boxed W (w.heap.size+1) 27 (.int .i64 9))∧Below w.heap.size w W)
      ?hI ?hIx ?h0
      (fun x a' W=>∃ Bx,w2.heap.size≤Bx∧Row5 W Bx (.int .i64 x.t.f0) (.bool x.t.f1) (.int .u64 x.t.f2) (.string x.t.f3) (.slice x.a x.t.f4.length x.c)∧a'={ tmps:=#[.agg #[.int .i64 t.f0,.bool t.f1,.int .u64 t.f2,.string t.f3,.slice a t.f4.length c],.pointer (some ⟨w.heap.size,0,none⟩),.pointer (some ⟨w.heap.size+1,0,none⟩),undef,.pointer (some ⟨Bx,0,none⟩),.agg #[.int .i64 t.f0,.bool t.f1,.int .u64 t.f2,.string t.f3,.slice a t.f4.length c],.int .i64 d,.bool false,.bool false,.agg #[.int .i64 t.f0,.bool t.f1,.int .u64 t.f2,.string t.f3,.slice a t.f4.length c],.int .i64 m,.bool false,.bool false,.agg #[.int .i64 t.f0,.bool t.f1,.int .u64 t.f2,.string t.f3,.slice a t.f4.length c],.func (.func 60) #[] #[.pointer (some ⟨w2.heap.size,0,none⟩)],x.path,.agg #[.int .i64 x.t.f0,.bool x.t.f1,.int .u64 x.t.f2,.string x.t.f3,.slice x.a x.t.f4.length x.c],undef,undef,undef,undef,undef,undef,undef,undef,undef,undef,undef,undef,undef],defers:=[] })
      (fun x a' _ X Y row hs hg hr=>by obtain ⟨Bx,h1,h2,h3⟩:=hs;exact ⟨Bx,h1,row5_own Bx (fun (_:Unit)=>(Value.int .i64 x.t.f0,Value.bool x.t.f1,Value.int .u64 x.t.f2,Value.string x.t.f3,Value.slice x.a x.t.f4.length x.c)) () X Y row h2 hg (fun r e=>(hr r e).2),h3⟩)
      ?assign ?body ?done ?stop
     case hI=>exact OwnFrom.and (ownFrom_pure _ (fun (pre:List (Node W0 P 8796093022208))=>∀ x ∈ pre,nodeB x.t=true)) (ownFrom_below (Nat.le_refl _) (Nat.le_refl _))
     case hIx =>
      intro cc
      exact OwnFrom.and (OwnFrom.and (ownFrom_pure _ (fun (pre:List (Node W0 P 8796093022208))=>cc=.ret∧∃ x ∈ pre,nodeB x.t=false)) (Own.from (boxed_own _ _ (fun _=>.int .i64 9)) _)) (ownFrom_below (Nat.le_refl _) (by omega))
     case h0=>exact ⟨by simp,Below.refl _ _⟩
     case assign =>
      intro l pre x W K hI hK
      dsimp only [encN] at hK ⊢
      gi_wp2
      exact hK _ _ ((KeepsOthers.alloc _ _).from _) (KeepC.of_below ((Below.refl _ W).alloc (Nat.le_refl _) _)) ⟨hI.1,hI.2.alloc hI.2.size _⟩ ⟨W.heap.size,by have:=hI.2.size;omega,Row5.new W _ _ _ _ _,by simp⟩
     case body =>
      rintro l pre x a' W hl hr ⟨hall,hbel⟩ ⟨Bx,hBx,bT,rfl⟩ hlt
      have tc0:=bT.c0
      have tc1:=bT.c1
      have tc2:=bT.c2
      have tc3:=bT.c3
      have tc4:=bT.c4
      have hxs:=bulk_str x.t
      have hxm:=x.small
      have hbR:=(hbel.block _ bR.lt).trans bR
      have hbRc:Boxed W (w.heap.size+1) 27 (.int .i64 0):=hbR
      have hxT : ∀ W', Below W.heap.size W W' → Tree W' P x.t x.a := fun W' h => Qaq (fun _ h => h) (fun g hg => ((hbel.trans (h.mono hbel.size)).block g (by have := hP g hg; omega))) x.tree
      obtain ⟨o,ho⟩:∃ o,oneF x.t.f0 x.t.f1 x.t.f2 x.t.f3 x.t.f4=o:=⟨_,rfl⟩
      obtain ⟨lf,hlf⟩:∃ lf,leafF x.t.f0=lf:=⟨_,rfl⟩
      have hO : ∀ W', Below W.heap.size W W' → Calls Tryz.prog 34 #[.agg #[.int .i64 x.t.f0, .bool x.t.f1, .int .u64 x.t.f2, .string x.t.f3, .slice x.a x.t.f4.length x.c]] W' (Ret (.bool o) W') := fun W' h => by
       have:=one_any x.t x.a x.c W' P (hxT W' h) x.cap (by omega)
       rw [ho] at this
       exact this
      have hLf : ∀ W', Calls Tryz.prog 33 #[.agg #[.int .i64 x.t.f0, .bool x.t.f1, .int .u64 x.t.f2, .string x.t.f3, .slice x.a x.t.f4.length x.c]] W' (Ret (.bool lf) W') := fun W' => by
       have:=leaf_any x.t.f0 (.bool x.t.f1) (.int .u64 x.t.f2) (.string x.t.f3) (.slice x.a x.t.f4.length x.c) W'
       rw [hlf] at this
       exact this
      have HO:=Lib.hid hO
      have HL:=Lib.hid hLf
      have hN:nodeB x.t=(o && !(lf && decide (0<x.t.f4.length))):=by unfold nodeB;rw [ho,hlf]
      have HN:=Lib.hid hN
      clear hO hLf hN ho hlf hxT hbR
      have hgo : ∀ W', Below W.heap.size W W' → nodeB x.t = true → (KeepsFrom W0.heap.size W W' ∧ KeepC (fun g => False) W W' ∧ (∀ y ∈ pre ++ [x], nodeB y.t = true) ∧ Below W0.heap.size W0 W') := fun W' h hn => ⟨(Qcg h).from _, KeepC.of_below h, (fun y hy => by rcases List.mem_append.1 hy with hy | hy; exact hall y hy; rw [List.mem_singleton] at hy; subst hy; exact hn), hbel.trans (h.mono hbel.size)⟩
      have hst : ∀ W', Below W.heap.size W W' → nodeB x.t = false → (KeepsFrom W0.heap.size W (W'.setCell ⟨w.heap.size + 1, 0, none⟩ (.int .i64 9)) ∧ ((∃ y ∈ pre ++ [x], nodeB y.t = false) ∧ Boxed (W'.setCell ⟨w.heap.size + 1, 0, none⟩ (.int .i64 9)) (w.heap.size + 1) 27 (.int .i64 9)) ∧ Below w.heap.size w (W'.setCell ⟨w.heap.size + 1, 0, none⟩ (.int .i64 9))) := fun W' h hn =>
       ⟨((Qcg h).trans (KeepsOthers.setCell _ _ _)).from _,⟨⟨x,by simp,hn⟩,Boxed.set _ ((h.block _ hbRc.lt).trans hbRc)⟩,((hB3.trans (hbel.mono hB3.size)).trans (h.mono (by have:=hB3.size;have:=hbel.size;omega))).setCell (p:=⟨w.heap.size+1,0,none⟩) (by show w.heap.size≤w.heap.size+1;omega) _⟩
      have Hgo:=Lib.hid hgo
      have Hst:=Lib.hid hst
      clear hgo hst hall
      cases o
      · gi_wp2_with (first | (refine ⟨trivial,(fun h=>by cases h),?_⟩;refine ((callsIn_wide.2 (HO.out _ (Below.refl _ _))).inRound l).mono ?_;rintro e w3 ⟨rfl,hb3⟩;have hq3:=(show Boxed w3 _ _ _ from (hb3.block _ hbRc.lt).trans hbRc);have c1:=hq3.cell;have f1:=hq3.frozen;have T3:=(show Row5 w3 Bx _ _ _ _ _ from (hb3.block _ bT.lt).trans bT);have tc0:=T3.c0;have tc1:=T3.c1;have tc2:=T3.c2;have tc3:=T3.c3;have tc4:=T3.c4))
        refine ⟨trivial,?_⟩
        go_at_K
        gi_wp2_with (refine wpListIn_skip rfl rfl ?_)
        obtain ⟨q1,⟨q2,q3⟩,q4⟩:=Hst.out _ hb3 (by rw [HN.out];rfl)
        exact ⟨q1,⟨⟨rfl,q2⟩,q3⟩,q4⟩
      · cases lf
        · gi_wp2_with (first | (refine ⟨trivial,(fun h=>by cases h),?_⟩;refine ((callsIn_wide.2 (HO.out _ (Below.refl _ _))).inRound l).mono ?_;rintro e w3 ⟨rfl,hb3⟩;have hq3:=(show Boxed w3 _ _ _ from (hb3.block _ hbRc.lt).trans hbRc);have c1:=hq3.cell;have f1:=hq3.frozen;have T3:=(show Row5 w3 Bx _ _ _ _ _ from (hb3.block _ bT.lt).trans bT);have tc0:=T3.c0;have tc1:=T3.c1;have tc2:=T3.c2;have tc3:=T3.c3;have tc4:=T3.c4) | (refine ⟨trivial,(fun h=>by cases h),?_⟩;refine ((callsIn_wide.2 (HL.out _)).inRound l).mono ?_;rintro e w4 ⟨rfl,hb4⟩;have hb34:=hb3.trans (hb4.mono hb3.size);have hq4:=(show Boxed w4 _ _ _ from (hb34.block _ hbRc.lt).trans hbRc);have c1:=hq4.cell;have f1:=hq4.frozen;have T4:=(show Row5 w4 Bx _ _ _ _ _ from (hb34.block _ bT.lt).trans bT);have tc4:=T4.c4))
          exact Hgo.out _ hb34 (by rw [HN.out];rfl)
        · by_cases hx0:0<x.t.f4.length
          · have q3:decide ((0:Int)<(x.t.f4.length:Int))=true:=by simpa using hx0
            gi_wp2_with (first | (refine ⟨trivial,(fun h=>by cases h),?_⟩;refine ((callsIn_wide.2 (HO.out _ (Below.refl _ _))).inRound l).mono ?_;rintro e w3 ⟨rfl,hb3⟩;have hq3:=(show Boxed w3 _ _ _ from (hb3.block _ hbRc.lt).trans hbRc);have c1:=hq3.cell;have f1:=hq3.frozen;have T3:=(show Row5 w3 Bx _ _ _ _ _ from (hb3.block _ bT.lt).trans bT);have tc0:=T3.c0;have tc1:=T3.c1;have tc2:=T3.c2;have tc3:=T3.c3;have tc4:=T3.c4) | (refine ⟨trivial,(fun h=>by cases h),?_⟩;refine ((callsIn_wide.2 (HL.out _)).inRound l).mono ?_;rintro e w4 ⟨rfl,hb4⟩;have hb34:=hb3.trans (hb4.mono hb3.size);have hq4:=(show Boxed w4 _ _ _ from (hb34.block _ hbRc.lt).trans hbRc);have c1:=hq4.cell;have f1:=hq4.frozen;have T4:=(show Row5 w4 Bx _ _ _ _ _ from (hb34.block _ bT.lt).trans bT);have tc4:=T4.c4))
            obtain ⟨q1,⟨q2,q3⟩,q4⟩:=Hst.out _ hb34 (by rw [HN.out];simp [hx0])
            exact ⟨q1,⟨⟨rfl,q2⟩,q3⟩,q4⟩
          · have q3:decide ((0:Int)<(x.t.f4.length:Int))=false:=by simpa using hx0
            gi_wp2_with (first | (refine ⟨trivial,(fun h=>by cases h),?_⟩;refine ((callsIn_wide.2 (HO.out _ (Below.refl _ _))).inRound l).mono ?_;rintro e w3 ⟨rfl,hb3⟩;have hq3:=(show Boxed w3 _ _ _ from (hb3.block _ hbRc.lt).trans hbRc);have c1:=hq3.cell;have f1:=hq3.frozen;have T3:=(show Row5 w3 Bx _ _ _ _ _ from (hb3.block _ bT.lt).trans bT);have tc0:=T3.c0;have tc1:=T3.c1;have tc2:=T3.c2;have tc3:=T3.c3;have tc4:=T3.c4) | (refine ⟨trivial,(fun h=>by cases h),?_⟩;refine ((callsIn_wide.2 (HL.out _)).inRound l).mono ?_;rintro e w4 ⟨rfl,hb4⟩;have hb34:=hb3.trans (hb4.mono hb3.size);have hq4:=(show Boxed w4 _ _ _ from (hb34.block _ hbRc.lt).trans hbRc);have c1:=hq4.cell;have f1:=hq4.frozen;have T4:=(show Row5 w4 Bx _ _ _ _ _ from (hb34.block _ bT.lt).trans bT);have tc4:=T4.c4))
            exact Hgo.out _ hb34 (by rw [HN.out];simp [hx0])
     case done =>
      rintro D ys W hD hys ⟨hall,hbel⟩ hK
      have hbR:=(show Boxed W (w.heap.size+1) 27 (.int .i64 0) from (hbel.block _ bR.lt).trans bR)
      have c1:=hbR.cell
      have f1:=hbR.frozen
      have kR:=((hbR.set (.int .i64 0)).kept (grownBy_putObj' _ D (.deferred none)) (by intro h;cases h;omega)).cell
      have hK2:(W.setCell ⟨w.heap.size+1,0,none⟩ (.int .i64 0)).heap[D]? = some (.deferred (some [])):=(Below.heap_setCell _ _ _ D (fun e=>by have:D=w.heap.size+1:=e;omega)).trans hK
      gi_wp2
      refine ⟨by simp,.inl ⟨_,_,rfl,run_takeDeferred hK2,?_⟩⟩
      refine ⟨.int .i64 0,by simp [results,Tryz.f16,go_sem,kR],?_,?_⟩
      · have:Qaz t=0:=by
         unfold Qaz
         rw [if_neg (by rw [Hd.out,Hm.out];omega),if_pos]
         refine List.all_eq_true.2 fun y hy=>?_
         rw [← hys] at hy
         obtain ⟨x,hx,rfl⟩:=List.mem_map.1 hy
         exact hall x hx
        rw [this]
      · exact ((hB3.trans (hbel.mono hB3.size)).setCell (p:=⟨w.heap.size+1,0,none⟩) (by show w.heap.size≤w.heap.size+1;omega) _).trans (belowK_b (w:=w) (Nat.le_refl _) _ D _ _ (by omega) hK2 rfl rfl)
     case stop =>
      rintro D cc pre W hD hpre ⟨⟨⟨rfl,x,hx,hxn⟩,hbR⟩,hbel⟩ hK
      have kR:=(hbR.kept (grownBy_putObj' _ D (.deferred none)) (by intro h;cases h;omega)).cell
      gi_wp2
      refine ⟨by simp,.inl ⟨_,_,rfl,run_takeDeferred hK,?_⟩⟩
      refine ⟨.int .i64 9,by simp [results,Tryz.f16,go_sem,kR],?_,?_⟩
      · have:Qaz t=9:=by
         unfold Qaz
         rw [if_neg (by rw [Hd.out,Hm.out];omega),if_neg]
         intro hall
         have h1:x.t ∈ preF t:=hpre.subset (List.mem_map_of_mem hx)
         have:=List.all_eq_true.1 hall _ h1
         rw [hxn] at this;cases this
        rw [this]
      · exact hbel.trans (belowK_b (w:=w) (Nat.le_refl _) _ D _ _ (by omega) hK rfl rfl)
theorem checkT_any (t:T) (a:Option Addr) (c:Nat) (w:World) (P:Nat→Prop) (hP:∀ g,P g→g<w.heap.size) (hT:Tree w P t a) (hc:t.f4.length≤c) (hb:bulk t≤8796093022208) :
 Calls Tryz.prog 16 #[.agg #[.int .i64 t.f0,.bool t.f1,.int .u64 t.f2,.string t.f3,.slice a t.f4.length c]] w (Ret (.int .i64 (Qaz t)) w) :=
 callsIn_wide.1 (checkT_in 8 (Nat.le_refl _) t a c w P hP hT hc hb)
def Blk (w:World) (g:Nat) (t:TypeId) (cs:Array Value):Prop:=w.heap[g]? = some (.cells cs t (0,0))
section
variable {w w':World} {g:Nat} {t:TypeId} {cs:Array Value}
theorem Blk.lt (h:Blk w g t cs):g<w.heap.size:=(Array.getElem?_eq_some_iff.1 h).1
theorem Blk.cell (h:Blk w g t cs) {i:Nat} {v:Value} (hi:cs[i]? = some v):w.cell? ⟨g,i,none⟩=some v:=(cell_of_row w g i cs t (0,0) h).trans hi
theorem Blk.frozen (h:Blk w g t cs) (i:Nat):w.frozen? ⟨g,i,none⟩=false:=frozen_of_row w g i _ _ h
theorem Blk.new (w:World) (t:TypeId) (cs:Array Value):Blk (w.alloc (.cells cs t)) w.heap.size t cs:=heap_alloc_new w _
theorem Blk.alloc (h:Blk w g t cs) (o:Obj):Blk (w.alloc o) g t cs:=(Below.heap_alloc w o g h.lt).trans h
theorem Blk.set_ (h:Blk w g t cs) (i:Nat) (u:Value):Blk (w.setCell ⟨g,i,none⟩ u) g t (cs.setIfInBounds i u):=by
 unfold Blk at h ⊢
 simp [World.setCell,Array.getElem?_modify,h]
theorem Blk.far (h:Blk w g t cs) {p:Addr} (hp:g ≠ p.block) (u:Value):Blk (w.setCell p u) g t cs:=(Below.heap_setCell w p u g hp).trans h
theorem Blk.below {B:Nat} (h:Blk w g t cs) (hb:Below B w w') (hg:g<B):Blk w' g t cs:=(hb.block g hg).trans h
theorem Blk.grown {row:Option Nat} (h:Blk w g t cs) (hb:w.grownBy w' row) (hg:some g ≠ row):Blk w' g t cs:=(hb.block g h.lt hg).trans h
end
theorem rt_of_nodes:∀ t:T,(preF t).all nodeB=true→Rt t:=by
 intro t
 induction t using T.ind with
 | h k neg n s l ih =>
   intro h
   simp only [preF,List.all_cons,Bool.and_eq_true] at h
   obtain ⟨h1,h2⟩:=h
   unfold nodeB at h1
   simp only [Bool.and_eq_true, Bool.not_eq_true', Bool.and_eq_false_iff, decide_eq_false_iff_not] at h1
   refine ⟨⟨h1.1,fun hl=>?_⟩,?_⟩
   · rcases h1.2 with h | h
     · rw [hl] at h;cases h
     · exact List.eq_nil_of_length_eq_zero (by omega)
   · clear h1
     have:∀ r:List T,(∀ t ∈ r,t ∈ l)→(preL r).all nodeB=true→RtL r:=by
      intro r
      induction r with
      | nil=>intro _ _;trivial
      | cons x r ih2 =>
        intro hm h
        simp only [preL,List.all_append,Bool.and_eq_true] at h
        exact ⟨ih x (hm x (List.mem_cons_self ..)) h.1,ih2 (fun t ht=>hm t (List.mem_cons_of_mem _ ht)) h.2⟩
     exact this l (fun t h=>h) h2
theorem rt_of_check {t:T} (h:Qaz t=0):Rt t:=by
 unfold Qaz at h
 split at h
 · cases h
 · split at h
   · exact rt_of_nodes t (by assumption)
   · cases h
def encE (t:T):Int:=if Qaz t ≠ 0 then Qaz t else if saysF t then 0 else 10
def EncPost (op:Bool) (t:T) (w:World) (e:Ending) (w':World):Prop:=∃ v,e=.returned (.tuple #[v,.int .i64 (encE t)])∧Below w.heap.size w w'∧(encE t ≠ 0→v=.slice none 0 0)∧(encE t=0→w'.ownsRow w.heap.size 5 1 v (itemF op t).length ((itemF op t).map (Value.int .u8)))
set_option maxRecDepth 100000 in
set_option maxHeartbeats 8000000 in
theorem encode_any (op:Bool) (t:T) (a:Option Addr) (c:Nat) (w:World) (P:Nat→Prop) (hP:∀ g,P g→g<w.heap.size) (hT:Tree w P t a) (hc:t.f4.length≤c) (hwf:Wf t) (hb:bulk t≤2147483648) :
 Calls Tryz.prog 5 #[.agg #[.int .i64 t.f0,.bool t.f1,.int .u64 t.f2,.string t.f3,.slice a t.f4.length c],.agg #[.bool op,.int .i64 0,.bool false]] w (EncPost op t w):=by
 have R0:=((Row5.new w (.int .i64 t.f0) (.bool t.f1) (.int .u64 t.f2) (.string t.f3) (.slice a t.f4.length c)).alloc (.cells #[.bool op,.int .i64 0,.bool false] 31))
 have k0:=R0.c0
 have k1:=R0.c1
 have k2:=R0.c2
 have k3:=R0.c3
 have k4:=R0.c4
 obtain ⟨m,hm⟩:∃ m,Qaz t=m:=⟨_,rfl⟩
 obtain ⟨sy,hsy⟩:∃ m,saysF t=m:=⟨_,rfl⟩
 have hTW:∀ W,Below w.heap.size w W→Tree W P t a:=fun W h=>Qaq (fun _ h=>h) (fun g hg=>h.block g (hP g hg)) hT
 have hChk:∀ W,Below w.heap.size w W→Calls Tryz.prog 16 #[.agg #[.int .i64 t.f0,.bool t.f1,.int .u64 t.f2,.string t.f3,.slice a t.f4.length c]] W (Ret (.int .i64 m) W):=fun W h=>by
  have:=checkT_any t a c W P (fun g hg=>Nat.lt_of_lt_of_le (hP g hg) h.size) (hTW W h) hc (by omega)
  rw [hm] at this
  exact this
 have hSay:∀ W,Below w.heap.size w W→Calls Tryz.prog 17 #[.agg #[.int .i64 t.f0,.bool t.f1,.int .u64 t.f2,.string t.f3,.slice a t.f4.length c]] W (Ret (.bool sy) W):=fun W h=>by
  have:=says_any t a c W P (fun g hg=>Nat.lt_of_lt_of_le (hP g hg) h.size) (hTW W h) (by omega)
  rw [hsy] at this
  exact this
 have hIt:m=0→∀ (p:Nat) W,Below w.heap.size w W→WrIs W w.heap.size p op []→Calls Tryz.prog 18 #[.pointer (some ⟨p,0,none⟩),.agg #[.int .i64 t.f0,.bool t.f1,.int .u64 t.f2,.string t.f3,.slice a t.f4.length c]] W (Qa4 w.heap.size p op (itemF op t) W):=fun h0 p W h hw=>by
  have:=item_any op w.heap.size p P hP t a c W (hTW W h) hc (rt_of_check (by rw [hm];exact h0)) hwf h.size [] W (Below.refl _ _) h.size (by simp;omega) hw
  rw [List.nil_append] at this
  exact this
 have HC:=Lib.hid hChk
 have HS:=Lib.hid hSay
 have HI:=Lib.hid hIt
 have HE:Hid (encE t=if m ≠ 0 then m else if sy then 0 else 10):=Lib.hid (by unfold encE;rw [hm,hsy])
 clear hChk hSay hIt hTW hm hsy
 have B1:=Blk.new (w.alloc (.cells #[.int .i64 t.f0,.bool t.f1,.int .u64 t.f2,.string t.f3,.slice a t.f4.length c] 25)) 31 #[.bool op,.int .i64 0,.bool false]
 rw [World.size_alloc] at B1
 have HB2:=Lib.hid (((Below.refl _ w).alloc (Nat.le_refl _) (.cells #[.int .i64 t.f0,.bool t.f1,.int .u64 t.f2,.string t.f3,.slice a t.f4.length c] 25)).alloc (by simp) (.cells #[.bool op,.int .i64 0,.bool false] 31))
 go_enter Tryz.func5,Tryz.ntmps5
 by_cases h0:m=0
 · subst h0
   have HI2:=Lib.hid (HI.out rfl)
   clear HI
   cases sy
   · go_wp2_with (first
      | (go_at_call 16;refine (HC.out _ HB2.out).mono ?_;rintro e w1 ⟨rfl,hb1⟩;have R1:=(show Row5 w1 w.heap.size _ _ _ _ _ from (hb1.block _ R0.lt).trans R0);have k0:=R1.c0;have k1:=R1.c1;have k2:=R1.c2;have k3:=R1.c3;have k4:=R1.c4)
      | (go_at_call 17;refine (HS.out _ (HB2.out.trans (hb1.mono HB2.out.size))).mono ?_;rintro e w2 ⟨rfl,hb2⟩;have hb12:=hb1.trans (hb2.mono hb1.size);have B2:=B1.below hb12 B1.lt;have b0:=B2.cell (i:=0) rfl;have b1:=B2.cell (i:=1) rfl;have b2:=B2.cell (i:=2) rfl;have R2:=(show Row5 w2 w.heap.size _ _ _ _ _ from (hb12.block _ R0.lt).trans R0);have R3:=R2.alloc (.cells #[.slice none 0 0,.bool op,.int .i64 0,.bool false] 52);have k0:=R3.c0;have k1:=R3.c1;have k2:=R3.c2;have k3:=R3.c3;have k4:=R3.c4;have hbw:=HB2.out.trans (hb12.mono HB2.out.size);have hbw3:=hbw.alloc hbw.size (.cells #[.slice none 0 0,.bool op,.int .i64 0,.bool false] 52);have hW:=(⟨_,heap_alloc_new w2 _,World.ownsRow_nil _ _ _ _,hbw.size⟩:WrIs (w2.alloc (.cells #[.slice none 0 0,.bool op,.int .i64 0,.bool false] 52)) w.heap.size w2.heap.size op []))
      | (go_at_call 18;refine (HI2.out _ _ hbw3 hW).mono ?_;rintro e w3 ⟨rfl,⟨v,hv,hrow,hp⟩,hwr⟩;have c0:=hv.c0))
     refine bodyPost_ret (v:=.tuple #[.slice none 0 0,.int .i64 10]) (by simp [results,Tryz.results5,go_sem]) rfl ?_
     exact ⟨_,by rw [HE.out];rfl,HB2.out.trans ((hb1.trans (hb2.mono hb1.size)).mono HB2.out.size),fun _=>rfl,fun h=>by rw [HE.out] at h;simp at h⟩
   · go_wp2_with (first
      | (go_at_call 16;refine (HC.out _ HB2.out).mono ?_;rintro e w1 ⟨rfl,hb1⟩;have R1:=(show Row5 w1 w.heap.size _ _ _ _ _ from (hb1.block _ R0.lt).trans R0);have k0:=R1.c0;have k1:=R1.c1;have k2:=R1.c2;have k3:=R1.c3;have k4:=R1.c4)
      | (go_at_call 17;refine (HS.out _ (HB2.out.trans (hb1.mono HB2.out.size))).mono ?_;rintro e w2 ⟨rfl,hb2⟩;have hb12:=hb1.trans (hb2.mono hb1.size);have B2:=B1.below hb12 B1.lt;have b0:=B2.cell (i:=0) rfl;have b1:=B2.cell (i:=1) rfl;have b2:=B2.cell (i:=2) rfl;have R2:=(show Row5 w2 w.heap.size _ _ _ _ _ from (hb12.block _ R0.lt).trans R0);have R3:=R2.alloc (.cells #[.slice none 0 0,.bool op,.int .i64 0,.bool false] 52);have k0:=R3.c0;have k1:=R3.c1;have k2:=R3.c2;have k3:=R3.c3;have k4:=R3.c4;have hbw:=HB2.out.trans (hb12.mono HB2.out.size);have hbw3:=hbw.alloc hbw.size (.cells #[.slice none 0 0,.bool op,.int .i64 0,.bool false] 52);have hW:=(⟨_,heap_alloc_new w2 _,World.ownsRow_nil _ _ _ _,hbw.size⟩:WrIs (w2.alloc (.cells #[.slice none 0 0,.bool op,.int .i64 0,.bool false] 52)) w.heap.size w2.heap.size op []))
      | (go_at_call 18;refine (HI2.out _ _ hbw3 hW).mono ?_;rintro e w3 ⟨rfl,⟨v,hv,hrow,hp⟩,hwr⟩;have c0:=hv.c0))
     refine bodyPost_ret (v:=.tuple #[v,.int .i64 0]) (by simp [results,Tryz.results5,go_sem]) rfl ?_
     have he:encE t=0:=by rw [HE.out];rfl
     exact ⟨v,by rw [he],hbw3.trans hwr.1,fun h=>absurd he h,fun _=>hrow⟩
 · have hmb:(m != 0)=true:=by simpa using h0
   go_wp2_with (go_at_call 16;refine (HC.out _ HB2.out).mono ?_;rintro e w1 ⟨rfl,hb1⟩)
   refine bodyPost_ret (v:=.tuple #[.slice none 0 0,.int .i64 m]) (by simp [results,Tryz.results5,go_sem]) rfl ?_
   have he:encE t=m:=by rw [HE.out,if_pos h0]
   exact ⟨_,by rw [he],HB2.out.trans (hb1.mono HB2.out.size),fun _=>rfl,fun h=>absurd (he.symm.trans h) h0⟩
open Go.RowKit Go.Proofs.YtfmceonbejlhlaaGreatDoorW.PrintWords Go.Proofs.YtfmceonbejlhlaaGreatDoorW.PrintLast Go.Proofs.YtfmceonbejlhlaaGreatDoorW.PrintMore
set_option linter.unusedVariables false
theorem zero_enc:encE ⟨0,false,0,⟨#[]⟩,[]⟩=0:=by
 simp [encE,Qaz,depthF,preF,nodeB,oneF,bitsF,tailF,saysF,leafF,preL,saysL]
theorem zero_item:(itemF false ⟨0,false,0,⟨#[]⟩,[]⟩).length=1:=by
 simp [itemF,putF]
theorem zero_pre:(preF ⟨0,false,0,⟨#[]⟩,[]⟩).length=1:=by
 simp [preF,preL]
set_option maxRecDepth 100000 in
set_option maxHeartbeats 2000000 in
theorem awake_any (w:World):Calls Tryz.prog 6 #[] w fun e w'=>e=.returned (.bool true)∧Below w.heap.size w w':=by
 have hE:=Lib.hid fun W:World=>encode_any false ⟨0,false,0,⟨#[]⟩,[]⟩ none 0 W (fun _=>False) (fun _ h=>h.elim) (by simp [Tree]) (Nat.le_refl _) (by simp only [Wf,WfL];decide) (by simp only [bulk,bulkL];decide)
 have hC:=Lib.hid fun W:World=>count_any ⟨0,false,0,⟨#[]⟩,[]⟩ none 0 W (fun _=>False) (fun _ h=>h.elim) (by simp [Tree]) (Nat.le_refl _) (by simp only [bulk,bulkL];decide)
 go_enter Tryz.func6,Tryz.ntmps6
 go_wp2_with (first
  | (go_at_call 5;refine (hE.out _).mono ?_;rintro e w1 ⟨v,he,hb,hno,hyes⟩;rw [zero_enc] at he;subst he;obtain hl:=(hyes zero_enc);rw [zero_item] at hl;obtain ⟨g,cap,hv⟩:∃ g cap,v=.slice (some ⟨g,0,none⟩) 1 cap:=(hl.2.elim (fun h=>absurd h.2 (by decide)) fun ⟨g,cap,_,h,_⟩=>⟨g,cap,h⟩);have HB:=Lib.hid hb;clear hno hyes hl hb;subst hv)
  | (go_at_call 14;refine (hC.out _).mono ?_;rintro e w2 ⟨he,hb2⟩;rw [zero_pre] at he;subst he;have HB2:=Lib.hid hb2;clear hb2))
 refine bodyPost_ret (v:=.bool true) (by simp [results,Tryz.results6,go_sem]) rfl ⟨rfl,HB.out.trans (HB2.out.mono HB.out.size)⟩
end Go.Proofs.YtfmceonbejlhlaaGreatDoor
