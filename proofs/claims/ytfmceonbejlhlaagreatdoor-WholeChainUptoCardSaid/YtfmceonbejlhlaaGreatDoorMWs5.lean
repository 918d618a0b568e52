import Derived.RegionTactic
import Derived.Test.YtfmceonbejlhlaaGreatDoorProg
import Derived.Below
import Derived.Deep.Draws
import Derived.Deep.AppendLies
import Derived.Maps.AppendAt
import Derived.OwnWalk
import Derived.Laws.BytesArg
import Derived.Laws.MakeOwn
import Derived.Laws.OwnMore
import Derived.Deep.OwnRows
import Derived.Tactics
import Derived.Lib.ConvBytes
import Derived.Laws.Slices
import Derived.WalkKit
import Derived.KernelRfl
import Derived.RowKit3
import Derived.Deep.LoopGhost
import Derived.Deep.QuietTactic
import Derived.BigQuiet
import Derived.WideLaws
import Derived.Deep.DeepCutAuto
import Derived.Deep.CutBlock
import Derived.Deep.RegionHeld3
import Derived.Laws.Rows
import Derived.Lib.AppendStr
import Derived.ArgAppend
import Derived.Laws.IdiomCopy
import Derived.OrdersHeld
import Derived.Laws.BitsLemmas
import Derived.RowKit
import Derived.Test.YtfmceonbejlhlaaGreatDoorMWs1
import Derived.Test.YtfmceonbejlhlaaGreatDoorMWs2
import Derived.Test.YtfmceonbejlhlaaGreatDoorMWs3
import Derived.Test.YtfmceonbejlhlaaGreatDoorMWs4
namespace Go.Proofs.YtfmceonbejlhlaaGreatDoor
open Go.RowKit Go.Proofs.YtfmceonbejlhlaaGreatDoorW.PrintWords Go.Proofs.YtfmceonbejlhlaaGreatDoorW.PrintLast Go.Proofs.YtfmceonbejlhlaaGreatDoorW.PrintMore
def Holds (W:World) (g:Nat) (st:St):Prop:=W.heap[g]? = some (.cells #[.int .i64 st.1,.int .u8 st.2.1,.int .u8 st.2.2] 191 (0,0))
section
variable {W:World} {g:Nat} {st:St} (h:Holds W g st)
include h
theorem Holds.c0:W.cell? ⟨g,0,none⟩=some (.int .i64 st.1):=cell_of_row W g 0 _ _ _ h
theorem Holds.c1:W.cell? ⟨g,1,none⟩=some (.int .u8 st.2.1):=cell_of_row W g 1 _ _ _ h
theorem Holds.c2:W.cell? ⟨g,2,none⟩=some (.int .u8 st.2.2):=cell_of_row W g 2 _ _ _ h
theorem Holds.fz (j:Nat):W.frozen? ⟨g,j,none⟩=false:=frozen_of_row W g j _ _ h
theorem Holds.lt:g<W.heap.size:=block_lt_of_cell h.c0
theorem Holds.below {W1:World} (hb:Below W.heap.size W W1):Holds W1 g st:=(hb.block g h.lt).trans h
end
theorem Holds.turned {W W1:World} {g:Nat} {st st':St} (h:Holds W g st) (ht:Turned g 0 st' W W1):Holds W1 g st':=by
 obtain ⟨w1,hb,rfl⟩:=ht
 have h1:w1.heap[g]? = _:=h.below hb
 have h2:=heap_setCell_same w1 g 0 _ _ (.int .i64 st'.1) h1
 have h3:=heap_setCell_same _ g (0+1) _ _ (.int .u8 st'.2.1) h2
 have h4:=heap_setCell_same _ g (0+2) _ _ (.int .u8 st'.2.2) h3
 exact h4
theorem Turned.below {W W1:World} {g o:Nat} {st:St} (ht:Turned g o st W W1) {B:Nat} {w:World} (hg:B≤g) (hB:B≤W.heap.size) (hb:Below B w W):Below B w W1:=by
 obtain ⟨w1,hb1,rfl⟩:=ht
 exact (((hb.trans (hb1.mono hB)).setCell (p:=⟨g,o,none⟩) hg _).setCell (p:=⟨g,o+1,none⟩) hg _).setCell (p:=⟨g,o+2,none⟩) hg _
def Pair (r:Int × Int) (w:World) (e:Ending) (w':World):Prop:=e=.returned (.tuple #[.int .i64 r.1,.int .i64 r.2])∧Below w.heap.size w w'
theorem data_drop (s:ByteArray) (k:Nat) (h:k<s.size):s.data.toList.drop k=s[k] :: s.data.toList.drop (k+1):=by
 rw [List.drop_eq_getElem_cons (by simpa using h)];rfl
theorem data_drop_all (s:ByteArray):s.data.toList.drop s.size=[]:=List.drop_eq_nil_of_le (by simp)
set_option maxHeartbeats 1000000 in
set_option maxRecDepth 100000 in
theorem check_any (s:ByteArray) (w:World) (hs:s.size≤9223372036854775807) :
 Calls Tryz.prog 63 #[.string s] w (Pair (chk s) w):=by
 go_enter Tryz.func63,Tryz.ntmps63
 go_wp2
 go_loopw [8] (fun i wr=>∃ (k:Nat) (st:St),k≤s.size∧i=.int .i64 k∧Hid (chk s=chkL (s.data.toList.drop k) st k)∧(0≤st.1∧st.1≤3)∧Holds wr w.heap.size st∧Below w.heap.size w wr) (fun i _=>s.size - (intOf i).toNat)
 case atStart=>exact ⟨0,st0,by omega,rfl,rfl,by decide,heap_alloc_new _ _,(Below.refl _ _).alloc (Nat.le_refl _) _⟩
 case round =>
  obtain ⟨k,st,hk,rfl,hc,h0,hI,hb⟩:=hrel
  by_cases hlt:k<s.size
  · have hd:=Lib.hid (data_drop s k hlt)
    cases hst:stp st s[k].toNat (-1) with
    | none =>
      have hf:Hid (chk s=((k:Int),4)):=by
       show chk s=_
       rw [hc.out,hd.out];simp only [chkL,hst]
      have HS:=Lib.hid hst
      clear hst
      go_wp2_with (go_at_call 103;refine (step_no w.heap.size 0 st s[k].toNat (-1) _ hI.c0 hI.c1 hI.c2 HS.out).mono ?_;rintro e w' ⟨rfl,hb'⟩)
      go_ret2
      exact ⟨by rw [hf.out];rfl,hb.trans (hb'.mono hb.size)⟩
    | some st' =>
      have hf:Hid (chk s=chkL (s.data.toList.drop (k+1)) st' ((k+1:Nat):Int)):=by
       show chk s=_
       rw [hc.out,hd.out];simp only [chkL,hst];rfl
      have h0':=stp_left hst h0
      have HS:=Lib.hid hst
      clear hst
      go_wp2_with (go_at_call 103;refine (step_ok w.heap.size 0 st st' s[k].toNat (-1) _ h0 hI.c0 hI.c1 hI.c2 (hI.fz _) (hI.fz _) (hI.fz _) HS.out).mono ?_;rintro e w' ⟨rfl,hb'⟩)
      go_roundw
      case rel => exact ⟨k + 1, st', by omega, by go_num, hf, h0', hI.turned hb', hb'.below (Nat.le_refl _) hb.size hb⟩
      case measure=>simp [intOf];omega
  · obtain rfl:k=s.size:=by omega
    have c0:=hI.c0
    by_cases hl:0<st.1
    · have hf:Hid (chk s=((s.size:Int),3)):=by
       show chk s=_
       rw [hc.out,data_drop_all];simp only [chkL];rw [if_pos hl]
      clear hc
      go_wp2
      go_ret2
      exact ⟨by rw [hf.out];rfl,hb⟩
    · have hf:Hid (chk s=((s.size:Int),0)):=by
       show chk s=_
       rw [hc.out,data_drop_all];simp only [chkL];rw [if_neg hl]
      clear hc
      go_wp2
      go_ret2
      exact ⟨by rw [hf.out];rfl,hb⟩
open Go.RowKit Go.Proofs.YtfmceonbejlhlaaGreatDoorW.PrintWords Go.Proofs.YtfmceonbejlhlaaGreatDoorW.PrintLast Go.Proofs.YtfmceonbejlhlaaGreatDoorW.PrintMore
set_option linter.unusedVariables false
def widthCells:Array Value:=#[.int .i64 16,.int .i64 5,.int .i64 10,.int .i64 32,.int .i64 8,.int .i64 23,.int .i64 64,.int .i64 11,.int .i64 52]
set_option maxHeartbeats 400000 in
set_option maxRecDepth 100000 in
theorem Qa1 (w:World) :
 Calls Tryz.prog 97 #[] w fun e w'=>e=.returned (.agg widthCells)∧Below w.heap.size w w':=by
 go_enter Tryz.func97,Tryz.ntmps97
 go_wp2_with (refine wpList_store_row rfl 177 (.tmp 0) (.tmp 4) rfl w.heap.size widthCells rfl rfl 177 _ (heap_alloc_new w _) (by kernel_rfl) (by kernel_rfl) (by kernel_rfl) ?_)
 rw [World.setRow_alloc_new]
 exact bodyPost_ret (v:=.agg widthCells) (results_cell_row (p:=0) (ty:=177) rfl _ _ w.heap.size 177 widthCells (0,0) _ rfl (heap_alloc_new w _) Tryz.underlying177 rfl (by kernel_rfl)) rfl ⟨rfl,(Below.refl _ _).alloc (Nat.le_refl _) _⟩
theorem index_width0 (W:World):(Instr.index 177 (.agg widthCells) (.int .i64 0)).run Tryz.prog W=.ok (.agg #[.int .i64 16,.int .i64 5,.int .i64 10]) W:=by kernel_rfl
theorem index_width1 (W:World):(Instr.index 177 (.agg widthCells) (.int .i64 1)).run Tryz.prog W=.ok (.agg #[.int .i64 32,.int .i64 8,.int .i64 23]) W:=by kernel_rfl
theorem Qch (W:World):(Instr.index 177 (.agg widthCells) (.int .i64 2)).run Tryz.prog W=.ok (.agg #[.int .i64 64,.int .i64 11,.int .i64 52]) W:=by kernel_rfl
def Row3 (W:World) (g:Nat) (t:TypeId) (a b c:Value):Prop:=W.heap[g]? = some (.cells #[a,b,c] t (0,0))
section
variable {W:World} {g:Nat} {t:TypeId} {a b c:Value} (h:Row3 W g t a b c)
include h
theorem Row3.c0:W.cell? ⟨g,0,none⟩=some a:=cell_of_row W g 0 _ _ _ h
theorem Row3.c1:W.cell? ⟨g,1,none⟩=some b:=cell_of_row W g 1 _ _ _ h
theorem Row3.c2:W.cell? ⟨g,2,none⟩=some c:=cell_of_row W g 2 _ _ _ h
theorem Row3.fz (j:Nat):W.frozen? ⟨g,j,none⟩=false:=frozen_of_row W g j _ _ h
theorem Row3.lt:g<W.heap.size:=block_lt_of_cell h.c0
theorem Row3.s0 (v:Value):Row3 (W.setCell ⟨g,0,none⟩ v) g t v b c:=by
 rw [setCell_eq_setRow W g 0 _ _ _ v h];exact setRow_heap _ _ _ _ _ _ h
theorem Row3.s1 (v:Value):Row3 (W.setCell ⟨g,1,none⟩ v) g t a v c:=by
 rw [setCell_eq_setRow W g 1 _ _ _ v h];exact setRow_heap _ _ _ _ _ _ h
theorem Row3.s2 (v:Value):Row3 (W.setCell ⟨g,2,none⟩ v) g t a b v:=by
 rw [setCell_eq_setRow W g 2 _ _ _ v h];exact setRow_heap _ _ _ _ _ _ h
theorem Row3.below {W1:World} (hb:Below W.heap.size W W1):Row3 W1 g t a b c:=(hb.block g h.lt).trans h
theorem Row3.alloc (o:Obj):Row3 (W.alloc o) g t a b c:=(Below.heap_alloc W o g h.lt).trans h
end
theorem Row3.new (w:World) (t:TypeId) (a b c:Value):Row3 (w.alloc (.cells #[a,b,c] t)) w.heap.size t a b c:=heap_alloc_new w _
theorem info168:(Tryz.prog.info? 168).map (·.size)=some 3:=by kernel_rfl
theorem Qce {B g:Nat} {w W:World} (h:Below B w W) (hg:B≤g) (v u x:Value):Below B w (((W.setCell ⟨g,0,none⟩ v).setCell ⟨g,1,none⟩ u).setCell ⟨g,2,none⟩ x) :=
 ((h.setCell (p:=⟨g,0,none⟩) hg _).setCell (p:=⟨g,1,none⟩) hg _).setCell (p:=⟨g,2,none⟩) hg _
theorem ret_of {tmps:Array Value} {W:World} {g:Nat} {a b c n:Value} (hp:tmps.getD 4 undef=.pointer (some ⟨g,0,none⟩)) (h:Row3 W g 168 a b c) (hn:tmps.getD 5 undef=n) :
 (results Tryz.f92 tmps).run Tryz.prog W=.ok (.tuple #[.agg #[a,b,c],n]) W:=by
 rw [← hn]
 exact results_ct (p:=4) (u:=5) (ty:=168) rfl _ _ g 168 #[a,b,c] (0,0) _ hp h Tryz.underlying168 rfl info168
set_option maxHeartbeats 2000000 in
set_option maxRecDepth 100000 in
theorem of16 (b:Int) (w:World) :
 Calls Tryz.prog 92 #[.int .i64 16,.int .u64 b] w fun e w'=>e=.returned (.tuple #[.agg #[.int .i64 16,.int .i64 5,.int .i64 10],.bool (decide (b / 65536=0))])∧Below w.heap.size w w':=by
 go_enter Tryz.func92,Tryz.ntmps92
 have R:=Row3.new w 168 (.int .i64 0) (.int .i64 0) (.int .i64 0)
 go_wp2_with (go_at_call 97;refine (Qa1 _).mono ?_;rintro e w1 ⟨rfl,hb1⟩)
 have hB:Below w.heap.size w w1:=((Below.refl _ w).alloc (Nat.le_refl _) _).trans (hb1.mono (by simp))
 replace R:=R.below hb1
 have i0:=fun W=>index_width0 W
 have i1:=fun W=>index_width1 W
 have i2:=fun W=>Qch W
 go_loopw [9] (fun i wr=>∃ k:Nat,k≤0∧i=.int .i64 k∧Row3 wr w.heap.size 168 (.int .i64 0) (.int .i64 0) (.int .i64 0)∧Below w.heap.size w wr) (fun i _=>3 - (intOf i).toNat)
 case atStart=>exact ⟨0,by omega,rfl,R,hB⟩
 case round =>
  obtain ⟨k,hk,rfl,R,hB⟩:=hrel
  obtain rfl:k=0:=by omega
  go_wp2
  have R1:=R.alloc (.cells #[.int .i64 16,.int .i64 5,.int .i64 10] 168)
  have N1:=Row3.new wr 168 (.int .i64 16) (.int .i64 5) (.int .i64 10)
  have hB1:=hB.alloc hB.size (.cells #[.int .i64 16,.int .i64 5,.int .i64 10] 168)
  generalize wr.alloc (.cells #[.int .i64 16,.int .i64 5,.int .i64 10] 168)=W1 at R1 N1 hB1 ⊢
  have n0:=N1.c0
  have n1:=N1.c1
  have n2:=N1.c2
  have r0:=R1.c0
  have r1:=fun v=>(R1.s0 v).c1
  have r2:=fun v u=>((R1.s0 v).s1 u).c2
  have f0:=R1.fz 0
  have f1:=fun v=>(R1.s0 v).fz 1
  have f2:=fun v u=>((R1.s0 v).s1 u).fz 2
  go_region
  all_goals go_wp2
  all_goals exact bodyPost_ret (ret_of rfl (((R1.s0 _).s1 _).s2 _) rfl) rfl ⟨by first | rfl | simp,by first | exact Qce hB1 (Nat.le_refl _) _ _ _ | exact (Qce hB1 (Nat.le_refl _) _ _ _).drew⟩
set_option maxHeartbeats 2000000 in
set_option maxRecDepth 100000 in
theorem of32 (b:Int) (w:World) :
 Calls Tryz.prog 92 #[.int .i64 32,.int .u64 b] w fun e w'=>e=.returned (.tuple #[.agg #[.int .i64 32,.int .i64 8,.int .i64 23],.bool (decide (b / 4294967296=0))])∧Below w.heap.size w w':=by
 go_enter Tryz.func92,Tryz.ntmps92
 have R:=Row3.new w 168 (.int .i64 0) (.int .i64 0) (.int .i64 0)
 go_wp2_with (go_at_call 97;refine (Qa1 _).mono ?_;rintro e w1 ⟨rfl,hb1⟩)
 have hB:Below w.heap.size w w1:=((Below.refl _ w).alloc (Nat.le_refl _) _).trans (hb1.mono (by simp))
 replace R:=R.below hb1
 have i0:=fun W=>index_width0 W
 have i1:=fun W=>index_width1 W
 have i2:=fun W=>Qch W
 go_loopw [9] (fun i wr=>∃ k:Nat,k≤1∧i=.int .i64 k∧Row3 wr w.heap.size 168 (.int .i64 0) (.int .i64 0) (.int .i64 0)∧Below w.heap.size w wr) (fun i _=>3 - (intOf i).toNat)
 case atStart=>exact ⟨0,by omega,rfl,R,hB⟩
 case round =>
  obtain ⟨k,hk,rfl,R,hB⟩:=hrel
  by_cases h0:k=0
  · subst h0
    go_wp2
    go_roundw
    case rel=>exact ⟨1,by omega,by go_num,R.alloc _,hB.alloc hB.size _⟩
    case measure=>simp [intOf]
  obtain rfl:k=1:=by omega
  go_wp2
  have R1:=R.alloc (.cells #[.int .i64 32,.int .i64 8,.int .i64 23] 168)
  have N1:=Row3.new wr 168 (.int .i64 32) (.int .i64 8) (.int .i64 23)
  have hB1:=hB.alloc hB.size (.cells #[.int .i64 32,.int .i64 8,.int .i64 23] 168)
  generalize wr.alloc (.cells #[.int .i64 32,.int .i64 8,.int .i64 23] 168)=W1 at R1 N1 hB1 ⊢
  have n0:=N1.c0
  have n1:=N1.c1
  have n2:=N1.c2
  have r0:=R1.c0
  have r1:=fun v=>(R1.s0 v).c1
  have r2:=fun v u=>((R1.s0 v).s1 u).c2
  have f0:=R1.fz 0
  have f1:=fun v=>(R1.s0 v).fz 1
  have f2:=fun v u=>((R1.s0 v).s1 u).fz 2
  go_region
  all_goals go_wp2
  all_goals exact bodyPost_ret (ret_of rfl (((R1.s0 _).s1 _).s2 _) rfl) rfl ⟨by first | rfl | simp,by first | exact Qce hB1 (Nat.le_refl _) _ _ _ | exact (Qce hB1 (Nat.le_refl _) _ _ _).drew⟩
set_option maxHeartbeats 2000000 in
set_option maxRecDepth 100000 in
theorem of64 (b:Int) (w:World) :
 Calls Tryz.prog 92 #[.int .i64 64,.int .u64 b] w fun e w'=>e=.returned (.tuple #[.agg #[.int .i64 64,.int .i64 11,.int .i64 52],.bool true])∧Below w.heap.size w w':=by
 go_enter Tryz.func92,Tryz.ntmps92
 have R:=Row3.new w 168 (.int .i64 0) (.int .i64 0) (.int .i64 0)
 go_wp2_with (go_at_call 97;refine (Qa1 _).mono ?_;rintro e w1 ⟨rfl,hb1⟩)
 have hB:Below w.heap.size w w1:=((Below.refl _ w).alloc (Nat.le_refl _) _).trans (hb1.mono (by simp))
 replace R:=R.below hb1
 have i0:=fun W=>index_width0 W
 have i1:=fun W=>index_width1 W
 have i2:=fun W=>Qch W
 go_loopw [9] (fun i wr=>∃ k:Nat,k≤2∧i=.int .i64 k∧Row3 wr w.heap.size 168 (.int .i64 0) (.int .i64 0) (.int .i64 0)∧Below w.heap.size w wr) (fun i _=>3 - (intOf i).toNat)
 case atStart=>exact ⟨0,by omega,rfl,R,hB⟩
 case round =>
  obtain ⟨k,hk,rfl,R,hB⟩:=hrel
  by_cases h0:k=0
  · subst h0
    go_wp2
    go_roundw
    case rel=>exact ⟨1,by omega,by go_num,R.alloc _,hB.alloc hB.size _⟩
    case measure=>simp [intOf]
  by_cases h1:k=1
  · subst h1
    go_wp2
    go_roundw
    case rel=>exact ⟨2,by omega,by go_num,R.alloc _,hB.alloc hB.size _⟩
    case measure=>simp [intOf]
  obtain rfl:k=2:=by omega
  go_wp2
  have R1:=R.alloc (.cells #[.int .i64 64,.int .i64 11,.int .i64 52] 168)
  have N1:=Row3.new wr 168 (.int .i64 64) (.int .i64 11) (.int .i64 52)
  have hB1:=hB.alloc hB.size (.cells #[.int .i64 64,.int .i64 11,.int .i64 52] 168)
  generalize wr.alloc (.cells #[.int .i64 64,.int .i64 11,.int .i64 52] 168)=W1 at R1 N1 hB1 ⊢
  have n0:=N1.c0
  have n1:=N1.c1
  have n2:=N1.c2
  have r0:=R1.c0
  have r1:=fun v=>(R1.s0 v).c1
  have r2:=fun v u=>((R1.s0 v).s1 u).c2
  have f0:=R1.fz 0
  have f1:=fun v=>(R1.s0 v).fz 1
  have f2:=fun v u=>((R1.s0 v).s1 u).fz 2
  go_region
  all_goals go_wp2
  all_goals exact bodyPost_ret (ret_of rfl (((R1.s0 _).s1 _).s2 _) rfl) rfl ⟨by first | rfl | simp,by first | exact Qce hB1 (Nat.le_refl _) _ _ _ | exact (Qce hB1 (Nat.le_refl _) _ _ _).drew⟩
end Go.Proofs.YtfmceonbejlhlaaGreatDoor
namespace Go.Proofs.YtfmceonbejlhlaaGreatDoor.P
open Go.RowKit Go.Proofs.YtfmceonbejlhlaaGreatDoorW.PrintWords Go.Proofs.YtfmceonbejlhlaaGreatDoorW.PrintLast Go.Proofs.YtfmceonbejlhlaaGreatDoorW.PrintMore
attribute [local go_sem] Qbx Qbw max_two min_two Qbr Qbs Qbv Qbt   -- for this text's walks alone
set_option linter.unusedVariables false
set_option linter.unusedSimpArgs false
def errW:Option Int→Value
 | none=>.nilIface
 | some c=>.iface 27 (.int .i64 c)
theorem errW_none:errW none=.nilIface:=rfl
theorem Qag (c:Int):errW (some c)=.iface 27 (.int .i64 c):=rfl
theorem info5:(Tryz.prog.info? 5).map (fun i=>(i.zero,i.size,i.bytes))=some (some (.int .u8 0),1,1):=by kernel_rfl
theorem info152:(Tryz.prog.info? 152).map (fun i=>(i.zero,i.size,i.bytes))=some (some (.int .u32 0),1,4):=by kernel_rfl
structure S25 where
 f0:Int
 f1:Bool
 f2:Int
 f3:ByteArray
 f4:(List S25)
def z25:S25:=⟨(0:Int),false,(0:Int),(⟨#[]⟩:ByteArray),([]:List S25)⟩
def F25 (d:Kd S25):Kd S25:=Kd.iso (Kd.pair (Kd.int .i64) (Kd.pair Kd.bool (Kd.pair (Kd.int .u64) (Kd.pair Kd.string (Kd.slice 25 d))))) (fun x:S25=>(x.f0,x.f1,x.f2,x.f3,x.f4))
theorem mono25:Kd.Mono F25:=Kd.mono_iso _ (Kd.mono_pair (Kd.mono_const _) (Kd.mono_pair (Kd.mono_const _) (Kd.mono_pair (Kd.mono_const _) (Kd.mono_pair (Kd.mono_const _) (Kd.mono_slice 25 Kd.mono_id)))))
theorem sub25:Kd.Sub F25 [25]:=Kd.sub_iso _ (Kd.sub_pair (Kd.sub_const _ (by decide)) (Kd.sub_pair (Kd.sub_const _ (by decide)) (Kd.sub_pair (Kd.sub_const _ (by decide)) (Kd.sub_pair (Kd.sub_const _ (by decide)) (Kd.sub_slice 25 (by decide) Kd.sub_id)))))
theorem sz25:∀ n,(Kd.upto F25 5 [25] n).sz=5:=Kd.upto_sz (fun _=>rfl)
def k25:Kd S25:=Kd.fix F25 5 [25] sz25 (Kd.upto_E sub25)
theorem k25_open {w:World} {x:S25} {cs:List Value} (h:k25.K w x cs):∃ A4 c4,cs=[.int .i64 x.f0,.bool x.f1,.int .u64 x.f2,.string x.f3,.slice A4 x.f4.length c4]∧x.f4.length≤c4∧k25.C w A4 x.f4.length x.f4:=by
 obtain ⟨n,h⟩:=h
 cases n with
 | zero=>exact h.elim
 | succ n =>
   obtain ⟨_,_,rfl,rfl,⟨_,_,rfl,rfl,⟨_,_,rfl,rfl,⟨_,_,rfl,rfl,⟨A4,c4,rfl,l4,g4⟩⟩⟩⟩⟩:=h
   exact ⟨A4,c4,rfl,l4,Kd.fix_C g4⟩
theorem k25_mk (w:World) (x:S25) {A4:Option Addr} {c4:Nat} (l4:x.f4.length≤c4) (g4:k25.C w A4 x.f4.length x.f4):k25.K w x [.int .i64 x.f0,.bool x.f1,.int .u64 x.f2,.string x.f3,.slice A4 x.f4.length c4]:=by
 obtain ⟨n4,q4⟩:=Kd.fix_C_back mono25 g4
 have r4:=Kd.upto_C_le mono25 sz25 (show n4≤n4 by omega) q4
 exact ⟨n4+1,⟨[.int .i64 x.f0],[.bool x.f1,.int .u64 x.f2,.string x.f3,.slice A4 x.f4.length c4],rfl,rfl,⟨[.bool x.f1],[.int .u64 x.f2,.string x.f3,.slice A4 x.f4.length c4],rfl,rfl,⟨[.int .u64 x.f2],[.string x.f3,.slice A4 x.f4.length c4],rfl,rfl,⟨[.string x.f3],[.slice A4 x.f4.length c4],rfl,rfl,⟨A4,c4,rfl,l4,r4⟩⟩⟩⟩⟩⟩
def Qbe (xs:List S25) (i:Int):S25:=xs.getD i.toNat z25
theorem at_T25 {w:World} {A:Option Addr} {n:Nat} {xs:List S25} (h:Kd.C k25 w A n xs) (i:Int) (h0:0≤i) (h1:i<n):∃ ad A4 c4,A=some ad∧w.cell? (ad.add (i.toNat*5))=some (.int .i64 (Qbe xs i).f0)∧w.cell? ⟨(ad.add (i.toNat*5)).block,(ad.add (i.toNat*5)).off+1,none⟩=some (.bool (Qbe xs i).f1)∧w.cell? ⟨(ad.add (i.toNat*5)).block,(ad.add (i.toNat*5)).off+2,none⟩=some (.int .u64 (Qbe xs i).f2)∧w.cell? ⟨(ad.add (i.toNat*5)).block,(ad.add (i.toNat*5)).off+3,none⟩=some (.string (Qbe xs i).f3)∧w.cell? ⟨(ad.add (i.toNat*5)).block,(ad.add (i.toNat*5)).off+4,none⟩=some (.slice A4 (Qbe xs i).f4.length c4)∧(Qbe xs i).f4.length≤c4∧k25.C w A4 (Qbe xs i).f4.length (Qbe xs i).f4:=by
 obtain ⟨ad,c,e,_,hK,hc0⟩:=Kd.C_get h z25 i h0 h1
 have hc:∀ j u,c[j]? = some u→w.cell? (ad.add (i.toNat*5+j))=some u:=hc0
 obtain ⟨A4,c4,rfl,l4,g4⟩:=k25_open hK
 exact ⟨ad,A4,c4,e,hc 0 _ rfl,by rw [← add_field _ _ 1 (by omega)];exact hc 1 _ rfl,by rw [← add_field _ _ 2 (by omega)];exact hc 2 _ rfl,by rw [← add_field _ _ 3 (by omega)];exact hc 3 _ rfl,by rw [← add_field _ _ 4 (by omega)];exact hc 4 _ rfl,l4,g4⟩
end Go.Proofs.YtfmceonbejlhlaaGreatDoor.P
namespace Go.Proofs.YtfmceonbejlhlaaGreatDoor.P
open Go.RowKit Go.Proofs.YtfmceonbejlhlaaGreatDoorW.PrintWords Go.Proofs.YtfmceonbejlhlaaGreatDoorW.PrintLast Go.Proofs.YtfmceonbejlhlaaGreatDoorW.PrintMore
attribute [local go_sem] Qbx Qbw max_two min_two Qbr Qbs Qbv Qbt   -- for this text's walks alone
set_option linter.unusedVariables false
set_option linter.unusedSimpArgs false
def head_may.f (a0:Int) (a1:Int):Option (Bool):=if a0<0 then (some false) else (if a0 > 7 then (some false) else (if a0=7 then (if a1<24 then (some true) else (if a1 > 31 then (some ((a1 / 256) == 0)) else (some false))) else (some true)))
set_option maxHeartbeats 8000000 in
set_option maxRecDepth 100000 in
theorem head_may.calls (a0:Int) (a1:Int) (r:Bool) (w:World) (h:head_may.f a0 a1=some r) :
 Calls Tryz.prog 104 #[.int .i64 a0,.int .u64 a1] w fun e w'=>e=.returned (.bool r)∧Qar w w':=by
 have H:(if a0<0 then (some false) else (if a0 > 7 then (some false) else (if a0=7 then (if a1<24 then (some true) else (if a1 > 31 then (some ((a1 / 256) == 0)) else (some false))) else (some true))))=some r:=h
 clear h
 by_cases c3:a0<0
 · rw [if_pos c3] at H
   have c3b0:decide (a0<0)=true:=decide_eq_true c3
   clear c3
   obtain rfl:=Option.some.inj H
   go_enter Tryz.func104,Tryz.ntmps104
   go_wp2
   go_ret
   exact ⟨by first | rfl | (simp;done) | (simp [*];done),by repeat (first | exact Qar.refl _ | apply Qar.step)⟩
 · rw [if_neg c3] at H
   have c3b0:decide (a0<0)=false:=decide_eq_false c3
   clear c3
   by_cases c4:a0 > 7
   · rw [if_pos c4] at H
     have c4b0:decide (7<a0)=true:=decide_eq_true c4
     clear c4
     obtain rfl:=Option.some.inj H
     go_enter Tryz.func104,Tryz.ntmps104
     go_wp2
     go_ret
     exact ⟨by first | rfl | (simp;done) | (simp [*];done),by repeat (first | exact Qar.refl _ | apply Qar.step)⟩
   · rw [if_neg c4] at H
     have c4b0:decide (7<a0)=false:=decide_eq_false c4
     clear c4
     by_cases c5:a0=7
     · rw [if_pos c5] at H
       have c5b0:(a0 == 7)=true:=beq_iff_eq.mpr c5
       have c5b1:(a0 != 7)=false:=bne_eq_false_iff_eq.mpr c5
       clear c5
       by_cases c6:a1<24
       · rw [if_pos c6] at H
         have c6b0:decide (a1<24)=true:=decide_eq_true c6
         clear c6
         obtain rfl:=Option.some.inj H
         go_enter Tryz.func104,Tryz.ntmps104
         go_wp2
         go_ret
         exact ⟨by first | rfl | (simp;done) | (simp [*];done),by repeat (first | exact Qar.refl _ | apply Qar.step)⟩
       · rw [if_neg c6] at H
         have c6b0:decide (a1<24)=false:=decide_eq_false c6
         clear c6
         by_cases c7:a1 > 31
         · rw [if_pos c7] at H
           have c7b0:decide (31<a1)=true:=decide_eq_true c7
           clear c7
           obtain rfl:=Option.some.inj H
           go_enter Tryz.func104,Tryz.ntmps104
           go_wp2
           go_ret
           exact ⟨by first | rfl | (simp;done) | (simp [*];done),by repeat (first | exact Qar.refl _ | apply Qar.step)⟩
         · rw [if_neg c7] at H
           have c7b0:decide (31<a1)=false:=decide_eq_false c7
           clear c7
           obtain rfl:=Option.some.inj H
           go_enter Tryz.func104,Tryz.ntmps104
           go_wp2
           go_ret
           exact ⟨by first | rfl | (simp;done) | (simp [*];done),by repeat (first | exact Qar.refl _ | apply Qar.step)⟩
     · rw [if_neg c5] at H
       have c5b0:(a0 == 7)=false:=beq_eq_false_iff_ne.mpr c5
       have c5b1:(a0 != 7)=true:=bne_iff_ne.mpr c5
       obtain rfl:=Option.some.inj H
       go_enter Tryz.func104,Tryz.ntmps104
       go_wp2
       go_ret
       exact ⟨by first | rfl | (simp;done) | (simp [*];done),by repeat (first | exact Qar.refl _ | apply Qar.step)⟩
end Go.Proofs.YtfmceonbejlhlaaGreatDoor.P
namespace Go.Proofs.YtfmceonbejlhlaaGreatDoor.P
open Go.RowKit Go.Proofs.YtfmceonbejlhlaaGreatDoorW.PrintWords Go.Proofs.YtfmceonbejlhlaaGreatDoorW.PrintLast Go.Proofs.YtfmceonbejlhlaaGreatDoorW.PrintMore
attribute [local go_sem] Qbx Qbw max_two min_two Qbr Qbs Qbv Qbt   -- for this text's walks alone
set_option linter.unusedVariables false
set_option linter.unusedSimpArgs false
def Qax.l0:Nat→Int→List Int→Int→Option (List Int)
 | 0,_,_,_=>none
 | k+1,x1,x7,x8=>if x8≥0 then (if 0≤(wrap64 (8*x8)) then (if x7.length<140737488355328 then (Qax.l0 k x1 (x7 ++ [(shr .u64 x1 (wrap64 (8*x8))) % 256]) (wrap64 (x8 - 1))) else (none)) else (none)) else (some x7)
def Qax.f (k:Nat) (a0:Int) (a1:Int) (a2:Int):Option (List Int):=if a2=4 then (some (([Go.bits .or .u8 ((wrap64 (a0*32)) % 256) ((a1) % 256)]:List Int))) else (if 0≤a2 then (Qax.l0 k a1 (([(wrap64 ((Go.bits .or .i64 (wrap64 (a0*32)) 24)+a2)) % 256]:List Int)) (wrap64 ((shl .i64 1 a2) - 1))) else (none))
set_option maxHeartbeats 8000000 in
set_option maxRecDepth 100000 in
theorem Qax.calls (k:Nat) (a0:Int) (a1:Int) (a2:Int) (r:List Int) (w:World) (h:Qax.f k a0 a1 a2=some r) :
 Calls Tryz.prog 105 #[.int .i64 a0,.int .u64 a1,.int .i64 a2] w fun e w'=>∃ v0_:Value,e=.returned (v0_)∧Kd.R (Kd.int .u8) 5 w' w.heap.size (fun _=>True) v0_ r∧Below w.heap.size w w':=by
 have HB:=Aside0.mk (Below.refl w.heap.size w)
 have H:(if a2=4 then (some (([Go.bits .or .u8 ((wrap64 (a0*32)) % 256) ((a1) % 256)]:List Int))) else (if 0≤a2 then (Qax.l0 k a1 (([(wrap64 ((Go.bits .or .i64 (wrap64 (a0*32)) 24)+a2)) % 256]:List Int)) (wrap64 ((shl .i64 1 a2) - 1))) else (none)))=some r:=h
 clear h
 by_cases c4:a2=4
 · rw [if_pos c4] at H
   have c4b0:(a2 == 4)=true:=beq_iff_eq.mpr c4
   have c4b1:(a2 != 4)=false:=bne_eq_false_iff_eq.mpr c4
   clear c4
   obtain ⟨y121,hy121⟩:∃ y_:List Int,y_=(([Go.bits .or .u8 ((wrap64 (a0*32)) % 256) ((a1) % 256)]:List Int)):=⟨_,rfl⟩
   replace H:(some y121)=some r:=by first | (rw [hy121];with_reducible exact H) | (have H2_:=(Option.bind_some _ _).symm.trans H;rw [hy121];with_reducible exact H2_) | (have H2_:=(Option.bind_some _ _).symm.trans H;with_reducible exact H2_) | with_reducible exact H | (rw [hy121];exact H) | exact H
   have Ny121:=Aside0.mk hy121
   clear hy121
   obtain rfl:=Option.some.inj H
   go_enter Tryz.func105,Tryz.ntmps105
   go_wp2_with (first | ((with_reducible refine Qbb (N:=17) rfl ?_);refine Kd.R_lit (Kd.int .u8) _ 5 ?hg (N:=17) ?hd (xs:=([Go.bits .or .u8 ((wrap64 (a0*32)) % 256) ((a1) % 256)]:List Int)) (inner:=[.int .u8 (Go.bits .or .u8 ((wrap64 (a0*32)) % 256) ((a1) % 256))]) (ok:=fun _=>True) (okp:=fun _=>True) ?hr ?hp (fun _ hk=>hk) trivial (Below.refl _ _) (Nat.le_refl _) (by simp) ?_;(case hd=>rfl);(case hg=>rfl);(case hr=>first | (go_simp;done) | (go_simp;rfl));(case hp=>exact (Reps.one (show Kd.M (Kd.int .u8) _ _ _ (Go.bits .or .u8 ((wrap64 (a0*32)) % 256) ((a1) % 256)) [.int .u8 (Go.bits .or .u8 ((wrap64 (a0*32)) % 256) ((a1) % 256))] from rfl) (Reps.none _ _)));intro v122 w5 ho6 hb hg_ hnew_;clear hg_ hnew_;(first | rw [← Ny121.out] at ho6 | (simp only [Int.reduceToNat] at ho6;rw [← Ny121.out] at ho6));have n0_:=Aside0.mk (Kd.R_lower ho6 (Qao (by repeat (first | (with_reducible first | exact HB.out | apply Qae | apply Qab | apply Qad) | exact HB.out))));have n1_:=Aside0.mk (Qav (by repeat (first | (with_reducible first | exact HB.out | apply Qae | apply Qab | apply Qad) | exact HB.out)) hb);clear HB;have HO123:=n0_;have HB:=n1_;clear n0_ n1_;clear hb ho6))
   go_ret
   exact ⟨_,by first | rfl | (simp [errW_none,Qag] <;> rfl) | (simp [*,errW_none,Qag] <;> rfl),by (with_reducible repeat (first | apply Kd.R_alloc | apply Kd.R_drewN | apply Kd.R_drew));exact HO123.out,by repeat (first | (with_reducible first | exact HB.out | apply Qae | apply Qab | apply Qad) | exact HB.out)⟩
 · rw [if_neg c4] at H
   have c4b0:(a2 == 4)=false:=beq_eq_false_iff_ne.mpr c4
   have c4b1:(a2 != 4)=true:=bne_iff_ne.mpr c4
   obtain ⟨y124,hy124⟩:∃ y_:List Int,y_=(([(wrap64 ((Go.bits .or .i64 (wrap64 (a0*32)) 24)+a2)) % 256]:List Int)):=⟨_,rfl⟩
   replace H:(if 0≤a2 then (Qax.l0 k a1 y124 (wrap64 ((shl .i64 1 a2) - 1))) else (none))=some r:=by first | (rw [hy124];with_reducible exact H) | (have H2_:=(Option.bind_some _ _).symm.trans H;rw [hy124];with_reducible exact H2_) | (have H2_:=(Option.bind_some _ _).symm.trans H;with_reducible exact H2_) | with_reducible exact H | (rw [hy124];exact H) | exact H
   have Ny124:=Aside0.mk hy124
   clear hy124
   by_cases c7:0≤a2
   · rw [if_pos c7] at H
     have c7b0:=eq_true c7
     have c7b1:decide (0≤a2)=true:=decide_eq_true c7
     clear c7
     obtain ⟨ji8,hji8⟩:∃ j_:Int,(shl .i64 1 a2)=j_:=⟨_,rfl⟩
     replace H:(Qax.l0 k a1 y124 (wrap64 ((ji8) - 1)))=some r:=by first | (rw [hji8] at H;exact H) | (simp only [hji8] at H ⊢;exact H)
     have hji8_:(IntKind.i64.wrap (1*2 ^ min a2.toNat 64))=ji8:=hji8
     have hji8z:a2≤64→(IntKind.i64.wrap (1*2 ^ a2.toNat))=ji8:=shl_small hji8
     have hji8u:(IntKind.i64.wrap (2 ^ min a2.toNat 64))=ji8:=by have h_:=hji8_;rw [Int.one_mul] at h_;exact h_
     have hji8v:a2≤64→(IntKind.i64.wrap (2 ^ a2.toNat))=ji8:=fun hle_=>by have h_:=hji8z hle_;rw [Int.one_mul] at h_;exact h_
     have hji8y:(wrap64 (1*2 ^ min a2.toNat 64))=ji8:=(i64_w _).symm.trans hji8_
     have hji8x:a2≤64→(wrap64 (1*2 ^ a2.toNat))=ji8:=fun h_=>(i64_w _).symm.trans (hji8z h_)
     have H':=Aside0.mk H
     clear H
     go_enter Tryz.func105,Tryz.ntmps105
     go_wp2_with (first | ((with_reducible refine Qbb (N:=24) rfl ?_);refine Kd.R_lit (Kd.int .u8) _ 5 ?hg (N:=24) ?hd (xs:=([(wrap64 ((Go.bits .or .i64 (wrap64 (a0*32)) 24)+a2)) % 256]:List Int)) (inner:=[.int .u8 ((wrap64 ((Go.bits .or .i64 (wrap64 (a0*32)) 24)+a2)) % 256)]) (ok:=fun _=>True) (okp:=fun _=>True) ?hr ?hp (fun _ hk=>hk) trivial (Below.refl _ _) (Nat.le_refl _) (by simp) ?_;(case hd=>rfl);(case hg=>rfl);(case hr=>first | (go_simp;done) | (go_simp;rfl));(case hp=>exact (Reps.one (show Kd.M (Kd.int .u8) _ _ _ ((wrap64 ((Go.bits .or .i64 (wrap64 (a0*32)) 24)+a2)) % 256) [.int .u8 ((wrap64 ((Go.bits .or .i64 (wrap64 (a0*32)) 24)+a2)) % 256)] from rfl) (Reps.none _ _)));intro v125 w9 ho10 hb hg_ hnew_;clear hg_ hnew_;(first | rw [← Ny124.out] at ho10 | (simp only [Int.reduceToNat] at ho10;rw [← Ny124.out] at ho10));have n0_:=Aside0.mk (Kd.R_lower ho10 (Qao (by repeat (first | (with_reducible first | exact HB.out | apply Qae | apply Qab | apply Qad) | exact HB.out))));have n1_:=Aside0.mk (Qav (by repeat (first | (with_reducible first | exact HB.out | apply Qae | apply Qab | apply Qad) | exact HB.out)) hb);clear HB;have HO126:=n0_;have HB:=n1_;clear n0_ n1_;clear hb ho10))
     go_loopg [7,8] k (fun kq v7 v8 w'=>∃ (x7_1:List Int) (x8_1:Int),v8=.int .i64 x8_1∧Aside0 (Qax.l0 kq a1 x7_1 x8_1=some r)∧Aside0 (kq≤k)∧Aside0 (Kd.R (Kd.int .u8) 5 w' w.heap.size (fun _=>True) v7 x7_1)∧Aside0 (Below w.heap.size w w'))
     case atStart => exact ⟨(y124), (wrap64 ((ji8) - 1)), (by first | rfl | (simp; done) | (simp only [← hji8] <;> (first | rfl | simp)) | (simp [*]; done)), H', ⟨Nat.le_refl _⟩, ⟨by (with_reducible repeat (first | apply Kd.R_alloc | apply Kd.R_drewN | apply Kd.R_drew)); exact HO126.out⟩, ⟨by repeat (first | (with_reducible first | exact HB.out | apply Qae | apply Qab | apply Qad) | exact HB.out)⟩⟩
     case round =>
      clear H'
      try clear c1
      try clear p2
      try clear c4
      try clear c4b0
      try clear c4b1
      try clear p6
      try clear c7
      try clear c7b0
      try clear c7b1
      try clear c10
      obtain ⟨x7_1,x8_1,rfl,HA,HK1,HO_7,HB⟩:=hrel
      cases gk with
      | zero=>exact absurd HA.out (by simp [Qax.l0])
      | succ k1 =>
        have H:=HA.out
        clear HA
        simp only [Qax.l0] at H
        by_cases c11:x8_1≥0
        · rw [if_pos c11] at H
          have c11b0:decide (0≤x8_1)=true:=decide_eq_true c11
          clear c11
          obtain ⟨ji12,hji12⟩:∃ j_:Int,(wrap64 (8*x8_1))=j_:=⟨_,rfl⟩
          replace H:(if 0≤(ji12) then (if x7_1.length<140737488355328 then (Qax.l0 k1 a1 (x7_1 ++ [(shr .u64 a1 (ji12)) % 256]) (wrap64 (x8_1 - 1))) else (none)) else (none))=some r:=by first | (rw [hji12] at H;exact H) | (simp only [hji12] at H ⊢;exact H)
          have hji12w:(IntKind.i64.wrap (8*x8_1))=ji12:=(i64_w _).trans hji12
          by_cases c13:0≤(ji12)
          · rw [if_pos c13] at H
            have c13b0:=eq_true c13
            have c13b1:decide (0≤(ji12))=true:=decide_eq_true c13
            clear c13
            obtain ⟨ji14,hji14⟩:∃ j_:Int,(shr .u64 a1 (ji12))=j_:=⟨_,rfl⟩
            replace H:(if x7_1.length<140737488355328 then (Qax.l0 k1 a1 (x7_1 ++ [(ji14) % 256]) (wrap64 (x8_1 - 1))) else (none))=some r:=by first | (rw [hji14] at H;exact H) | (simp only [hji14] at H ⊢;exact H)
            have hji14_:(a1 / 2 ^ min (ji12).toNat 64)=ji14:=hji14
            have hji14z:(ji12)≤64→(a1 / 2 ^ (ji12).toNat)=ji14:=shr_small hji14
            by_cases c15:x7_1.length<140737488355328
            · rw [if_pos c15] at H
              have LMc15:=Aside0.mk c15
              clear c15
              obtain ⟨y127,hy127⟩:∃ y_:List Int,y_=(x7_1 ++ [(ji14) % 256]):=⟨_,rfl⟩
              replace H:(Qax.l0 k1 a1 y127 (wrap64 (x8_1 - 1)))=some r:=by first | (rw [hy127];with_reducible exact H) | (have H2_:=(Option.bind_some _ _).symm.trans H;rw [hy127];with_reducible exact H2_) | (have H2_:=(Option.bind_some _ _).symm.trans H;with_reducible exact H2_) | with_reducible exact H | (rw [hy127];exact H) | exact H
              have Ny127:=Aside0.mk hy127
              clear hy127
              have H':=Aside0.mk H
              clear H
              go_wp2_with (first | ((with_reducible refine gate_builtin (b:=.append) (xs:=#[.tmp 32,.tmp 38]) rfl ?_);at_builtin;refine Kd.R_append (Kd.int .u8) (w0:=w) w.heap.size rfl (.tmp 32) (.tmp 38) 26 5 (.int .u8 0) 1 rfl Tryz.underlying26 info5 rfl (by decide) (by omega) u7 x7_1 ((ji14) % 256) [.int .u8 ((ji14) % 256)] (fun _=>True) (fun _=>False) rfl rfl ?aP (fun _ hk=>hk.elim) ?aF ?aO ?aB ?aS ?aL ?_;(case aP=>exact rfl);(case aB=>exact (by repeat (first | (with_reducible first | exact HB.out | apply Qae | apply Qab | apply Qad) | exact HB.out)));(case aF=>exact (fun _ _=>trivial));(case aO=>exact (by (with_reducible repeat (first | apply Kd.R_alloc | apply Kd.R_drewN | apply Kd.R_drew));exact HO_7.out));(case aS=>exact (Qao (by repeat (first | (with_reducible first | exact HB.out | apply Qae | apply Qab | apply Qad) | exact HB.out))));(case aL=>have:=LMc15.out;omega);intro v128 w16 ho hb hg hat;rw [← Ny127.out] at ho;have n0_:=Aside0.mk (hb);have n1_:=Aside0.mk (ho);clear HB;clear HO_7;have HB:=n0_;have HO129:=n1_;clear n0_ n1_;clear ho hb hg hat))
              go_roundg k1
              case measure=>have:=HK1.out;omega
              case rel => exact ⟨(y127), (wrap64 (x8_1 - 1)), (by first | rfl | (simp; done) | (simp [*]; done)), H', ⟨by have := HK1.out; omega⟩, ⟨by (with_reducible repeat (first | apply Kd.R_alloc | apply Kd.R_drewN | apply Kd.R_drew)); exact HO129.out⟩, ⟨by repeat (first | (with_reducible first | exact HB.out | apply Qae | apply Qab | apply Qad) | exact HB.out)⟩⟩
            · rw [if_neg c15] at H
              exact absurd H (by simp)
          · rw [if_neg c13] at H
            exact absurd H (by simp)
        · rw [if_neg c11] at H
          have c11b0:decide (0≤x8_1)=false:=decide_eq_false c11
          clear c11
          obtain rfl:=Option.some.inj H
          go_wp2
          go_ret
          exact ⟨_,by first | rfl | (simp [errW_none,Qag] <;> rfl) | (simp only [← hji8];first | rfl | (simp [errW_none,Qag] <;> rfl)) | (simp [*,errW_none,Qag] <;> rfl),by (with_reducible repeat (first | apply Kd.R_alloc | apply Kd.R_drewN | apply Kd.R_drew));exact HO_7.out,by repeat (first | (with_reducible first | exact HB.out | apply Qae | apply Qab | apply Qad) | exact HB.out)⟩
   · rw [if_neg c7] at H
     exact absurd H (by simp)
end Go.Proofs.YtfmceonbejlhlaaGreatDoor.P
namespace Go.Proofs.YtfmceonbejlhlaaGreatDoor.P
open Go.RowKit Go.Proofs.YtfmceonbejlhlaaGreatDoorW.PrintWords Go.Proofs.YtfmceonbejlhlaaGreatDoorW.PrintLast Go.Proofs.YtfmceonbejlhlaaGreatDoorW.PrintMore
attribute [local go_sem] Qbx Qbw max_two min_two Qbr Qbs Qbv Qbt   -- for this text's walks alone
set_option linter.unusedVariables false
set_option linter.unusedSimpArgs false
def head_size.f (a0:Int):Option (Int):=if a0<24 then (some 4) else (if (a0 / 256)=0 then (some 0) else (if (a0 / 65536)=0 then (some 1) else (if (a0 / 4294967296)=0 then (some 2) else (some 3))))
set_option maxHeartbeats 8000000 in
set_option maxRecDepth 100000 in
theorem head_size.calls (a0:Int) (r:Int) (w:World) (h:head_size.f a0=some r) :
 Calls Tryz.prog 106 #[.int .u64 a0] w fun e w'=>e=.returned (.int .i64 r)∧Qar w w':=by
 have H:(if a0<24 then (some 4) else (if (a0 / 256)=0 then (some 0) else (if (a0 / 65536)=0 then (some 1) else (if (a0 / 4294967296)=0 then (some 2) else (some 3)))))=some r:=h
 clear h
 by_cases c2:a0<24
 · rw [if_pos c2] at H
   have c2b0:decide (a0<24)=true:=decide_eq_true c2
   clear c2
   obtain rfl:=Option.some.inj H
   go_enter Tryz.func106,Tryz.ntmps106
   go_wp2
   go_ret
   exact ⟨by first | rfl | (simp;done) | (simp [*];done),by repeat (first | exact Qar.refl _ | apply Qar.step)⟩
 · rw [if_neg c2] at H
   have c2b0:decide (a0<24)=false:=decide_eq_false c2
   clear c2
   by_cases c3:(a0 / 256)=0
   · rw [if_pos c3] at H
     have c3b0:((a0 / 256) == 0)=true:=beq_iff_eq.mpr c3
     have c3b1:((a0 / 256) != 0)=false:=bne_eq_false_iff_eq.mpr c3
     clear c3
     obtain rfl:=Option.some.inj H
     go_enter Tryz.func106,Tryz.ntmps106
     go_wp2
     go_ret
     exact ⟨by first | rfl | (simp;done) | (simp [*];done),by repeat (first | exact Qar.refl _ | apply Qar.step)⟩
   · rw [if_neg c3] at H
     have c3b0:((a0 / 256) == 0)=false:=beq_eq_false_iff_ne.mpr c3
     have c3b1:((a0 / 256) != 0)=true:=bne_iff_ne.mpr c3
     by_cases c4:(a0 / 65536)=0
     · rw [if_pos c4] at H
       have c4b0:((a0 / 65536) == 0)=true:=beq_iff_eq.mpr c4
       have c4b1:((a0 / 65536) != 0)=false:=bne_eq_false_iff_eq.mpr c4
       clear c4
       obtain rfl:=Option.some.inj H
       go_enter Tryz.func106,Tryz.ntmps106
       go_wp2
       go_ret
       exact ⟨by first | rfl | (simp;done) | (simp [*];done),by repeat (first | exact Qar.refl _ | apply Qar.step)⟩
     · rw [if_neg c4] at H
       have c4b0:((a0 / 65536) == 0)=false:=beq_eq_false_iff_ne.mpr c4
       have c4b1:((a0 / 65536) != 0)=true:=bne_iff_ne.mpr c4
       by_cases c5:(a0 / 4294967296)=0
       · rw [if_pos c5] at H
         have c5b0:((a0 / 4294967296) == 0)=true:=beq_iff_eq.mpr c5
         have c5b1:((a0 / 4294967296) != 0)=false:=bne_eq_false_iff_eq.mpr c5
         clear c5
         obtain rfl:=Option.some.inj H
         go_enter Tryz.func106,Tryz.ntmps106
         go_wp2
         go_ret
         exact ⟨by first | rfl | (simp;done) | (simp [*];done),by repeat (first | exact Qar.refl _ | apply Qar.step)⟩
       · rw [if_neg c5] at H
         have c5b0:((a0 / 4294967296) == 0)=false:=beq_eq_false_iff_ne.mpr c5
         have c5b1:((a0 / 4294967296) != 0)=true:=bne_iff_ne.mpr c5
         obtain rfl:=Option.some.inj H
         go_enter Tryz.func106,Tryz.ntmps106
         go_wp2
         go_ret
         exact ⟨by first | rfl | (simp;done) | (simp [*];done),by repeat (first | exact Qar.refl _ | apply Qar.step)⟩
end Go.Proofs.YtfmceonbejlhlaaGreatDoor.P
namespace Go.Proofs.YtfmceonbejlhlaaGreatDoor.P
open Go.RowKit Go.Proofs.YtfmceonbejlhlaaGreatDoorW.PrintWords Go.Proofs.YtfmceonbejlhlaaGreatDoorW.PrintLast Go.Proofs.YtfmceonbejlhlaaGreatDoorW.PrintMore
attribute [local go_sem] Qbx Qbw max_two min_two Qbr Qbs Qbv Qbt   -- for this text's walks alone
set_option linter.unusedVariables false
set_option linter.unusedSimpArgs false
def head_Put.f (k:Nat) (a0:Int) (a1:Int):Option (List Int × Int):=(head_may.f a0 a1).bind fun t130=>(if t130=true then ((head_size.f a1).bind fun t131=>((Qax.f k a0 a1 t131).bind fun t132=>(some (t132,0)))) else (some (([]:List Int),1)))
set_option maxHeartbeats 8000000 in
set_option maxRecDepth 100000 in
theorem head_Put.calls (k:Nat) (a0:Int) (a1:Int) (r1:List Int) (r2:Int) (w:World) (h:head_Put.f k a0 a1=some (r1,r2)) :
 Calls Tryz.prog 65 #[.int .i64 a0,.int .u64 a1] w fun e w'=>∃ v0_:Value,e=.returned (.tuple #[v0_,.int .i64 r2])∧Kd.R (Kd.int .u8) 5 w' w.heap.size (fun _=>True) v0_ r1∧Below w.heap.size w w':=by
 have HB:=Aside0.mk (Below.refl w.heap.size w)
 have H:((head_may.f a0 a1).bind fun t130=>(if t130=true then ((head_size.f a1).bind fun t131=>((Qax.f k a0 a1 t131).bind fun t132=>(some (t132,0)))) else (some (([]:List Int),1))))=some (r1,r2):=h
 clear h
 replace H:=Option.bind_eq_some_iff.mp H
 obtain ⟨t130,A30,H⟩:=H
 replace H:(if t130=true then ((head_size.f a1).bind fun t131=>((Qax.f k a0 a1 t131).bind fun t132=>(some (t132,0)))) else (some (([]:List Int),1)))=some (r1,r2):=H
 have A3:=Aside0.mk A30
 clear A30
 by_cases c4:t130=true
 · subst c4
   have H1:((head_size.f a1).bind fun t131=>((Qax.f k a0 a1 t131).bind fun t132=>(some (t132,0))))=some (r1,r2):=by rw [if_pos rfl] at H;exact H
   clear H
   have H:=H1
   clear H1
   replace H:=Option.bind_eq_some_iff.mp H
   obtain ⟨t131,A50,H⟩:=H
   replace H:((Qax.f k a0 a1 t131).bind fun t132=>(some (t132,0)))=some (r1,r2):=H
   have A5:=Aside0.mk A50
   clear A50
   replace H:=Option.bind_eq_some_iff.mp H
   obtain ⟨t132,A60,H⟩:=H
   replace H:(some (t132,0))=some (r1,r2):=H
   have A6:=Aside0.mk A60
   clear A60
   simp only [Option.some.injEq,Prod.mk.injEq] at H
   obtain ⟨rfl,rfl⟩:=H
   go_enter Tryz.func65,Tryz.ntmps65
   go_wp2_with (first | ((with_reducible refine Qcf (f:=104) rfl ?_);refine goesL_ (some 8) rfl rfl Tryz.func104 (by kernel_rfl) rfl #[.int .i64 a0,.int .u64 a1] rfl (by (try simp only [List.map_toArray,List.map_cons,List.map_nil]);first | done | rfl | (simp only [List.length_drop,List.length_take];rfl)) ?_;(with_reducible refine (head_may.calls a0 a1 true _ A3.out).mono ?_);rintro e w' ⟨rfl,⟨nd,rfl⟩⟩;refine ⟨_,rfl,?_⟩) | ((with_reducible refine Qcf (f:=106) rfl ?_);refine goesL_ (some 13) rfl rfl Tryz.func106 (by kernel_rfl) rfl #[.int .u64 a1] rfl (by (try simp only [List.map_toArray,List.map_cons,List.map_nil]);first | done | rfl | (simp only [List.length_drop,List.length_take];rfl)) ?_;(with_reducible refine (head_size.calls a1 t131 _ A5.out).mono ?_);rintro e w' ⟨rfl,⟨nd,rfl⟩⟩;refine ⟨_,rfl,?_⟩) | ((with_reducible refine Qcf (f:=105) rfl ?_);refine goesL_ (some 14) rfl rfl Tryz.func105 (by kernel_rfl) rfl #[.int .i64 a0,.int .u64 a1,.int .i64 t131] rfl (by (try simp only [List.map_toArray,List.map_cons,List.map_nil]);first | done | rfl | (simp only [List.length_drop,List.length_take];rfl)) ?_;(with_reducible refine (Qax.calls k a0 a1 t131 t132 _ A6.out).mono ?_);rintro e w7 ⟨v133,rfl,ho0,hb⟩;refine ⟨_,rfl,?_⟩;have n0_:=Aside0.mk (Kd.R_lower ho0 (Qao (by repeat (first | (with_reducible first | exact HB.out | apply Qae | apply Qab | apply Qad) | exact HB.out))));have n1_:=Aside0.mk (Qav (by repeat (first | (with_reducible first | exact HB.out | apply Qae | apply Qab | apply Qad) | exact HB.out)) hb);clear HB;have HO134:=n0_;have HB:=n1_;clear n0_ n1_;(try clear hb);(try clear hb2);(try clear hk);(try clear hi);(try clear ho0)))
   go_ret2
   exact ⟨_,by first | rfl | (simp [errW_none,Qag] <;> rfl) | (simp [*,errW_none,Qag] <;> rfl),by (with_reducible repeat (first | apply Kd.R_alloc | apply Kd.R_drewN | apply Kd.R_drew));exact HO134.out,by repeat (first | (with_reducible first | exact HB.out | apply Qae | apply Qab | apply Qad) | exact HB.out)⟩
 · replace c4:=Bool.eq_false_iff.mpr c4
   subst c4
   have H1:(some (([]:List Int),1))=some (r1,r2):=by rw [if_neg (show ¬ (false=true) by decide)] at H;exact H
   clear H
   have H:=H1
   clear H1
   simp only [Option.some.injEq,Prod.mk.injEq] at H
   obtain ⟨rfl,rfl⟩:=H
   go_enter Tryz.func65,Tryz.ntmps65
   go_wp2_with (first | ((with_reducible refine Qcf (f:=104) rfl ?_);refine goesL_ (some 8) rfl rfl Tryz.func104 (by kernel_rfl) rfl #[.int .i64 a0,.int .u64 a1] rfl (by (try simp only [List.map_toArray,List.map_cons,List.map_nil]);first | done | rfl | (simp only [List.length_drop,List.length_take];rfl)) ?_;(with_reducible refine (head_may.calls a0 a1 false _ A3.out).mono ?_);rintro e w' ⟨rfl,⟨nd,rfl⟩⟩;refine ⟨_,rfl,?_⟩))
   go_ret2
   exact ⟨_,by first | rfl | (simp [errW_none,Qag] <;> rfl) | (simp [*,errW_none,Qag] <;> rfl),by first | exact Kd.R_nil _ _ _ _ _ | exact Kd.N_nil _ _ _ _ _ | exact Kd.V_nil _ _ _ _ _ | exact Kd.Q_nil _ _ _ _ _ | exact Kd.S_nil _ _ _ _ _,by repeat (first | (with_reducible first | exact HB.out | apply Qae | apply Qab | apply Qad) | exact HB.out)⟩
end Go.Proofs.YtfmceonbejlhlaaGreatDoor.P
namespace Go.Proofs.YtfmceonbejlhlaaGreatDoor.P
open Go.RowKit Go.Proofs.YtfmceonbejlhlaaGreatDoorW.PrintWords Go.Proofs.YtfmceonbejlhlaaGreatDoorW.PrintLast Go.Proofs.YtfmceonbejlhlaaGreatDoorW.PrintMore
attribute [local go_sem] Qbx Qbw max_two min_two Qbr Qbs Qbv Qbt   -- for this text's walks alone
set_option linter.unusedVariables false
set_option linter.unusedSimpArgs false
def Qas.f (a0_0:Int) (a0_1:Int) (a0_2:Int):Option (Int):=if 0≤a0_1 then (some (wrap64 ((shl .i64 1 a0_1) - 1))) else (none)
set_option maxHeartbeats 8000000 in
set_option maxRecDepth 100000 in
theorem Qas.calls (a0_0:Int) (a0_1:Int) (a0_2:Int) (r:Int) (w:World) (h:Qas.f a0_0 a0_1 a0_2=some r) :
 Calls Tryz.prog 99 #[.agg #[.int .i64 a0_0,.int .i64 a0_1,.int .i64 a0_2]] w fun e w'=>e=.returned (.int .i64 r)∧Below w.heap.size w w':=by
 have hu168:=Tryz.underlying168
 have HB:=Aside0.mk (Below.refl w.heap.size w)
 have H:(if 0≤a0_1 then (some (wrap64 ((shl .i64 1 a0_1) - 1))) else (none))=some r:=h
 clear h
 by_cases c2:0≤a0_1
 · rw [if_pos c2] at H
   have c2b0:=eq_true c2
   have c2b1:decide (0≤a0_1)=true:=decide_eq_true c2
   clear c2
   obtain ⟨ji3,hji3⟩:∃ j_:Int,(shl .i64 1 a0_1)=j_:=⟨_,rfl⟩
   replace H:(some (wrap64 ((ji3) - 1)))=some r:=by first | (rw [hji3] at H;exact H) | (simp only [hji3] at H ⊢;exact H)
   have hji3_:(IntKind.i64.wrap (1*2 ^ min a0_1.toNat 64))=ji3:=hji3
   have hji3z:a0_1≤64→(IntKind.i64.wrap (1*2 ^ a0_1.toNat))=ji3:=shl_small hji3
   have hji3u:(IntKind.i64.wrap (2 ^ min a0_1.toNat 64))=ji3:=by have h_:=hji3_;rw [Int.one_mul] at h_;exact h_
   have hji3v:a0_1≤64→(IntKind.i64.wrap (2 ^ a0_1.toNat))=ji3:=fun hle_=>by have h_:=hji3z hle_;rw [Int.one_mul] at h_;exact h_
   have hji3y:(wrap64 (1*2 ^ min a0_1.toNat 64))=ji3:=(i64_w _).symm.trans hji3_
   have hji3x:a0_1≤64→(wrap64 (1*2 ^ a0_1.toNat))=ji3:=fun h_=>(i64_w _).symm.trans (hji3z h_)
   obtain rfl:=Option.some.inj H
   go_enter Tryz.func99,Tryz.ntmps99
   go_wp2_with (first | ((with_reducible refine Qbb (N:=1) rfl ?_);refine Qa9 ?hg (N:=1) ?hd (cs:=#[.int .i64 a0_0,.int .i64 a0_1,.int .i64 a0_2]) (t:=168) ?hr ?_;(case hd=>rfl);(case hg=>rfl);(case hr=>first | (go_simp;done) | (go_simp;rfl));intro gb158 hg w4 hbox hb;have n0_:=Aside0.mk (Qav (by repeat (first | (with_reducible first | exact HB.out | apply Qae | apply Qab | apply Qad) | exact HB.out)) hb);have n1_:=Aside0.mk (hbox);have n2_:=Aside0.mk ((by rw [hg];exact (Qao (by repeat (first | (with_reducible first | exact HB.out | apply Qae | apply Qab | apply Qad) | exact HB.out))):w.heap.size≤gb158));have n3_:=Aside0.mk ((by rw [hg];exact (Qao (by repeat (first | (with_reducible first | exact HB.out | apply Qae | apply Qab | apply Qad) | exact HB.out))):w.heap.size≤gb158));clear HB;have HB:=n0_;have BK158:=n1_;have GW158:=n2_;have GE158:=n3_;clear n0_ n1_ n2_ n3_;clear hb hbox hg;have hcz5_0:w4.cell? ⟨gb158,0,none⟩=some (.int .i64 a0_0):=(Qaa BK158.out 0).trans rfl;have hcz5_1:w4.cell? ⟨gb158,1,none⟩=some (.int .i64 a0_1):=(Qaa BK158.out 1).trans rfl;have hcz5_2:w4.cell? ⟨gb158,2,none⟩=some (.int .i64 a0_2):=(Qaa BK158.out 2).trans rfl;have hfz5_0:=Qac BK158.out 0;have hfz5_1:=Qac BK158.out 1;have hfz5_2:=Qac BK158.out 2))
   go_ret
   exact ⟨by first | rfl | (simp [errW_none,Qag] <;> rfl) | (simp only [← hji3];first | rfl | (simp [errW_none,Qag] <;> rfl)) | (simp [*,errW_none,Qag] <;> rfl),by repeat (first | (with_reducible first | exact HB.out | apply Qae | apply Qab | apply Qad | refine Qaf ?_ GE158.out) | exact HB.out)⟩
 · rw [if_neg c2] at H
   exact absurd H (by simp)
end Go.Proofs.YtfmceonbejlhlaaGreatDoor.P
namespace Go.Proofs.YtfmceonbejlhlaaGreatDoor.P
open Go.RowKit Go.Proofs.YtfmceonbejlhlaaGreatDoorW.PrintWords Go.Proofs.YtfmceonbejlhlaaGreatDoorW.PrintLast Go.Proofs.YtfmceonbejlhlaaGreatDoorW.PrintMore
attribute [local go_sem] Qbx Qbw max_two min_two Qbr Qbs Qbv Qbt   -- for this text's walks alone
set_option linter.unusedVariables false
set_option linter.unusedSimpArgs false
def Qau.f (a0_0:Int) (a0_1:Int) (a0_2:Int) (a1:Int):Option (Bool × Int × Int):=if 0≤(wrap64 (a0_0 - 1)) then (if 0≤a0_2 then ((Qas.f a0_0 a0_1 a0_2).bind fun t161=>(some (((shr .u64 a1 (wrap64 (a0_0 - 1))) == 1),Go.bits .and .i64 (wrap64 (shr .u64 a1 a0_2)) t161,Go.bits .and .u64 a1 (IntKind.u64.wrap ((shl .u64 1 a0_2) - 1))))) else (none)) else (none)
def Qau.T1:Bool × List (List Nat × List Nat):=(true,[([],[]),([],[]),([1],[1]),([2],[2]),([0,3],[0,3]),([4],[4]),([],[]),([],[]),([7],[7]),([6,8],[6,8]),([9],[9]),([],[]),([11],[11]),([10,12],[10,12]),([],[]),([],[]),([15],[15]),([16],[16]),([17],[17]),([14,18],[14,18]),([5,13,19],[5,13,19]),([20,12,0,1,2,3,4,5,6,7,8,9,10,11,12,13,14,15,16,17,18,19,20],[20])])
def Qau.B1:List Nat:=[0,0,2,6,15,31,0,0,128,448,960,0,2048,8128,0,0,32768,98304,229376,507904,1048575,2097151]
theorem Qau.tab1:rtab .any (opsOf Tryz.f93 1)=Qau.T1:=by kernel_rfl
theorem Qau.bits1:waitsOk Qau.T1.2 Qau.B1=true:=by kernel_rfl
set_option maxHeartbeats 8000000 in
set_option maxRecDepth 100000 in
theorem Qau.calls (a0_0:Int) (a0_1:Int) (a0_2:Int) (a1:Int) (r1:Bool) (r2:Int) (r3:Int) (w:World) (h:Qau.f a0_0 a0_1 a0_2 a1=some (r1,r2,r3)) :
 Calls Tryz.prog 93 #[.agg #[.int .i64 a0_0,.int .i64 a0_1,.int .i64 a0_2],.int .u64 a1] w fun e w'=>e=.returned (.agg #[.bool r1,.int .i64 r2,.int .u64 r3])∧Below w.heap.size w w':=by
 have hu168:=Tryz.underlying168
 have hu172:=Tryz.underlying172
 have HB:=Aside0.mk (Below.refl w.heap.size w)
 have H:(if 0≤(wrap64 (a0_0 - 1)) then (if 0≤a0_2 then ((Qas.f a0_0 a0_1 a0_2).bind fun t161=>(some (((shr .u64 a1 (wrap64 (a0_0 - 1))) == 1),Go.bits .and .i64 (wrap64 (shr .u64 a1 a0_2)) t161,Go.bits .and .u64 a1 (IntKind.u64.wrap ((shl .u64 1 a0_2) - 1))))) else (none)) else (none))=some (r1,r2,r3):=h
 clear h
 obtain ⟨ji3,hji3⟩:∃ j_:Int,(wrap64 (a0_0 - 1))=j_:=⟨_,rfl⟩
 replace H:(if 0≤(ji3) then (if 0≤a0_2 then ((Qas.f a0_0 a0_1 a0_2).bind fun t161=>(some (((shr .u64 a1 (ji3)) == 1),Go.bits .and .i64 (wrap64 (shr .u64 a1 a0_2)) t161,Go.bits .and .u64 a1 (IntKind.u64.wrap ((shl .u64 1 a0_2) - 1))))) else (none)) else (none))=some (r1,r2,r3):=by first | (rw [hji3] at H;exact H) | (simp only [hji3] at H ⊢;exact H)
 have hji3w:(IntKind.i64.wrap (a0_0 - 1))=ji3:=(i64_w _).trans hji3
 by_cases c4:0≤(ji3)
 · rw [if_pos c4] at H
   have c4b0:=eq_true c4
   have c4b1:decide (0≤(ji3))=true:=decide_eq_true c4
   clear c4
   obtain ⟨ji5,hji5⟩:∃ j_:Int,(shr .u64 a1 (ji3))=j_:=⟨_,rfl⟩
   replace H:(if 0≤a0_2 then ((Qas.f a0_0 a0_1 a0_2).bind fun t161=>(some (((ji5) == 1),Go.bits .and .i64 (wrap64 (shr .u64 a1 a0_2)) t161,Go.bits .and .u64 a1 (IntKind.u64.wrap ((shl .u64 1 a0_2) - 1))))) else (none))=some (r1,r2,r3):=by first | (rw [hji5] at H;exact H) | (simp only [hji5] at H ⊢;exact H)
   have hji5_:(a1 / 2 ^ min (ji3).toNat 64)=ji5:=hji5
   have hji5z:(ji3)≤64→(a1 / 2 ^ (ji3).toNat)=ji5:=shr_small hji5
   by_cases c6:0≤a0_2
   · rw [if_pos c6] at H
     have c6b0:=eq_true c6
     have c6b1:decide (0≤a0_2)=true:=decide_eq_true c6
     clear c6
     obtain ⟨ji7,hji7⟩:∃ j_:Int,(shr .u64 a1 a0_2)=j_:=⟨_,rfl⟩
     replace H:((Qas.f a0_0 a0_1 a0_2).bind fun t161=>(some (((ji5) == 1),Go.bits .and .i64 (wrap64 (ji7)) t161,Go.bits .and .u64 a1 (IntKind.u64.wrap ((shl .u64 1 a0_2) - 1)))))=some (r1,r2,r3):=by first | (rw [hji7] at H;exact H) | (simp only [hji7] at H ⊢;exact H)
     have hji7_:(a1 / 2 ^ min a0_2.toNat 64)=ji7:=hji7
     have hji7z:a0_2≤64→(a1 / 2 ^ a0_2.toNat)=ji7:=shr_small hji7
     replace H:=Option.bind_eq_some_iff.mp H
     obtain ⟨t161,A80,H⟩:=H
     replace H:(some (((ji5) == 1),Go.bits .and .i64 (wrap64 (ji7)) t161,Go.bits .and .u64 a1 (IntKind.u64.wrap ((shl .u64 1 a0_2) - 1))))=some (r1,r2,r3):=H
     have A8:=Aside0.mk A80
     clear A80
     have c9b0:=eq_true (of_decide_eq_true (by first | (with_reducible assumption) | assumption):0≤a0_2)
     obtain ⟨ji10,hji10⟩:∃ j_:Int,(shl .u64 1 a0_2)=j_:=⟨_,rfl⟩
     replace H:(some (((ji5) == 1),Go.bits .and .i64 (wrap64 (ji7)) t161,Go.bits .and .u64 a1 (IntKind.u64.wrap ((ji10) - 1))))=some (r1,r2,r3):=by first | (rw [hji10] at H;exact H) | (simp only [hji10] at H ⊢;exact H)
     (try rw [hji10] at A8)
     have hji10_:(IntKind.u64.wrap (1*2 ^ min a0_2.toNat 64))=ji10:=hji10
     have hji10z:a0_2≤64→(IntKind.u64.wrap (1*2 ^ a0_2.toNat))=ji10:=shl_small hji10
     have hji10u:(IntKind.u64.wrap (2 ^ min a0_2.toNat 64))=ji10:=by have h_:=hji10_;rw [Int.one_mul] at h_;exact h_
     have hji10v:a0_2≤64→(IntKind.u64.wrap (2 ^ a0_2.toNat))=ji10:=fun hle_=>by have h_:=hji10z hle_;rw [Int.one_mul] at h_;exact h_
     simp only [Option.some.injEq,Prod.mk.injEq] at H
     obtain ⟨rfl,rfl,rfl⟩:=H
     go_enter Tryz.func93,Tryz.ntmps93
     try go_wp2_with (first | ((with_reducible refine Qbb (N:=2) rfl ?_);refine Qa9 ?hg (N:=2) ?hd (cs:=#[.int .i64 a0_0,.int .i64 a0_1,.int .i64 a0_2]) (t:=168) ?hr ?_;(case hd=>rfl);(case hg=>rfl);(case hr=>first | (go_simp;done) | (go_simp;rfl));intro gb159 hg w11 hbox hb;have n0_:=Aside0.mk (Qav (by repeat (first | (with_reducible first | exact HB.out | apply Qae | apply Qab | apply Qad) | exact HB.out)) hb);have n1_:=Aside0.mk (hbox);have n2_:=Aside0.mk ((by rw [hg];exact (Qao (by repeat (first | (with_reducible first | exact HB.out | apply Qae | apply Qab | apply Qad) | exact HB.out))):w.heap.size≤gb159));have n3_:=Aside0.mk ((by rw [hg];exact (Qao (by repeat (first | (with_reducible first | exact HB.out | apply Qae | apply Qab | apply Qad) | exact HB.out))):w.heap.size≤gb159));clear HB;have HB:=n0_;have BK159:=n1_;have GW159:=n2_;have GE159:=n3_;clear n0_ n1_ n2_ n3_;clear hb hbox hg) | ((with_reducible refine Qbb (N:=4) rfl ?_);refine Qa9 ?hg (N:=4) ?hd (cs:=#[.bool false,.int .i64 0,.int .u64 0]) (t:=172) ?hr ?_;(case hd=>rfl);(case hg=>rfl);(case hr=>first | (go_simp;done) | (go_simp;rfl));intro gb160 hg w12 hbox hb;have n0_:=Aside0.mk (Qa3 (g:=gb159) (o:=.cells #[.int .i64 a0_0,.int .i64 a0_1,.int .i64 a0_2] 168 (0,0)) (by (with_reducible repeat (first | refine Qaj ?_ _ | refine Qai ?_ | refine Qak ?_ _));exact BK159.out) hb);have n1_:=Aside0.mk (Qav (by repeat (first | (with_reducible first | exact HB.out | apply Qae | apply Qab | apply Qad | refine Qaf ?_ GE159.out) | exact HB.out)) hb);have n2_:=Aside0.mk (hbox);have n3_:=Aside0.mk ((by rw [hg];exact (Qao (by repeat (first | (with_reducible first | exact HB.out | apply Qae | apply Qab | apply Qad | refine Qaf ?_ GE159.out) | exact HB.out))):w.heap.size≤gb160));have n4_:=Aside0.mk ((by rw [hg];exact (Qao (by repeat (first | (with_reducible first | exact HB.out | apply Qae | apply Qab | apply Qad | refine Qaf ?_ GE159.out) | exact HB.out))):w.heap.size≤gb160));have n5_:=Aside0.mk ((by rw [hg];exact Nat.ne_of_lt (blk_lt (g:=gb159) (o:=.cells #[.int .i64 a0_0,.int .i64 a0_1,.int .i64 a0_2] 168 (0,0)) (by (with_reducible repeat (first | refine Qaj ?_ _ | refine Qai ?_ | refine Qak ?_ _));exact BK159.out)):gb159 ≠ gb160));have n6_:=Aside0.mk ((by rw [hg];exact Nat.ne_of_gt (blk_lt (g:=gb159) (o:=.cells #[.int .i64 a0_0,.int .i64 a0_1,.int .i64 a0_2] 168 (0,0)) (by (with_reducible repeat (first | refine Qaj ?_ _ | refine Qai ?_ | refine Qak ?_ _));exact BK159.out)):gb160 ≠ gb159));clear BK159;clear HB;have BK159:=n0_;have HB:=n1_;have BK160:=n2_;have GW160:=n3_;have GE160:=n4_;have NB159_160:=n5_;have NB160_159:=n6_;clear n0_ n1_ n2_ n3_ n4_ n5_ n6_;clear hb hbox hg))
     have n0_:=Aside0.mk (Qai BK159.out)
     have n1_:=Aside0.mk (Qai BK160.out)
     have n2_:=Aside0.mk (Qad HB.out)
     clear BK159
     clear BK160
     clear HB
     have BK159:=n0_
     have BK160:=n1_
     have HB:=n2_
     clear n0_ n1_ n2_
     refine start_ (n:=22) (S:=fun w'=>w'.cell? ⟨gb159,0,none⟩=some (.int .i64 a0_0)∧w'.cell? ⟨gb159,1,none⟩=some (.int .i64 a0_1)∧w'.cell? ⟨gb159,2,none⟩=some (.int .i64 a0_2)) (ds:=[]) #[false,false,false,false,false,false,false,false,false,false,false,false,false,false,false,false,false,false,false,false,false,false] (by kernel_rfl) rfl rfl ⟨(Qaa BK159.out 0).trans rfl,(Qaa BK159.out 1).trans rfl,(Qaa BK159.out 2).trans rfl⟩ (fun hHeld=>?_);refine with_tabW Qau.tab1 Qau.bits1 (fun HT_ HW_=>?_)
     generalize w12.drew=w13 at BK159 BK160 HB hHeld ⊢
     refine pure_ (i:=0) (N:=some 5) (v:=?_) (a':=?_) #[true,false,false,false,false,false,false,false,false,false,false,false,false,false,false,false,false,false,false,false,false,false] rfl rfl (Qa5 HT_.out (by kernel_rfl)) (fun _ _ _ h=>h) (Or.inl ⟨by rfl,?_⟩) ?_ ?_
     rotate_left
     · intro w'
       go_simp
       with_reducible rfl
     rotate_left
     · simp only [Act.put,List.setIfInBounds_toArray,List.set_cons_zero,List.set_cons_succ,i64_w,i32_w]
       rfl
     refine pure_ (i:=1) (N:=some 6) (v:=?_) (a':=?_) #[true,true,false,false,false,false,false,false,false,false,false,false,false,false,false,false,false,false,false,false,false,false] rfl rfl (Qa5 HT_.out (by kernel_rfl)) (fun _ _ _ h=>h) (Or.inl ⟨by rfl,?_⟩) ?_ ?_
     rotate_left
     · intro w'
       go_simp
       with_reducible rfl
     rotate_left
     · simp only [Act.put,List.setIfInBounds_toArray,List.set_cons_zero,List.set_cons_succ,i64_w,i32_w]
       rfl
     refine pure_ (i:=6) (N:=some 11) (v:=?_) (a':=?_) #[true,true,false,false,false,false,true,false,false,false,false,false,false,false,false,false,false,false,false,false,false,false] rfl rfl (Qa5 HT_.out (by kernel_rfl)) (fun _ _ _ h=>h) (Or.inl ⟨by rfl,?_⟩) ?_ ?_
     rotate_left
     · intro w'
       go_simp
       with_reducible rfl
     rotate_left
     · simp only [Act.put,List.setIfInBounds_toArray,List.set_cons_zero,List.set_cons_succ,i64_w,i32_w]
       rfl
     refine pure_ (i:=7) (N:=some 12) (v:=?_) (a':=?_) #[true,true,false,false,false,false,true,true,false,false,false,false,false,false,false,false,false,false,false,false,false,false] rfl rfl (Qa5 HT_.out (by kernel_rfl)) (fun _ _ _ h=>h) (Or.inl ⟨by rfl,?_⟩) ?_ ?_
     rotate_left
     · intro w'
       go_simp
       with_reducible rfl
     rotate_left
     · simp only [Act.put,List.setIfInBounds_toArray,List.set_cons_zero,List.set_cons_succ,i64_w,i32_w]
       rfl
     refine pure_ (i:=14) (N:=some 19) (v:=?_) (a':=?_) #[true,true,false,false,false,false,true,true,false,false,false,false,false,false,true,false,false,false,false,false,false,false] rfl rfl (Qa5 HT_.out (by kernel_rfl)) (fun _ _ _ h=>h) (Or.inl ⟨by rfl,?_⟩) ?_ ?_
     rotate_left
     · intro w'
       go_simp
       with_reducible rfl
     rotate_left
     · simp only [Act.put,List.setIfInBounds_toArray,List.set_cons_zero,List.set_cons_succ,i64_w,i32_w]
       rfl
     refine pure_ (i:=15) (N:=some 20) (v:=?_) (a':=?_) #[true,true,false,false,false,false,true,true,false,false,false,false,false,false,true,true,false,false,false,false,false,false] rfl rfl (Qa5 HT_.out (by kernel_rfl)) (fun _ _ _ h=>h) (Or.inl ⟨by rfl,?_⟩) ?_ ?_
     rotate_left
     · intro w'
       go_simp
       with_reducible rfl
     rotate_left
     · simp only [Act.put,List.setIfInBounds_toArray,List.set_cons_zero,List.set_cons_succ,i64_w,i32_w]
       rfl
     refine take_ (i:=2) (N:=some 7) (v:=?_) (a':=?_) #[true,true,true,false,false,false,true,true,false,false,false,false,false,false,true,true,false,false,false,false,false,false] rfl rfl (take_ofW HT_.out HW_.out (by kernel_rfl)) (fun _ _ _ h=>h) (Or.inl ⟨by rfl,?_⟩) hHeld ?_ ?_
     rotate_left
     · rintro w' ⟨s0,s1,s2⟩
       go_simp
       with_reducible rfl
     rotate_left
     · simp only [Act.put,List.setIfInBounds_toArray,List.set_cons_zero,List.set_cons_succ,i64_w,i32_w]
       rfl
     refine pure_ (i:=3) (N:=some 8) (v:=?_) (a':=?_) #[true,true,true,true,false,false,true,true,false,false,false,false,false,false,true,true,false,false,false,false,false,false] rfl rfl (Qa5 HT_.out (by kernel_rfl)) (fun _ _ _ h=>h) (Or.inl ⟨by rfl,?_⟩) ?_ ?_
     rotate_left
     · intro w'
       go_simp
       with_reducible rfl
     rotate_left
     · simp only [Act.put,List.setIfInBounds_toArray,List.set_cons_zero,List.set_cons_succ,i64_w,i32_w]
       rfl
     refine pure_ (i:=4) (N:=some 9) (v:=?_) (a':=?_) #[true,true,true,true,true,false,true,true,false,false,false,false,false,false,true,true,false,false,false,false,false,false] rfl rfl (Qa5 HT_.out (by kernel_rfl)) (fun _ _ _ h=>h) (Or.inl ⟨by rfl,?_⟩) ?_ ?_
     rotate_left
     · intro w'
       go_simp
       with_reducible rfl
     rotate_left
     · simp only [Act.put,List.setIfInBounds_toArray,List.set_cons_zero,List.set_cons_succ,i64_w,i32_w]
       rfl
     refine pure_ (i:=5) (N:=some 10) (v:=?_) (a':=?_) #[true,true,true,true,true,true,true,true,false,false,false,false,false,false,true,true,false,false,false,false,false,false] rfl rfl (Qa5 HT_.out (by kernel_rfl)) (fun _ _ _ h=>h) (Or.inl ⟨by rfl,?_⟩) ?_ ?_
     rotate_left
     · intro w'
       go_simp
       with_reducible rfl
     rotate_left
     · simp only [Act.put,List.setIfInBounds_toArray,List.set_cons_zero,List.set_cons_succ,i64_w,i32_w]
       rfl
     refine take_ (i:=8) (N:=some 13) (v:=?_) (a':=?_) #[true,true,true,true,true,true,true,true,true,false,false,false,false,false,true,true,false,false,false,false,false,false] rfl rfl (take_ofW HT_.out HW_.out (by kernel_rfl)) (fun _ _ _ h=>h) (Or.inl ⟨by rfl,?_⟩) hHeld ?_ ?_
     rotate_left
     · rintro w' ⟨s0,s1,s2⟩
       go_simp
       with_reducible rfl
     rotate_left
     · simp only [Act.put,List.setIfInBounds_toArray,List.set_cons_zero,List.set_cons_succ,i64_w,i32_w]
       rfl
     refine pure_ (i:=9) (N:=some 14) (v:=?_) (a':=?_) #[true,true,true,true,true,true,true,true,true,true,false,false,false,false,true,true,false,false,false,false,false,false] rfl rfl (Qa5 HT_.out (by kernel_rfl)) (fun _ _ _ h=>h) (Or.inl ⟨by rfl,?_⟩) ?_ ?_
     rotate_left
     · intro w'
       go_simp
       with_reducible rfl
     rotate_left
     · simp only [Act.put,List.setIfInBounds_toArray,List.set_cons_zero,List.set_cons_succ,i64_w,i32_w]
       rfl
     refine pure_ (i:=10) (N:=some 15) (v:=?_) (a':=?_) #[true,true,true,true,true,true,true,true,true,true,true,false,false,false,true,true,false,false,false,false,false,false] rfl rfl (Qa5 HT_.out (by kernel_rfl)) (fun _ _ _ h=>h) (Or.inl ⟨by rfl,?_⟩) ?_ ?_
     rotate_left
     · intro w'
       go_simp
       with_reducible rfl
     rotate_left
     · simp only [Act.put,List.setIfInBounds_toArray,List.set_cons_zero,List.set_cons_succ,i64_w,i32_w]
       rfl
     refine take_ (i:=11) (N:=some 16) (v:=?_) (a':=?_) #[true,true,true,true,true,true,true,true,true,true,true,true,false,false,true,true,false,false,false,false,false,false] rfl rfl (take_ofW HT_.out HW_.out (by kernel_rfl)) (fun _ _ _ h=>h) (Or.inl ⟨by rfl,?_⟩) hHeld ?_ ?_
     rotate_left
     · rintro w' ⟨s0,s1,s2⟩
       go_simp
       with_reducible rfl
     rotate_left
     · simp only [Act.put,List.setIfInBounds_toArray,List.set_cons_zero,List.set_cons_succ,i64_w,i32_w]
       rfl
     refine take_ (i:=16) (N:=some 21) (v:=?_) (a':=?_) #[true,true,true,true,true,true,true,true,true,true,true,true,false,false,true,true,true,false,false,false,false,false] rfl rfl (take_ofW HT_.out HW_.out (by kernel_rfl)) (fun _ _ _ h=>h) (Or.inl ⟨by rfl,?_⟩) hHeld ?_ ?_
     rotate_left
     · rintro w' ⟨s0,s1,s2⟩
       go_simp
       with_reducible rfl
     rotate_left
     · simp only [Act.put,List.setIfInBounds_toArray,List.set_cons_zero,List.set_cons_succ,i64_w,i32_w]
       rfl
     refine pure_ (i:=17) (N:=some 22) (v:=?_) (a':=?_) #[true,true,true,true,true,true,true,true,true,true,true,true,false,false,true,true,true,true,false,false,false,false] rfl rfl (Qa5 HT_.out (by kernel_rfl)) (fun _ _ _ h=>h) (Or.inl ⟨by rfl,?_⟩) ?_ ?_
     rotate_left
     · intro w'
       go_simp
       with_reducible rfl
     rotate_left
     · simp only [Act.put,List.setIfInBounds_toArray,List.set_cons_zero,List.set_cons_succ,i64_w,i32_w]
       rfl
     refine pure_ (i:=18) (N:=some 23) (v:=?_) (a':=?_) #[true,true,true,true,true,true,true,true,true,true,true,true,false,false,true,true,true,true,true,false,false,false] rfl rfl (Qa5 HT_.out (by kernel_rfl)) (fun _ _ _ h=>h) (Or.inl ⟨by rfl,?_⟩) ?_ ?_
     rotate_left
     · intro w'
       go_simp
       with_reducible rfl
     rotate_left
     · simp only [Act.put,List.setIfInBounds_toArray,List.set_cons_zero,List.set_cons_succ,i64_w,i32_w]
       rfl
     refine pure_ (i:=19) (N:=some 24) (v:=?_) (a':=?_) #[true,true,true,true,true,true,true,true,true,true,true,true,false,false,true,true,true,true,true,true,false,false] rfl rfl (Qa5 HT_.out (by kernel_rfl)) (fun _ _ _ h=>h) (Or.inl ⟨by rfl,?_⟩) ?_ ?_
     rotate_left
     · intro w'
       go_simp
       with_reducible rfl
     rotate_left
     · simp only [Act.put,List.setIfInBounds_toArray,List.set_cons_zero,List.set_cons_succ,i64_w,i32_w]
       rfl
     refine one_ (i:=12) (N:=some 17) #[true,true,true,true,true,true,true,true,true,true,true,true,true,false,true,true,true,true,true,true,false,false] rfl rfl (one_of HT_.out (by kernel_rfl)) (by decide) (fun K hK=>?_)
     refine goes_ Tryz.func99 (by kernel_rfl) rfl #[.agg #[.int .i64 a0_0,.int .i64 a0_1,.int .i64 a0_2]] (by rfl) rfl rfl (by (try simp only [List.map_toArray,List.map_cons,List.map_nil]);first | done | rfl | (simp only [List.length_drop,List.length_take];rfl)) ?_
     with_reducible refine (Qas.calls a0_0 a0_1 a0_2 t161 _ A8.out).mono ?_
     rintro e w14 ⟨rfl,hb⟩
     refine ⟨_,rfl,?_⟩
     have n0_:=Aside0.mk (Qa3 (g:=gb159) (o:=.cells #[.int .i64 a0_0,.int .i64 a0_1,.int .i64 a0_2] 168 (0,0)) (by (with_reducible repeat (first | refine Qaj ?_ _ | refine Qai ?_ | refine Qak ?_ _));exact BK159.out) hb)
     have n1_:=Aside0.mk (Qa3 (g:=gb160) (o:=.cells #[.bool false,.int .i64 0,.int .u64 0] 172 (0,0)) (by (with_reducible repeat (first | refine Qaj ?_ _ | refine Qai ?_ | refine Qak ?_ _));exact BK160.out) hb)
     have n2_:=Aside0.mk (Qav (by repeat (first | (with_reducible first | exact HB.out | apply Qae | apply Qab | apply Qad | refine Qaf ?_ GE159.out | refine Qaf ?_ GE160.out) | exact HB.out)) hb)
     clear BK159
     clear BK160
     clear HB
     have BK159:=n0_
     have BK160:=n1_
     have HB:=n2_
     clear n0_ n1_ n2_
     (try clear hb)
     (try clear hb2)
     (try clear hk)
     (try clear hi)
     refine hK.out _ _ ⟨(Qaa BK159.out 0).trans rfl,(Qaa BK159.out 1).trans rfl,(Qaa BK159.out 2).trans rfl⟩ (fun hHeld=>?_)
     clear hK K
     refine norm_ (a':=?_) ?_ ?_
     rotate_left
     · show Act.put _ (some 17) _=_
       simp only [Act.put,List.setIfInBounds_toArray,List.set_cons_zero,List.set_cons_succ,i64_w,i32_w]
       rfl
     refine pure_ (i:=13) (N:=some 18) (v:=?_) (a':=?_) #[true,true,true,true,true,true,true,true,true,true,true,true,true,true,true,true,true,true,true,true,false,false] rfl rfl (Qa5 HT_.out (by kernel_rfl)) (fun _ _ _ h=>h) (Or.inl ⟨by rfl,?_⟩) ?_ ?_
     rotate_left
     · intro w'
       go_simp
       with_reducible rfl
     rotate_left
     · simp only [Act.put,List.setIfInBounds_toArray,List.set_cons_zero,List.set_cons_succ,i64_w,i32_w]
       rfl
     refine pure_ (i:=20) (N:=some 25) (v:=?_) (a':=?_) #[true,true,true,true,true,true,true,true,true,true,true,true,true,true,true,true,true,true,true,true,true,false] rfl rfl (Qa5 HT_.out (by kernel_rfl)) (fun _ _ _ h=>h) (Or.inl ⟨by rfl,?_⟩) ?_ ?_
     rotate_left
     · intro w'
       go_simp
       with_reducible rfl
     rotate_left
     · simp only [Act.put,List.setIfInBounds_toArray,List.set_cons_zero,List.set_cons_succ,i64_w,i32_w]
       rfl
     refine one_ (i:=21) (N:=none) #[true,true,true,true,true,true,true,true,true,true,true,true,true,true,true,true,true,true,true,true,true,true] rfl rfl (one_of HT_.out (by kernel_rfl)) (by decide) (fun K hK=>?_)
     have hs15:w14.cell? ⟨gb160,0,none⟩=some (.bool false):=(Qaa BK160.out 0).trans rfl
     have hfs15:=Qac BK160.out 0
     have hns15_0:=NB159_160.out
     have hms15_0:=NB160_159.out
     have hs16:w14.cell? ⟨gb160,1,none⟩=some (.int .i64 0):=(Qaa BK160.out 1).trans rfl
     have hfs16:=Qac BK160.out 1
     have hns16_0:=NB159_160.out
     have hms16_0:=NB160_159.out
     have hs17:w14.cell? ⟨gb160,2,none⟩=some (.int .u64 0):=(Qaa BK160.out 2).trans rfl
     have hfs17:=Qac BK160.out 2
     have hns17_0:=NB159_160.out
     have hms17_0:=NB160_159.out
     refine skip_ (w1:=?_) (by rfl) rfl ?_ ?_
     rotate_left
     · go_simp
       rfl
     refine hK.out _ _ ⟨((cell_far (p:=⟨gb160,_,none⟩) NB159_160.out _).trans (((cell_far (p:=⟨gb160,_,none⟩) NB159_160.out _).trans (((cell_far (p:=⟨gb160,_,none⟩) NB159_160.out _).trans (hHeld.1)))))),((cell_far (p:=⟨gb160,_,none⟩) NB159_160.out _).trans (((cell_far (p:=⟨gb160,_,none⟩) NB159_160.out _).trans (((cell_far (p:=⟨gb160,_,none⟩) NB159_160.out _).trans (hHeld.2.1)))))),((cell_far (p:=⟨gb160,_,none⟩) NB159_160.out _).trans (((cell_far (p:=⟨gb160,_,none⟩) NB159_160.out _).trans (((cell_far (p:=⟨gb160,_,none⟩) NB159_160.out _).trans (hHeld.2.2))))))⟩ (fun hHeld=>?_)
     clear hK K
     refine done_ (done_of HT_.out (by kernel_rfl)) ?_
     try go_wp2
     refine bodyPost_ret (results_cell_row rfl _ _ gb160 172 #[.bool ((ji5) == 1),.int .i64 (Go.bits .and .i64 (wrap64 (ji7)) t161),.int .u64 (Go.bits .and .u64 a1 (IntKind.u64.wrap ((ji10) - 1)))] (0,0) _ rfl (by (with_reducible repeat (first | refine Qaj ?_ _ | refine Qai ?_ | refine Qak ?_ _));refine blk_put (cs:=#[.bool ((ji5) == 1),.int .i64 (Go.bits .and .i64 (wrap64 (ji7)) t161),.int .u64 0]) ?_ 2 _ rfl;(with_reducible repeat (first | refine Qaj ?_ _ | refine Qai ?_ | refine Qak ?_ _));refine blk_put (cs:=#[.bool ((ji5) == 1),.int .i64 0,.int .u64 0]) ?_ 1 _ rfl;(with_reducible repeat (first | refine Qaj ?_ _ | refine Qai ?_ | refine Qak ?_ _));refine blk_put (cs:=#[.bool false,.int .i64 0,.int .u64 0]) ?_ 0 _ rfl;(with_reducible repeat (first | refine Qaj ?_ _ | refine Qai ?_ | refine Qak ?_ _));exact BK160.out) Tryz.underlying172 rfl (by kernel_rfl)) rfl ?_
     exact ⟨by first | rfl | (simp [errW_none,Qag] <;> rfl) | (simp only [← hji3,← hji5,← hji7,← hji10];first | rfl | (simp [errW_none,Qag] <;> rfl)) | (simp [*,errW_none,Qag] <;> rfl),by repeat (first | (with_reducible first | exact HB.out | apply Qae | apply Qab | apply Qad | refine Qaf ?_ GE159.out | refine Qaf ?_ GE160.out) | exact HB.out)⟩
   · rw [if_neg c6] at H
     exact absurd H (by simp)
 · rw [if_neg c4] at H
   exact absurd H (by simp)
end Go.Proofs.YtfmceonbejlhlaaGreatDoor.P
namespace Go.Proofs.YtfmceonbejlhlaaGreatDoor.P
open Go.RowKit Go.Proofs.YtfmceonbejlhlaaGreatDoorW.PrintWords Go.Proofs.YtfmceonbejlhlaaGreatDoorW.PrintLast Go.Proofs.YtfmceonbejlhlaaGreatDoorW.PrintMore
attribute [local go_sem] Qbx Qbw max_two min_two Qbr Qbs Qbv Qbt   -- for this text's walks alone
set_option linter.unusedVariables false
set_option linter.unusedSimpArgs false
def Qah.j0:Nat→Bool→Int→Int→Int→Bool→Int→Int→Option (Int)
 | 0,_,_,_,_,_,_,_=>none
 | k+1,x5,x163000,x163001,x163002,x164000,x164001,x164002=>if x5=true then (some 4) else ((Qas.f x163000 x163001 x163002).bind fun t165=>(if x164001=t165 then (some 3) else (if x164001=0 then (if x164002=0 then (some 0) else (some 1)) else (some 2))))
def Qah.f (k:Nat) (a0_0:Int) (a0_1:Int) (a0_2:Int) (a1_0:Bool) (a1_1:Int) (a1_2:Int):Option (Int):=(Qas.f a0_0 a0_1 a0_2).bind fun t164=>(if a1_1=t164 then (Qah.j0 k (a1_2 != 0) a0_0 a0_1 a0_2 a1_0 a1_1 a1_2) else (Qah.j0 k false a0_0 a0_1 a0_2 a1_0 a1_1 a1_2))
def Qah.T1:Bool × List (List Nat × List Nat):=(true,[([],[]),([0],[0]),([],[]),([2],[2]),([1,3],[1,3]),([4,3],[4]),([5],[5]),([6,5],[5,6]),([7,5],[5,7]),([5,8],[5,8]),([9,5],[9])])
def Qah.B1:List Nat:=[0,1,0,4,15,31,63,127,255,511,1023]
theorem Qah.tab1:rtab .any (opsOf Tryz.f94 1)=Qah.T1:=by kernel_rfl
theorem Qah.bits1:waitsOk Qah.T1.2 Qah.B1=true:=by kernel_rfl
set_option maxHeartbeats 8000000 in
set_option maxRecDepth 100000 in
theorem Qah.calls (k:Nat) (a0_0:Int) (a0_1:Int) (a0_2:Int) (a1_0:Bool) (a1_1:Int) (a1_2:Int) (r:Int) (w:World) (h:Qah.f k a0_0 a0_1 a0_2 a1_0 a1_1 a1_2=some r) :
 Calls Tryz.prog 94 #[.agg #[.int .i64 a0_0,.int .i64 a0_1,.int .i64 a0_2],.agg #[.bool a1_0,.int .i64 a1_1,.int .u64 a1_2]] w fun e w'=>e=.returned (.int .i64 r)∧Below w.heap.size w w':=by
 have hu168:=Tryz.underlying168
 have hu172:=Tryz.underlying172
 have HB:=Aside0.mk (Below.refl w.heap.size w)
 have H:((Qas.f a0_0 a0_1 a0_2).bind fun t164=>(if a1_1=t164 then (Qah.j0 k (a1_2 != 0) a0_0 a0_1 a0_2 a1_0 a1_1 a1_2) else (Qah.j0 k false a0_0 a0_1 a0_2 a1_0 a1_1 a1_2)))=some r:=h
 clear h
 have HC3:=Aside0.mk H
 clear H
 go_enter Tryz.func94,Tryz.ntmps94
 go_upto_region 1 with (first | ((with_reducible refine Qbb (N:=2) rfl ?_);refine Qa9 ?hg (N:=2) ?hd (cs:=#[.int .i64 a0_0,.int .i64 a0_1,.int .i64 a0_2]) (t:=168) ?hr ?_;(case hd=>rfl);(case hg=>rfl);(case hr=>first | (go_simp;done) | (go_simp;rfl));intro gb162 hg w4 hbox hb;have n0_:=Aside0.mk (Qav (by repeat (first | (with_reducible first | exact HB.out | apply Qae | apply Qab | apply Qad) | exact HB.out)) hb);have n1_:=Aside0.mk (hbox);have n2_:=Aside0.mk ((by rw [hg];exact (Qao (by repeat (first | (with_reducible first | exact HB.out | apply Qae | apply Qab | apply Qad) | exact HB.out))):w.heap.size≤gb162));have n3_:=Aside0.mk ((by rw [hg];exact (Qao (by repeat (first | (with_reducible first | exact HB.out | apply Qae | apply Qab | apply Qad) | exact HB.out))):w.heap.size≤gb162));clear HB;have HB:=n0_;have BK162:=n1_;have GW162:=n2_;have GE162:=n3_;clear n0_ n1_ n2_ n3_;clear hb hbox hg) | ((with_reducible refine Qbb (N:=3) rfl ?_);refine Qa9 ?hg (N:=3) ?hd (cs:=#[.bool a1_0,.int .i64 a1_1,.int .u64 a1_2]) (t:=172) ?hr ?_;(case hd=>rfl);(case hg=>rfl);(case hr=>first | (go_simp;done) | (go_simp;rfl));intro gb163 hg w5 hbox hb;have n0_:=Aside0.mk (Qa3 (g:=gb162) (o:=.cells #[.int .i64 a0_0,.int .i64 a0_1,.int .i64 a0_2] 168 (0,0)) (by (with_reducible repeat (first | refine Qaj ?_ _ | refine Qai ?_ | refine Qak ?_ _));exact BK162.out) hb);have n1_:=Aside0.mk (Qav (by repeat (first | (with_reducible first | exact HB.out | apply Qae | apply Qab | apply Qad | refine Qaf ?_ GE162.out) | exact HB.out)) hb);have n2_:=Aside0.mk (hbox);have n3_:=Aside0.mk ((by rw [hg];exact (Qao (by repeat (first | (with_reducible first | exact HB.out | apply Qae | apply Qab | apply Qad | refine Qaf ?_ GE162.out) | exact HB.out))):w.heap.size≤gb163));have n4_:=Aside0.mk ((by rw [hg];exact (Qao (by repeat (first | (with_reducible first | exact HB.out | apply Qae | apply Qab | apply Qad | refine Qaf ?_ GE162.out) | exact HB.out))):w.heap.size≤gb163));have n5_:=Aside0.mk ((by rw [hg];exact Nat.ne_of_lt (blk_lt (g:=gb162) (o:=.cells #[.int .i64 a0_0,.int .i64 a0_1,.int .i64 a0_2] 168 (0,0)) (by (with_reducible repeat (first | refine Qaj ?_ _ | refine Qai ?_ | refine Qak ?_ _));exact BK162.out)):gb162 ≠ gb163));have n6_:=Aside0.mk ((by rw [hg];exact Nat.ne_of_gt (blk_lt (g:=gb162) (o:=.cells #[.int .i64 a0_0,.int .i64 a0_1,.int .i64 a0_2] 168 (0,0)) (by (with_reducible repeat (first | refine Qaj ?_ _ | refine Qai ?_ | refine Qak ?_ _));exact BK162.out)):gb163 ≠ gb162));clear BK162;clear HB;have BK162:=n0_;have HB:=n1_;have BK163:=n2_;have GW163:=n3_;have GE163:=n4_;have NB162_163:=n5_;have NB163_162:=n6_;clear n0_ n1_ n2_ n3_ n4_ n5_ n6_;clear hb hbox hg))
 (try simp only [Act.put,List.setIfInBounds_toArray,List.set_cons_zero,List.set_cons_succ])
 go_cut [5] (fun v5 wc=>∃ (kq:Nat) (x5_2:Bool),v5=.bool x5_2∧Aside0 (Qah.j0 kq x5_2 a0_0 a0_1 a0_2 a1_0 a1_1 a1_2=some r)∧Aside0 (kq≤k)∧Aside0 (wc.heap[gb162]? = some (.cells #[.int .i64 a0_0,.int .i64 a0_1,.int .i64 a0_2] 168 (0,0)))∧Aside0 (wc.heap[gb163]? = some (.cells #[.bool a1_0,.int .i64 a1_1,.int .u64 a1_2] 172 (0,0)))∧Aside0 (Below w.heap.size w wc))
 case first =>
  have H:=HC3.out
  clear HC3
  replace H:=Option.bind_eq_some_iff.mp H
  obtain ⟨t164,A60,H⟩:=H
  replace H:(if a1_1=t164 then (Qah.j0 k (a1_2 != 0) a0_0 a0_1 a0_2 a1_0 a1_1 a1_2) else (Qah.j0 k false a0_0 a0_1 a0_2 a1_0 a1_1 a1_2))=some r:=H
  have A6:=Aside0.mk A60
  clear A60
  by_cases c7:a1_1=t164
  · rw [if_pos c7] at H
    have c7b0:(a1_1 == t164)=true:=beq_iff_eq.mpr c7
    have c7b1:(a1_1 != t164)=false:=bne_eq_false_iff_eq.mpr c7
    clear c7
    (first | rw [c7b0] | (simp only [i64_w,i32_w];rw [c7b0]) | skip)
    have H':=Aside0.mk H
    clear H
    try go_wp2
    have n0_:=Aside0.mk (Qai BK162.out)
    have n1_:=Aside0.mk (Qai BK163.out)
    have n2_:=Aside0.mk (Qad HB.out)
    clear BK162
    clear BK163
    clear HB
    have BK162:=n0_
    have BK163:=n1_
    have HB:=n2_
    clear n0_ n1_ n2_
    refine start_ (n:=11) (S:=fun w'=>w'.cell? ⟨gb163,0,none⟩=some (.bool a1_0)∧w'.cell? ⟨gb163,1,none⟩=some (.int .i64 a1_1)∧w'.cell? ⟨gb163,2,none⟩=some (.int .u64 a1_2)∧w'.cell? ⟨gb162,0,none⟩=some (.int .i64 a0_0)∧w'.cell? ⟨gb162,1,none⟩=some (.int .i64 a0_1)∧w'.cell? ⟨gb162,2,none⟩=some (.int .i64 a0_2)) (ds:=[]) #[false,false,false,false,false,false,false,false,false,false,false] (by kernel_rfl) rfl rfl ⟨(Qaa BK163.out 0).trans rfl,(Qaa BK163.out 1).trans rfl,(Qaa BK163.out 2).trans rfl,(Qaa BK162.out 0).trans rfl,(Qaa BK162.out 1).trans rfl,(Qaa BK162.out 2).trans rfl⟩ (fun hHeld=>?_);refine with_tabW Qah.tab1 Qah.bits1 (fun HT_ HW_=>?_)
    generalize w5.drew=w8 at BK162 BK163 HB hHeld ⊢
    refine pure_ (i:=0) (N:=some 6) (v:=?_) (a':=?_) #[true,false,false,false,false,false,false,false,false,false,false] rfl rfl (Qa5 HT_.out (by kernel_rfl)) (fun _ _ _ h=>h) (Or.inl ⟨by rfl,?_⟩) ?_ ?_
    rotate_left
    · intro w'
      go_simp
      with_reducible rfl
    rotate_left
    · simp only [Act.put,List.setIfInBounds_toArray,List.set_cons_zero,List.set_cons_succ,i64_w,i32_w]
      rfl
    refine take_ (i:=1) (N:=some 7) (v:=?_) (a':=?_) #[true,true,false,false,false,false,false,false,false,false,false] rfl rfl (take_ofW HT_.out HW_.out (by kernel_rfl)) (fun _ _ _ h=>h) (Or.inl ⟨by rfl,?_⟩) hHeld ?_ ?_
    rotate_left
    · rintro w' ⟨s0,s1,s2,s3,s4,s5⟩
      go_simp
      with_reducible rfl
    rotate_left
    · simp only [Act.put,List.setIfInBounds_toArray,List.set_cons_zero,List.set_cons_succ,i64_w,i32_w]
      rfl
    refine take_ (i:=2) (N:=some 8) (v:=?_) (a':=?_) #[true,true,true,false,false,false,false,false,false,false,false] rfl rfl (take_ofW HT_.out HW_.out (by kernel_rfl)) (fun _ _ _ h=>h) (Or.inl ⟨by rfl,?_⟩) hHeld ?_ ?_
    rotate_left
    · rintro w' ⟨s0,s1,s2,s3,s4,s5⟩
      go_simp
      with_reducible rfl
    rotate_left
    · simp only [Act.put,List.setIfInBounds_toArray,List.set_cons_zero,List.set_cons_succ,i64_w,i32_w]
      rfl
    refine one_ (i:=3) (N:=some 9) #[true,true,true,true,false,false,false,false,false,false,false] rfl rfl (one_of HT_.out (by kernel_rfl)) (by decide) (fun K hK=>?_)
    refine goes_ Tryz.func99 (by kernel_rfl) rfl #[.agg #[.int .i64 a0_0,.int .i64 a0_1,.int .i64 a0_2]] (by rfl) rfl rfl (by (try simp only [List.map_toArray,List.map_cons,List.map_nil]);first | done | rfl | (simp only [List.length_drop,List.length_take];rfl)) ?_
    with_reducible refine (Qas.calls a0_0 a0_1 a0_2 t164 _ A6.out).mono ?_
    rintro e w9 ⟨rfl,hb⟩
    refine ⟨_,rfl,?_⟩
    have n0_:=Aside0.mk (Qa3 (g:=gb162) (o:=.cells #[.int .i64 a0_0,.int .i64 a0_1,.int .i64 a0_2] 168 (0,0)) (by (with_reducible repeat (first | refine Qaj ?_ _ | refine Qai ?_ | refine Qak ?_ _));exact BK162.out) hb)
    have n1_:=Aside0.mk (Qa3 (g:=gb163) (o:=.cells #[.bool a1_0,.int .i64 a1_1,.int .u64 a1_2] 172 (0,0)) (by (with_reducible repeat (first | refine Qaj ?_ _ | refine Qai ?_ | refine Qak ?_ _));exact BK163.out) hb)
    have n2_:=Aside0.mk (Qav (by repeat (first | (with_reducible first | exact HB.out | apply Qae | apply Qab | apply Qad | refine Qaf ?_ GE162.out | refine Qaf ?_ GE163.out) | exact HB.out)) hb)
    clear BK162
    clear BK163
    clear HB
    have BK162:=n0_
    have BK163:=n1_
    have HB:=n2_
    clear n0_ n1_ n2_
    (try clear hb)
    (try clear hb2)
    (try clear hk)
    (try clear hi)
    refine hK.out _ _ ⟨(Qaa BK163.out 0).trans rfl,(Qaa BK163.out 1).trans rfl,(Qaa BK163.out 2).trans rfl,(Qaa BK162.out 0).trans rfl,(Qaa BK162.out 1).trans rfl,(Qaa BK162.out 2).trans rfl⟩ (fun hHeld=>?_)
    clear hK K
    refine norm_ (a':=?_) ?_ ?_
    rotate_left
    · show Act.put _ (some 9) _=_
      simp only [Act.put,List.setIfInBounds_toArray,List.set_cons_zero,List.set_cons_succ,i64_w,i32_w]
      rfl
    refine pure_ (i:=4) (N:=some 10) (v:=?_) (a':=?_) #[true,true,true,true,true,false,false,false,false,false,false] rfl rfl (Qa5 HT_.out (by kernel_rfl)) (fun _ _ _ h=>h) (Or.inl ⟨by rfl,?_⟩) ?_ ?_
    rotate_left
    · intro w'
      go_simp
      with_reducible rfl
    rotate_left
    · simp only [Act.put,List.setIfInBounds_toArray,List.set_cons_zero,List.set_cons_succ,i64_w,i32_w]
      rfl
    refine pure_ (i:=5) (N:=some 11) (v:=?_) (a':=?_) #[true,true,true,true,true,true,false,false,false,false,false] rfl rfl (Qa5 HT_.out (by kernel_rfl)) (fun _ _ _ h=>h) (Or.inl ⟨by rfl,?_⟩) ?_ ?_
    rotate_left
    · intro w'
      go_simp
      with_reducible rfl
    rotate_left
    · simp only [Act.put,List.setIfInBounds_toArray,List.set_cons_zero,List.set_cons_succ,i64_w,i32_w]
      rfl
    refine pure_ (i:=6) (N:=some 12) (v:=?_) (a':=?_) #[true,true,true,true,true,true,true,false,false,false,false] rfl rfl (Qa5 HT_.out (by kernel_rfl)) (fun _ _ _ h=>h) (Or.inl ⟨by rfl,?_⟩) ?_ ?_
    rotate_left
    · intro w'
      go_simp
      with_reducible rfl
    rotate_left
    · simp only [Act.put,List.setIfInBounds_toArray,List.set_cons_zero,List.set_cons_succ,i64_w,i32_w]
      rfl
    refine take_ (i:=7) (N:=some 13) (v:=?_) (a':=?_) #[true,true,true,true,true,true,true,true,false,false,false] rfl rfl (take_ofW HT_.out HW_.out (by kernel_rfl)) (fun _ _ _ h=>h) (Or.inl ⟨by rfl,?_⟩) hHeld ?_ ?_
    rotate_left
    · rintro w' ⟨s0,s1,s2,s3,s4,s5⟩
      go_simp
      with_reducible rfl
    rotate_left
    · simp only [Act.put,List.setIfInBounds_toArray,List.set_cons_zero,List.set_cons_succ,i64_w,i32_w]
      rfl
    refine pure_ (i:=8) (N:=some 14) (v:=?_) (a':=?_) #[true,true,true,true,true,true,true,true,true,false,false] rfl rfl (Qa5 HT_.out (by kernel_rfl)) (fun _ _ _ h=>h) (Or.inl ⟨by rfl,?_⟩) ?_ ?_
    rotate_left
    · intro w'
      go_simp
      with_reducible rfl
    rotate_left
    · simp only [Act.put,List.setIfInBounds_toArray,List.set_cons_zero,List.set_cons_succ,i64_w,i32_w]
      rfl
    refine pure_ (i:=9) (N:=some 15) (v:=?_) (a':=?_) #[true,true,true,true,true,true,true,true,true,true,false] rfl rfl (Qa5 HT_.out (by kernel_rfl)) (fun _ _ _ h=>h) (Or.inl ⟨by rfl,?_⟩) ?_ ?_
    rotate_left
    · intro w'
      go_simp
      with_reducible rfl
    rotate_left
    · simp only [Act.put,List.setIfInBounds_toArray,List.set_cons_zero,List.set_cons_succ,i64_w,i32_w]
      rfl
    refine pure_ (i:=10) (N:=some 5) (v:=?_) (a':=?_) #[true,true,true,true,true,true,true,true,true,true,true] rfl rfl (Qa5 HT_.out (by kernel_rfl)) (fun _ _ _ h=>h) (Or.inl ⟨by rfl,?_⟩) ?_ ?_
    rotate_left
    · intro w'
      go_simp
      with_reducible rfl
    rotate_left
    · simp only [Act.put,List.setIfInBounds_toArray,List.set_cons_zero,List.set_cons_succ,i64_w,i32_w]
      rfl
    refine done_ (done_of HT_.out (by kernel_rfl)) ?_
    try go_wp2
    go_meet
    case rel => exact ⟨_, ((a1_2 != 0)), (by first | rfl | (simp; done) | (simp [*]; done)), H', ⟨by first | omega | exact Nat.le_refl _⟩, ⟨by (with_reducible repeat (first | refine Qaj ?_ _ | refine Qai ?_ | refine Qak ?_ _)); exact BK162.out⟩, ⟨by (with_reducible repeat (first | refine Qaj ?_ _ | refine Qai ?_ | refine Qak ?_ _)); exact BK163.out⟩, ⟨by repeat (first | (with_reducible first | exact HB.out | apply Qae | apply Qab | apply Qad | refine Qaf ?_ GE162.out | refine Qaf ?_ GE163.out) | exact HB.out)⟩⟩
  · rw [if_neg c7] at H
    have c7b0:(a1_1 == t164)=false:=beq_eq_false_iff_ne.mpr c7
    have c7b1:(a1_1 != t164)=true:=bne_iff_ne.mpr c7
    (first | rw [c7b0] | (simp only [i64_w,i32_w];rw [c7b0]) | skip)
    have H':=Aside0.mk H
    clear H
    try go_wp2
    have n0_:=Aside0.mk (Qai BK162.out)
    have n1_:=Aside0.mk (Qai BK163.out)
    have n2_:=Aside0.mk (Qad HB.out)
    clear BK162
    clear BK163
    clear HB
    have BK162:=n0_
    have BK163:=n1_
    have HB:=n2_
    clear n0_ n1_ n2_
    refine start_ (n:=11) (S:=fun w'=>w'.cell? ⟨gb163,0,none⟩=some (.bool a1_0)∧w'.cell? ⟨gb163,1,none⟩=some (.int .i64 a1_1)∧w'.cell? ⟨gb163,2,none⟩=some (.int .u64 a1_2)∧w'.cell? ⟨gb162,0,none⟩=some (.int .i64 a0_0)∧w'.cell? ⟨gb162,1,none⟩=some (.int .i64 a0_1)∧w'.cell? ⟨gb162,2,none⟩=some (.int .i64 a0_2)) (ds:=[]) #[false,false,false,false,false,false,false,false,false,false,false] (by kernel_rfl) rfl rfl ⟨(Qaa BK163.out 0).trans rfl,(Qaa BK163.out 1).trans rfl,(Qaa BK163.out 2).trans rfl,(Qaa BK162.out 0).trans rfl,(Qaa BK162.out 1).trans rfl,(Qaa BK162.out 2).trans rfl⟩ (fun hHeld=>?_);refine with_tabW Qah.tab1 Qah.bits1 (fun HT_ HW_=>?_)
    generalize w5.drew=w10 at BK162 BK163 HB hHeld ⊢
    refine pure_ (i:=0) (N:=some 6) (v:=?_) (a':=?_) #[true,false,false,false,false,false,false,false,false,false,false] rfl rfl (Qa5 HT_.out (by kernel_rfl)) (fun _ _ _ h=>h) (Or.inl ⟨by rfl,?_⟩) ?_ ?_
    rotate_left
    · intro w'
      go_simp
      with_reducible rfl
    rotate_left
    · simp only [Act.put,List.setIfInBounds_toArray,List.set_cons_zero,List.set_cons_succ,i64_w,i32_w]
      rfl
    refine take_ (i:=1) (N:=some 7) (v:=?_) (a':=?_) #[true,true,false,false,false,false,false,false,false,false,false] rfl rfl (take_ofW HT_.out HW_.out (by kernel_rfl)) (fun _ _ _ h=>h) (Or.inl ⟨by rfl,?_⟩) hHeld ?_ ?_
    rotate_left
    · rintro w' ⟨s0,s1,s2,s3,s4,s5⟩
      go_simp
      with_reducible rfl
    rotate_left
    · simp only [Act.put,List.setIfInBounds_toArray,List.set_cons_zero,List.set_cons_succ,i64_w,i32_w]
      rfl
    refine take_ (i:=2) (N:=some 8) (v:=?_) (a':=?_) #[true,true,true,false,false,false,false,false,false,false,false] rfl rfl (take_ofW HT_.out HW_.out (by kernel_rfl)) (fun _ _ _ h=>h) (Or.inl ⟨by rfl,?_⟩) hHeld ?_ ?_
    rotate_left
    · rintro w' ⟨s0,s1,s2,s3,s4,s5⟩
      go_simp
      with_reducible rfl
    rotate_left
    · simp only [Act.put,List.setIfInBounds_toArray,List.set_cons_zero,List.set_cons_succ,i64_w,i32_w]
      rfl
    refine one_ (i:=3) (N:=some 9) #[true,true,true,true,false,false,false,false,false,false,false] rfl rfl (one_of HT_.out (by kernel_rfl)) (by decide) (fun K hK=>?_)
    refine goes_ Tryz.func99 (by kernel_rfl) rfl #[.agg #[.int .i64 a0_0,.int .i64 a0_1,.int .i64 a0_2]] (by rfl) rfl rfl (by (try simp only [List.map_toArray,List.map_cons,List.map_nil]);first | done | rfl | (simp only [List.length_drop,List.length_take];rfl)) ?_
    with_reducible refine (Qas.calls a0_0 a0_1 a0_2 t164 _ A6.out).mono ?_
    rintro e w11 ⟨rfl,hb⟩
    refine ⟨_,rfl,?_⟩
    have n0_:=Aside0.mk (Qa3 (g:=gb162) (o:=.cells #[.int .i64 a0_0,.int .i64 a0_1,.int .i64 a0_2] 168 (0,0)) (by (with_reducible repeat (first | refine Qaj ?_ _ | refine Qai ?_ | refine Qak ?_ _));exact BK162.out) hb)
    have n1_:=Aside0.mk (Qa3 (g:=gb163) (o:=.cells #[.bool a1_0,.int .i64 a1_1,.int .u64 a1_2] 172 (0,0)) (by (with_reducible repeat (first | refine Qaj ?_ _ | refine Qai ?_ | refine Qak ?_ _));exact BK163.out) hb)
    have n2_:=Aside0.mk (Qav (by repeat (first | (with_reducible first | exact HB.out | apply Qae | apply Qab | apply Qad | refine Qaf ?_ GE162.out | refine Qaf ?_ GE163.out) | exact HB.out)) hb)
    clear BK162
    clear BK163
    clear HB
    have BK162:=n0_
    have BK163:=n1_
    have HB:=n2_
    clear n0_ n1_ n2_
    (try clear hb)
    (try clear hb2)
    (try clear hk)
    (try clear hi)
    refine hK.out _ _ ⟨(Qaa BK163.out 0).trans rfl,(Qaa BK163.out 1).trans rfl,(Qaa BK163.out 2).trans rfl,(Qaa BK162.out 0).trans rfl,(Qaa BK162.out 1).trans rfl,(Qaa BK162.out 2).trans rfl⟩ (fun hHeld=>?_)
    clear hK K
    refine norm_ (a':=?_) ?_ ?_
    rotate_left
    · show Act.put _ (some 9) _=_
      simp only [Act.put,List.setIfInBounds_toArray,List.set_cons_zero,List.set_cons_succ,i64_w,i32_w]
      rfl
    refine pure_ (i:=4) (N:=some 10) (v:=?_) (a':=?_) #[true,true,true,true,true,false,false,false,false,false,false] rfl rfl (Qa5 HT_.out (by kernel_rfl)) (fun _ _ _ h=>h) (Or.inl ⟨by rfl,?_⟩) ?_ ?_
    rotate_left
    · intro w'
      go_simp
      with_reducible rfl
    rotate_left
    · simp only [Act.put,List.setIfInBounds_toArray,List.set_cons_zero,List.set_cons_succ,i64_w,i32_w]
      rfl
    refine pure_ (i:=5) (N:=some 11) (v:=?_) (a':=?_) #[true,true,true,true,true,true,false,false,false,false,false] rfl rfl (Qa5 HT_.out (by kernel_rfl)) (fun _ _ _ h=>h) (Or.inl ⟨by rfl,?_⟩) ?_ ?_
    rotate_left
    · intro w'
      go_simp
      with_reducible rfl
    rotate_left
    · simp only [Act.put,List.setIfInBounds_toArray,List.set_cons_zero,List.set_cons_succ,i64_w,i32_w]
      rfl
    refine pure_ (i:=6) (N:=some 12) (v:=undef) (a':=?_) #[true,true,true,true,true,true,true,false,false,false,false] rfl rfl (Qa5 HT_.out (by kernel_rfl)) (fun _ _ _ h=>h) (Or.inr ⟨by rfl,rfl⟩) ?_ ?_
    rotate_left
    · simp only [Act.put,List.setIfInBounds_toArray,List.set_cons_zero,List.set_cons_succ,i64_w,i32_w]
      rfl
    refine pure_ (i:=7) (N:=some 13) (v:=undef) (a':=?_) #[true,true,true,true,true,true,true,true,false,false,false] rfl rfl (Qa5 HT_.out (by kernel_rfl)) (fun _ _ _ h=>h) (Or.inr ⟨by rfl,rfl⟩) ?_ ?_
    rotate_left
    · simp only [Act.put,List.setIfInBounds_toArray,List.set_cons_zero,List.set_cons_succ,i64_w,i32_w]
      rfl
    refine pure_ (i:=8) (N:=some 14) (v:=undef) (a':=?_) #[true,true,true,true,true,true,true,true,true,false,false] rfl rfl (Qa5 HT_.out (by kernel_rfl)) (fun _ _ _ h=>h) (Or.inr ⟨by rfl,rfl⟩) ?_ ?_
    rotate_left
    · simp only [Act.put,List.setIfInBounds_toArray,List.set_cons_zero,List.set_cons_succ,i64_w,i32_w]
      rfl
    refine pure_ (i:=9) (N:=some 15) (v:=?_) (a':=?_) #[true,true,true,true,true,true,true,true,true,true,false] rfl rfl (Qa5 HT_.out (by kernel_rfl)) (fun _ _ _ h=>h) (Or.inl ⟨by rfl,?_⟩) ?_ ?_
    rotate_left
    · intro w'
      go_simp
      with_reducible rfl
    rotate_left
    · simp only [Act.put,List.setIfInBounds_toArray,List.set_cons_zero,List.set_cons_succ,i64_w,i32_w]
      rfl
    refine pure_ (i:=10) (N:=some 5) (v:=?_) (a':=?_) #[true,true,true,true,true,true,true,true,true,true,true] rfl rfl (Qa5 HT_.out (by kernel_rfl)) (fun _ _ _ h=>h) (Or.inl ⟨by rfl,?_⟩) ?_ ?_
    rotate_left
    · intro w'
      go_simp
      with_reducible rfl
    rotate_left
    · simp only [Act.put,List.setIfInBounds_toArray,List.set_cons_zero,List.set_cons_succ,i64_w,i32_w]
      rfl
    refine done_ (done_of HT_.out (by kernel_rfl)) ?_
    try go_wp2
    go_meet
    case rel => exact ⟨_, (false), (by first | rfl | (simp; done) | (simp [*]; done)), H', ⟨by first | omega | exact Nat.le_refl _⟩, ⟨by (with_reducible repeat (first | refine Qaj ?_ _ | refine Qai ?_ | refine Qak ?_ _)); exact BK162.out⟩, ⟨by (with_reducible repeat (first | refine Qaj ?_ _ | refine Qai ?_ | refine Qak ?_ _)); exact BK163.out⟩, ⟨by repeat (first | (with_reducible first | exact HB.out | apply Qae | apply Qab | apply Qad | refine Qaf ?_ GE162.out | refine Qaf ?_ GE163.out) | exact HB.out)⟩⟩
 case rest =>
  clear HC3
  try clear p2
  try clear c7
  try clear c7b0
  try clear c7b1
  try clear c9
  obtain ⟨kq,x5_2,rfl,HA,HJ2,BK162,BK163,HB⟩:=hcut
  cases kq with
  | zero=>exact absurd HA.out (by simp [Qah.j0])
  | succ kj2 =>
    have H:=HA.out
    clear HA
    simp only [Qah.j0] at H
    by_cases c12:x5_2=true
    · subst c12
      have H1:(some 4)=some r:=by rw [if_pos rfl] at H;exact H
      clear H
      have H:=H1
      clear H1
      obtain rfl:=Option.some.inj H
      go_wp2
      go_ret
      exact ⟨by first | rfl | (simp [errW_none,Qag] <;> rfl) | (simp [*,errW_none,Qag] <;> rfl),by repeat (first | (with_reducible first | exact HB.out | apply Qae | apply Qab | apply Qad | refine Qaf ?_ GE162.out | refine Qaf ?_ GE163.out) | exact HB.out)⟩
    · replace c12:=Bool.eq_false_iff.mpr c12
      subst c12
      have H1:((Qas.f a0_0 a0_1 a0_2).bind fun t165=>(if a1_1=t165 then (some 3) else (if a1_1=0 then (if a1_2=0 then (some 0) else (some 1)) else (some 2))))=some r:=by rw [if_neg (show ¬ (false=true) by decide)] at H;exact H
      clear H
      have H:=H1
      clear H1
      replace H:=Option.bind_eq_some_iff.mp H
      obtain ⟨t165,A130,H⟩:=H
      replace H:(if a1_1=t165 then (some 3) else (if a1_1=0 then (if a1_2=0 then (some 0) else (some 1)) else (some 2)))=some r:=H
      have A13:=Aside0.mk A130
      clear A130
      by_cases c14:a1_1=t165
      · rw [if_pos c14] at H
        have c14b0:(a1_1 == t165)=true:=beq_iff_eq.mpr c14
        have c14b1:(a1_1 != t165)=false:=bne_eq_false_iff_eq.mpr c14
        clear c14
        obtain rfl:=Option.some.inj H
        try go_wp2
        have n0_:=Aside0.mk (Qai BK162.out)
        have n1_:=Aside0.mk (Qai BK163.out)
        have n2_:=Aside0.mk (Qad HB.out)
        clear BK162
        clear BK163
        clear HB
        have BK162:=n0_
        have BK163:=n1_
        have HB:=n2_
        clear n0_ n1_ n2_
        refine start_ (n:=6) (S:=fun w'=>w'.cell? ⟨gb163,0,none⟩=some (.bool a1_0)∧w'.cell? ⟨gb163,1,none⟩=some (.int .i64 a1_1)∧w'.cell? ⟨gb163,2,none⟩=some (.int .u64 a1_2)∧w'.cell? ⟨gb162,0,none⟩=some (.int .i64 a0_0)∧w'.cell? ⟨gb162,1,none⟩=some (.int .i64 a0_1)∧w'.cell? ⟨gb162,2,none⟩=some (.int .i64 a0_2)) (ds:=[]) #[false,false,false,false,false,false] (by kernel_rfl) rfl rfl ⟨(Qaa BK163.out 0).trans rfl,(Qaa BK163.out 1).trans rfl,(Qaa BK163.out 2).trans rfl,(Qaa BK162.out 0).trans rfl,(Qaa BK162.out 1).trans rfl,(Qaa BK162.out 2).trans rfl⟩ (fun hHeld=>?_)
        generalize wc.drew=w15 at BK162 BK163 HB hHeld ⊢
        refine pure_ (i:=0) (N:=some 17) (v:=?_) (a':=?_) #[true,false,false,false,false,false] rfl rfl (by kernel_rfl) (fun _ _ _ h=>h) (Or.inl ⟨by rfl,?_⟩) ?_ ?_
        rotate_left
        · intro w'
          go_simp
          with_reducible rfl
        rotate_left
        · simp only [Act.put,List.setIfInBounds_toArray,List.set_cons_zero,List.set_cons_succ,i64_w,i32_w]
          rfl
        refine take_ (i:=1) (N:=some 18) (v:=?_) (a':=?_) #[true,true,false,false,false,false] rfl rfl (by kernel_rfl) (fun _ _ _ h=>h) (Or.inl ⟨by rfl,?_⟩) hHeld ?_ ?_
        rotate_left
        · rintro w' ⟨s0,s1,s2,s3,s4,s5⟩
          go_simp
          with_reducible rfl
        rotate_left
        · simp only [Act.put,List.setIfInBounds_toArray,List.set_cons_zero,List.set_cons_succ,i64_w,i32_w]
          rfl
        refine take_ (i:=2) (N:=some 19) (v:=?_) (a':=?_) #[true,true,true,false,false,false] rfl rfl (by kernel_rfl) (fun _ _ _ h=>h) (Or.inl ⟨by rfl,?_⟩) hHeld ?_ ?_
        rotate_left
        · rintro w' ⟨s0,s1,s2,s3,s4,s5⟩
          go_simp
          with_reducible rfl
        rotate_left
        · simp only [Act.put,List.setIfInBounds_toArray,List.set_cons_zero,List.set_cons_succ,i64_w,i32_w]
          rfl
        refine one_ (i:=3) (N:=some 20) #[true,true,true,true,false,false] rfl rfl (by kernel_rfl) (by decide) (fun K hK=>?_)
        refine goes_ Tryz.func99 (by kernel_rfl) rfl #[.agg #[.int .i64 a0_0,.int .i64 a0_1,.int .i64 a0_2]] (by rfl) rfl rfl (by (try simp only [List.map_toArray,List.map_cons,List.map_nil]);first | done | rfl | (simp only [List.length_drop,List.length_take];rfl)) ?_
        with_reducible refine (Qas.calls a0_0 a0_1 a0_2 t165 _ A13.out).mono ?_
        rintro e w16 ⟨rfl,hb⟩
        refine ⟨_,rfl,?_⟩
        have n0_:=Aside0.mk (Qa3 (g:=gb162) (o:=.cells #[.int .i64 a0_0,.int .i64 a0_1,.int .i64 a0_2] 168 (0,0)) (by (with_reducible repeat (first | refine Qaj ?_ _ | refine Qai ?_ | refine Qak ?_ _));exact BK162.out) hb)
        have n1_:=Aside0.mk (Qa3 (g:=gb163) (o:=.cells #[.bool a1_0,.int .i64 a1_1,.int .u64 a1_2] 172 (0,0)) (by (with_reducible repeat (first | refine Qaj ?_ _ | refine Qai ?_ | refine Qak ?_ _));exact BK163.out) hb)
        have n2_:=Aside0.mk (Qav (by repeat (first | (with_reducible first | exact HB.out | apply Qae | apply Qab | apply Qad | refine Qaf ?_ GE162.out | refine Qaf ?_ GE163.out) | exact HB.out)) hb)
        clear BK162
        clear BK163
        clear HB
        have BK162:=n0_
        have BK163:=n1_
        have HB:=n2_
        clear n0_ n1_ n2_
        (try clear hb)
        (try clear hb2)
        (try clear hk)
        (try clear hi)
        refine hK.out _ _ ⟨(Qaa BK163.out 0).trans rfl,(Qaa BK163.out 1).trans rfl,(Qaa BK163.out 2).trans rfl,(Qaa BK162.out 0).trans rfl,(Qaa BK162.out 1).trans rfl,(Qaa BK162.out 2).trans rfl⟩ (fun hHeld=>?_)
        clear hK K
        refine norm_ (a':=?_) ?_ ?_
        rotate_left
        · show Act.put _ (some 20) _=_
          simp only [Act.put,List.setIfInBounds_toArray,List.set_cons_zero,List.set_cons_succ,i64_w,i32_w]
          rfl
        refine pure_ (i:=4) (N:=some 21) (v:=?_) (a':=?_) #[true,true,true,true,true,false] rfl rfl (by kernel_rfl) (fun _ _ _ h=>h) (Or.inl ⟨by rfl,?_⟩) ?_ ?_
        rotate_left
        · intro w'
          go_simp
          with_reducible rfl
        rotate_left
        · simp only [Act.put,List.setIfInBounds_toArray,List.set_cons_zero,List.set_cons_succ,i64_w,i32_w]
          rfl
        refine pure_ (i:=5) (N:=some 16) (v:=?_) (a':=?_) #[true,true,true,true,true,true] rfl rfl (by kernel_rfl) (fun _ _ _ h=>h) (Or.inl ⟨by rfl,?_⟩) ?_ ?_
        rotate_left
        · intro w'
          go_simp
          with_reducible rfl
        rotate_left
        · simp only [Act.put,List.setIfInBounds_toArray,List.set_cons_zero,List.set_cons_succ,i64_w,i32_w]
          rfl
        refine done_ (by kernel_rfl) ?_
        try go_wp2
        go_ret
        exact ⟨by first | rfl | (simp [errW_none,Qag] <;> rfl) | (simp [*,errW_none,Qag] <;> rfl),by repeat (first | (with_reducible first | exact HB.out | apply Qae | apply Qab | apply Qad | refine Qaf ?_ GE162.out | refine Qaf ?_ GE163.out) | exact HB.out)⟩
      · rw [if_neg c14] at H
        have c14b0:(a1_1 == t165)=false:=beq_eq_false_iff_ne.mpr c14
        have c14b1:(a1_1 != t165)=true:=bne_iff_ne.mpr c14
        by_cases c17:a1_1=0
        · rw [if_pos c17] at H
          have c17b0:(a1_1 == 0)=true:=beq_iff_eq.mpr c17
          have c17b1:(a1_1 != 0)=false:=bne_eq_false_iff_eq.mpr c17
          clear c17
          by_cases c18:a1_2=0
          · rw [if_pos c18] at H
            have c18b0:(a1_2 == 0)=true:=beq_iff_eq.mpr c18
            have c18b1:(a1_2 != 0)=false:=bne_eq_false_iff_eq.mpr c18
            clear c18
            obtain rfl:=Option.some.inj H
            try go_wp2
            have n0_:=Aside0.mk (Qai BK162.out)
            have n1_:=Aside0.mk (Qai BK163.out)
            have n2_:=Aside0.mk (Qad HB.out)
            clear BK162
            clear BK163
            clear HB
            have BK162:=n0_
            have BK163:=n1_
            have HB:=n2_
            clear n0_ n1_ n2_
            refine start_ (n:=6) (S:=fun w'=>w'.cell? ⟨gb163,0,none⟩=some (.bool a1_0)∧w'.cell? ⟨gb163,1,none⟩=some (.int .i64 a1_1)∧w'.cell? ⟨gb163,2,none⟩=some (.int .u64 a1_2)∧w'.cell? ⟨gb162,0,none⟩=some (.int .i64 a0_0)∧w'.cell? ⟨gb162,1,none⟩=some (.int .i64 a0_1)∧w'.cell? ⟨gb162,2,none⟩=some (.int .i64 a0_2)) (ds:=[]) #[false,false,false,false,false,false] (by kernel_rfl) rfl rfl ⟨(Qaa BK163.out 0).trans rfl,(Qaa BK163.out 1).trans rfl,(Qaa BK163.out 2).trans rfl,(Qaa BK162.out 0).trans rfl,(Qaa BK162.out 1).trans rfl,(Qaa BK162.out 2).trans rfl⟩ (fun hHeld=>?_)
            generalize wc.drew=w19 at BK162 BK163 HB hHeld ⊢
            refine pure_ (i:=0) (N:=some 17) (v:=?_) (a':=?_) #[true,false,false,false,false,false] rfl rfl (by kernel_rfl) (fun _ _ _ h=>h) (Or.inl ⟨by rfl,?_⟩) ?_ ?_
            rotate_left
            · intro w'
              go_simp
              with_reducible rfl
            rotate_left
            · simp only [Act.put,List.setIfInBounds_toArray,List.set_cons_zero,List.set_cons_succ,i64_w,i32_w]
              rfl
            refine take_ (i:=1) (N:=some 18) (v:=?_) (a':=?_) #[true,true,false,false,false,false] rfl rfl (by kernel_rfl) (fun _ _ _ h=>h) (Or.inl ⟨by rfl,?_⟩) hHeld ?_ ?_
            rotate_left
            · rintro w' ⟨s0,s1,s2,s3,s4,s5⟩
              go_simp
              with_reducible rfl
            rotate_left
            · simp only [Act.put,List.setIfInBounds_toArray,List.set_cons_zero,List.set_cons_succ,i64_w,i32_w]
              rfl
            refine take_ (i:=2) (N:=some 19) (v:=?_) (a':=?_) #[true,true,true,false,false,false] rfl rfl (by kernel_rfl) (fun _ _ _ h=>h) (Or.inl ⟨by rfl,?_⟩) hHeld ?_ ?_
            rotate_left
            · rintro w' ⟨s0,s1,s2,s3,s4,s5⟩
              go_simp
              with_reducible rfl
            rotate_left
            · simp only [Act.put,List.setIfInBounds_toArray,List.set_cons_zero,List.set_cons_succ,i64_w,i32_w]
              rfl
            refine one_ (i:=3) (N:=some 20) #[true,true,true,true,false,false] rfl rfl (by kernel_rfl) (by decide) (fun K hK=>?_)
            refine goes_ Tryz.func99 (by kernel_rfl) rfl #[.agg #[.int .i64 a0_0,.int .i64 a0_1,.int .i64 a0_2]] (by rfl) rfl rfl (by (try simp only [List.map_toArray,List.map_cons,List.map_nil]);first | done | rfl | (simp only [List.length_drop,List.length_take];rfl)) ?_
            with_reducible refine (Qas.calls a0_0 a0_1 a0_2 t165 _ A13.out).mono ?_
            rintro e w20 ⟨rfl,hb⟩
            refine ⟨_,rfl,?_⟩
            have n0_:=Aside0.mk (Qa3 (g:=gb162) (o:=.cells #[.int .i64 a0_0,.int .i64 a0_1,.int .i64 a0_2] 168 (0,0)) (by (with_reducible repeat (first | refine Qaj ?_ _ | refine Qai ?_ | refine Qak ?_ _));exact BK162.out) hb)
            have n1_:=Aside0.mk (Qa3 (g:=gb163) (o:=.cells #[.bool a1_0,.int .i64 a1_1,.int .u64 a1_2] 172 (0,0)) (by (with_reducible repeat (first | refine Qaj ?_ _ | refine Qai ?_ | refine Qak ?_ _));exact BK163.out) hb)
            have n2_:=Aside0.mk (Qav (by repeat (first | (with_reducible first | exact HB.out | apply Qae | apply Qab | apply Qad | refine Qaf ?_ GE162.out | refine Qaf ?_ GE163.out) | exact HB.out)) hb)
            clear BK162
            clear BK163
            clear HB
            have BK162:=n0_
            have BK163:=n1_
            have HB:=n2_
            clear n0_ n1_ n2_
            (try clear hb)
            (try clear hb2)
            (try clear hk)
            (try clear hi)
            refine hK.out _ _ ⟨(Qaa BK163.out 0).trans rfl,(Qaa BK163.out 1).trans rfl,(Qaa BK163.out 2).trans rfl,(Qaa BK162.out 0).trans rfl,(Qaa BK162.out 1).trans rfl,(Qaa BK162.out 2).trans rfl⟩ (fun hHeld=>?_)
            clear hK K
            refine norm_ (a':=?_) ?_ ?_
            rotate_left
            · show Act.put _ (some 20) _=_
              simp only [Act.put,List.setIfInBounds_toArray,List.set_cons_zero,List.set_cons_succ,i64_w,i32_w]
              rfl
            refine pure_ (i:=4) (N:=some 21) (v:=?_) (a':=?_) #[true,true,true,true,true,false] rfl rfl (by kernel_rfl) (fun _ _ _ h=>h) (Or.inl ⟨by rfl,?_⟩) ?_ ?_
            rotate_left
            · intro w'
              go_simp
              with_reducible rfl
            rotate_left
            · simp only [Act.put,List.setIfInBounds_toArray,List.set_cons_zero,List.set_cons_succ,i64_w,i32_w]
              rfl
            refine pure_ (i:=5) (N:=some 16) (v:=?_) (a':=?_) #[true,true,true,true,true,true] rfl rfl (by kernel_rfl) (fun _ _ _ h=>h) (Or.inl ⟨by rfl,?_⟩) ?_ ?_
            rotate_left
            · intro w'
              go_simp
              with_reducible rfl
            rotate_left
            · simp only [Act.put,List.setIfInBounds_toArray,List.set_cons_zero,List.set_cons_succ,i64_w,i32_w]
              rfl
            refine done_ (by kernel_rfl) ?_
            have hnb21:=NB163_162.out
            have hnc21:=NB162_163.out
            have hcz22_0:w20.cell? ⟨gb163,0,none⟩=some (.bool a1_0):=(Qaa BK163.out 0).trans rfl
            have hcz22_1:w20.cell? ⟨gb163,1,none⟩=some (.int .i64 a1_1):=(Qaa BK163.out 1).trans rfl
            have hcz22_2:w20.cell? ⟨gb163,2,none⟩=some (.int .u64 a1_2):=(Qaa BK163.out 2).trans rfl
            have hfz22_0:=Qac BK163.out 0
            have hfz22_1:=Qac BK163.out 1
            have hfz22_2:=Qac BK163.out 2
            try go_wp2
            go_ret
            exact ⟨by first | rfl | (simp [errW_none,Qag] <;> rfl) | (simp [*,errW_none,Qag] <;> rfl),by repeat (first | (with_reducible first | exact HB.out | apply Qae | apply Qab | apply Qad | refine Qaf ?_ GE162.out | refine Qaf ?_ GE163.out) | exact HB.out)⟩
          · rw [if_neg c18] at H
            have c18b0:(a1_2 == 0)=false:=beq_eq_false_iff_ne.mpr c18
            have c18b1:(a1_2 != 0)=true:=bne_iff_ne.mpr c18
            obtain rfl:=Option.some.inj H
            try go_wp2
            have n0_:=Aside0.mk (Qai BK162.out)
            have n1_:=Aside0.mk (Qai BK163.out)
            have n2_:=Aside0.mk (Qad HB.out)
            clear BK162
            clear BK163
            clear HB
            have BK162:=n0_
            have BK163:=n1_
            have HB:=n2_
            clear n0_ n1_ n2_
            refine start_ (n:=6) (S:=fun w'=>w'.cell? ⟨gb163,0,none⟩=some (.bool a1_0)∧w'.cell? ⟨gb163,1,none⟩=some (.int .i64 a1_1)∧w'.cell? ⟨gb163,2,none⟩=some (.int .u64 a1_2)∧w'.cell? ⟨gb162,0,none⟩=some (.int .i64 a0_0)∧w'.cell? ⟨gb162,1,none⟩=some (.int .i64 a0_1)∧w'.cell? ⟨gb162,2,none⟩=some (.int .i64 a0_2)) (ds:=[]) #[false,false,false,false,false,false] (by kernel_rfl) rfl rfl ⟨(Qaa BK163.out 0).trans rfl,(Qaa BK163.out 1).trans rfl,(Qaa BK163.out 2).trans rfl,(Qaa BK162.out 0).trans rfl,(Qaa BK162.out 1).trans rfl,(Qaa BK162.out 2).trans rfl⟩ (fun hHeld=>?_)
            generalize wc.drew=w23 at BK162 BK163 HB hHeld ⊢
            refine pure_ (i:=0) (N:=some 17) (v:=?_) (a':=?_) #[true,false,false,false,false,false] rfl rfl (by kernel_rfl) (fun _ _ _ h=>h) (Or.inl ⟨by rfl,?_⟩) ?_ ?_
            rotate_left
            · intro w'
              go_simp
              with_reducible rfl
            rotate_left
            · simp only [Act.put,List.setIfInBounds_toArray,List.set_cons_zero,List.set_cons_succ,i64_w,i32_w]
              rfl
            refine take_ (i:=1) (N:=some 18) (v:=?_) (a':=?_) #[true,true,false,false,false,false] rfl rfl (by kernel_rfl) (fun _ _ _ h=>h) (Or.inl ⟨by rfl,?_⟩) hHeld ?_ ?_
            rotate_left
            · rintro w' ⟨s0,s1,s2,s3,s4,s5⟩
              go_simp
              with_reducible rfl
            rotate_left
            · simp only [Act.put,List.setIfInBounds_toArray,List.set_cons_zero,List.set_cons_succ,i64_w,i32_w]
              rfl
            refine take_ (i:=2) (N:=some 19) (v:=?_) (a':=?_) #[true,true,true,false,false,false] rfl rfl (by kernel_rfl) (fun _ _ _ h=>h) (Or.inl ⟨by rfl,?_⟩) hHeld ?_ ?_
            rotate_left
            · rintro w' ⟨s0,s1,s2,s3,s4,s5⟩
              go_simp
              with_reducible rfl
            rotate_left
            · simp only [Act.put,List.setIfInBounds_toArray,List.set_cons_zero,List.set_cons_succ,i64_w,i32_w]
              rfl
            refine one_ (i:=3) (N:=some 20) #[true,true,true,true,false,false] rfl rfl (by kernel_rfl) (by decide) (fun K hK=>?_)
            refine goes_ Tryz.func99 (by kernel_rfl) rfl #[.agg #[.int .i64 a0_0,.int .i64 a0_1,.int .i64 a0_2]] (by rfl) rfl rfl (by (try simp only [List.map_toArray,List.map_cons,List.map_nil]);first | done | rfl | (simp only [List.length_drop,List.length_take];rfl)) ?_
            with_reducible refine (Qas.calls a0_0 a0_1 a0_2 t165 _ A13.out).mono ?_
            rintro e w24 ⟨rfl,hb⟩
            refine ⟨_,rfl,?_⟩
            have n0_:=Aside0.mk (Qa3 (g:=gb162) (o:=.cells #[.int .i64 a0_0,.int .i64 a0_1,.int .i64 a0_2] 168 (0,0)) (by (with_reducible repeat (first | refine Qaj ?_ _ | refine Qai ?_ | refine Qak ?_ _));exact BK162.out) hb)
            have n1_:=Aside0.mk (Qa3 (g:=gb163) (o:=.cells #[.bool a1_0,.int .i64 a1_1,.int .u64 a1_2] 172 (0,0)) (by (with_reducible repeat (first | refine Qaj ?_ _ | refine Qai ?_ | refine Qak ?_ _));exact BK163.out) hb)
            have n2_:=Aside0.mk (Qav (by repeat (first | (with_reducible first | exact HB.out | apply Qae | apply Qab | apply Qad | refine Qaf ?_ GE162.out | refine Qaf ?_ GE163.out) | exact HB.out)) hb)
            clear BK162
            clear BK163
            clear HB
            have BK162:=n0_
            have BK163:=n1_
            have HB:=n2_
            clear n0_ n1_ n2_
            (try clear hb)
            (try clear hb2)
            (try clear hk)
            (try clear hi)
            refine hK.out _ _ ⟨(Qaa BK163.out 0).trans rfl,(Qaa BK163.out 1).trans rfl,(Qaa BK163.out 2).trans rfl,(Qaa BK162.out 0).trans rfl,(Qaa BK162.out 1).trans rfl,(Qaa BK162.out 2).trans rfl⟩ (fun hHeld=>?_)
            clear hK K
            refine norm_ (a':=?_) ?_ ?_
            rotate_left
            · show Act.put _ (some 20) _=_
              simp only [Act.put,List.setIfInBounds_toArray,List.set_cons_zero,List.set_cons_succ,i64_w,i32_w]
              rfl
            refine pure_ (i:=4) (N:=some 21) (v:=?_) (a':=?_) #[true,true,true,true,true,false] rfl rfl (by kernel_rfl) (fun _ _ _ h=>h) (Or.inl ⟨by rfl,?_⟩) ?_ ?_
            rotate_left
            · intro w'
              go_simp
              with_reducible rfl
            rotate_left
            · simp only [Act.put,List.setIfInBounds_toArray,List.set_cons_zero,List.set_cons_succ,i64_w,i32_w]
              rfl
            refine pure_ (i:=5) (N:=some 16) (v:=?_) (a':=?_) #[true,true,true,true,true,true] rfl rfl (by kernel_rfl) (fun _ _ _ h=>h) (Or.inl ⟨by rfl,?_⟩) ?_ ?_
            rotate_left
            · intro w'
              go_simp
              with_reducible rfl
            rotate_left
            · simp only [Act.put,List.setIfInBounds_toArray,List.set_cons_zero,List.set_cons_succ,i64_w,i32_w]
              rfl
            refine done_ (by kernel_rfl) ?_
            have hnb25:=NB163_162.out
            have hnc25:=NB162_163.out
            have hcz26_0:w24.cell? ⟨gb163,0,none⟩=some (.bool a1_0):=(Qaa BK163.out 0).trans rfl
            have hcz26_1:w24.cell? ⟨gb163,1,none⟩=some (.int .i64 a1_1):=(Qaa BK163.out 1).trans rfl
            have hcz26_2:w24.cell? ⟨gb163,2,none⟩=some (.int .u64 a1_2):=(Qaa BK163.out 2).trans rfl
            have hfz26_0:=Qac BK163.out 0
            have hfz26_1:=Qac BK163.out 1
            have hfz26_2:=Qac BK163.out 2
            try go_wp2
            go_ret
            exact ⟨by first | rfl | (simp [errW_none,Qag] <;> rfl) | (simp [*,errW_none,Qag] <;> rfl),by repeat (first | (with_reducible first | exact HB.out | apply Qae | apply Qab | apply Qad | refine Qaf ?_ GE162.out | refine Qaf ?_ GE163.out) | exact HB.out)⟩
        · rw [if_neg c17] at H
          have c17b0:(a1_1 == 0)=false:=beq_eq_false_iff_ne.mpr c17
          have c17b1:(a1_1 != 0)=true:=bne_iff_ne.mpr c17
          obtain rfl:=Option.some.inj H
          try go_wp2
          have n0_:=Aside0.mk (Qai BK162.out)
          have n1_:=Aside0.mk (Qai BK163.out)
          have n2_:=Aside0.mk (Qad HB.out)
          clear BK162
          clear BK163
          clear HB
          have BK162:=n0_
          have BK163:=n1_
          have HB:=n2_
          clear n0_ n1_ n2_
          refine start_ (n:=6) (S:=fun w'=>w'.cell? ⟨gb163,0,none⟩=some (.bool a1_0)∧w'.cell? ⟨gb163,1,none⟩=some (.int .i64 a1_1)∧w'.cell? ⟨gb163,2,none⟩=some (.int .u64 a1_2)∧w'.cell? ⟨gb162,0,none⟩=some (.int .i64 a0_0)∧w'.cell? ⟨gb162,1,none⟩=some (.int .i64 a0_1)∧w'.cell? ⟨gb162,2,none⟩=some (.int .i64 a0_2)) (ds:=[]) #[false,false,false,false,false,false] (by kernel_rfl) rfl rfl ⟨(Qaa BK163.out 0).trans rfl,(Qaa BK163.out 1).trans rfl,(Qaa BK163.out 2).trans rfl,(Qaa BK162.out 0).trans rfl,(Qaa BK162.out 1).trans rfl,(Qaa BK162.out 2).trans rfl⟩ (fun hHeld=>?_)
          generalize wc.drew=w27 at BK162 BK163 HB hHeld ⊢
          refine pure_ (i:=0) (N:=some 17) (v:=?_) (a':=?_) #[true,false,false,false,false,false] rfl rfl (by kernel_rfl) (fun _ _ _ h=>h) (Or.inl ⟨by rfl,?_⟩) ?_ ?_
          rotate_left
          · intro w'
            go_simp
            with_reducible rfl
          rotate_left
          · simp only [Act.put,List.setIfInBounds_toArray,List.set_cons_zero,List.set_cons_succ,i64_w,i32_w]
            rfl
          refine take_ (i:=1) (N:=some 18) (v:=?_) (a':=?_) #[true,true,false,false,false,false] rfl rfl (by kernel_rfl) (fun _ _ _ h=>h) (Or.inl ⟨by rfl,?_⟩) hHeld ?_ ?_
          rotate_left
          · rintro w' ⟨s0,s1,s2,s3,s4,s5⟩
            go_simp
            with_reducible rfl
          rotate_left
          · simp only [Act.put,List.setIfInBounds_toArray,List.set_cons_zero,List.set_cons_succ,i64_w,i32_w]
            rfl
          refine take_ (i:=2) (N:=some 19) (v:=?_) (a':=?_) #[true,true,true,false,false,false] rfl rfl (by kernel_rfl) (fun _ _ _ h=>h) (Or.inl ⟨by rfl,?_⟩) hHeld ?_ ?_
          rotate_left
          · rintro w' ⟨s0,s1,s2,s3,s4,s5⟩
            go_simp
            with_reducible rfl
          rotate_left
          · simp only [Act.put,List.setIfInBounds_toArray,List.set_cons_zero,List.set_cons_succ,i64_w,i32_w]
            rfl
          refine one_ (i:=3) (N:=some 20) #[true,true,true,true,false,false] rfl rfl (by kernel_rfl) (by decide) (fun K hK=>?_)
          refine goes_ Tryz.func99 (by kernel_rfl) rfl #[.agg #[.int .i64 a0_0,.int .i64 a0_1,.int .i64 a0_2]] (by rfl) rfl rfl (by (try simp only [List.map_toArray,List.map_cons,List.map_nil]);first | done | rfl | (simp only [List.length_drop,List.length_take];rfl)) ?_
          with_reducible refine (Qas.calls a0_0 a0_1 a0_2 t165 _ A13.out).mono ?_
          rintro e w28 ⟨rfl,hb⟩
          refine ⟨_,rfl,?_⟩
          have n0_:=Aside0.mk (Qa3 (g:=gb162) (o:=.cells #[.int .i64 a0_0,.int .i64 a0_1,.int .i64 a0_2] 168 (0,0)) (by (with_reducible repeat (first | refine Qaj ?_ _ | refine Qai ?_ | refine Qak ?_ _));exact BK162.out) hb)
          have n1_:=Aside0.mk (Qa3 (g:=gb163) (o:=.cells #[.bool a1_0,.int .i64 a1_1,.int .u64 a1_2] 172 (0,0)) (by (with_reducible repeat (first | refine Qaj ?_ _ | refine Qai ?_ | refine Qak ?_ _));exact BK163.out) hb)
          have n2_:=Aside0.mk (Qav (by repeat (first | (with_reducible first | exact HB.out | apply Qae | apply Qab | apply Qad | refine Qaf ?_ GE162.out | refine Qaf ?_ GE163.out) | exact HB.out)) hb)
          clear BK162
          clear BK163
          clear HB
          have BK162:=n0_
          have BK163:=n1_
          have HB:=n2_
          clear n0_ n1_ n2_
          (try clear hb)
          (try clear hb2)
          (try clear hk)
          (try clear hi)
          refine hK.out _ _ ⟨(Qaa BK163.out 0).trans rfl,(Qaa BK163.out 1).trans rfl,(Qaa BK163.out 2).trans rfl,(Qaa BK162.out 0).trans rfl,(Qaa BK162.out 1).trans rfl,(Qaa BK162.out 2).trans rfl⟩ (fun hHeld=>?_)
          clear hK K
          refine norm_ (a':=?_) ?_ ?_
          rotate_left
          · show Act.put _ (some 20) _=_
            simp only [Act.put,List.setIfInBounds_toArray,List.set_cons_zero,List.set_cons_succ,i64_w,i32_w]
            rfl
          refine pure_ (i:=4) (N:=some 21) (v:=?_) (a':=?_) #[true,true,true,true,true,false] rfl rfl (by kernel_rfl) (fun _ _ _ h=>h) (Or.inl ⟨by rfl,?_⟩) ?_ ?_
          rotate_left
          · intro w'
            go_simp
            with_reducible rfl
          rotate_left
          · simp only [Act.put,List.setIfInBounds_toArray,List.set_cons_zero,List.set_cons_succ,i64_w,i32_w]
            rfl
          refine pure_ (i:=5) (N:=some 16) (v:=?_) (a':=?_) #[true,true,true,true,true,true] rfl rfl (by kernel_rfl) (fun _ _ _ h=>h) (Or.inl ⟨by rfl,?_⟩) ?_ ?_
          rotate_left
          · intro w'
            go_simp
            with_reducible rfl
          rotate_left
          · simp only [Act.put,List.setIfInBounds_toArray,List.set_cons_zero,List.set_cons_succ,i64_w,i32_w]
            rfl
          refine done_ (by kernel_rfl) ?_
          have hnb29:=NB163_162.out
          have hnc29:=NB162_163.out
          have hcz30_0:w28.cell? ⟨gb163,0,none⟩=some (.bool a1_0):=(Qaa BK163.out 0).trans rfl
          have hcz30_1:w28.cell? ⟨gb163,1,none⟩=some (.int .i64 a1_1):=(Qaa BK163.out 1).trans rfl
          have hcz30_2:w28.cell? ⟨gb163,2,none⟩=some (.int .u64 a1_2):=(Qaa BK163.out 2).trans rfl
          have hfz30_0:=Qac BK163.out 0
          have hfz30_1:=Qac BK163.out 1
          have hfz30_2:=Qac BK163.out 2
          try go_wp2
          go_ret
          exact ⟨by first | rfl | (simp [errW_none,Qag] <;> rfl) | (simp [*,errW_none,Qag] <;> rfl),by repeat (first | (with_reducible first | exact HB.out | apply Qae | apply Qab | apply Qad | refine Qaf ?_ GE162.out | refine Qaf ?_ GE163.out) | exact HB.out)⟩
end Go.Proofs.YtfmceonbejlhlaaGreatDoor.P
namespace Go.Proofs.YtfmceonbejlhlaaGreatDoor.P
open Go.RowKit Go.Proofs.YtfmceonbejlhlaaGreatDoorW.PrintWords Go.Proofs.YtfmceonbejlhlaaGreatDoorW.PrintLast Go.Proofs.YtfmceonbejlhlaaGreatDoorW.PrintMore
attribute [local go_sem] Qbx Qbw max_two min_two Qbr Qbs Qbv Qbt   -- for this text's walks alone
set_option linter.unusedVariables false
set_option linter.unusedSimpArgs false
def Qb9.f (a0_0:Int) (a0_1:Int) (a0_2:Int):Option (Int):=if 0≤(wrap64 (a0_1 - 1)) then (some (wrap64 ((shl .i64 1 (wrap64 (a0_1 - 1))) - 1))) else (none)
set_option maxHeartbeats 8000000 in
set_option maxRecDepth 100000 in
theorem Qb9.calls (a0_0:Int) (a0_1:Int) (a0_2:Int) (r:Int) (w:World) (h:Qb9.f a0_0 a0_1 a0_2=some r) :
 Calls Tryz.prog 95 #[.agg #[.int .i64 a0_0,.int .i64 a0_1,.int .i64 a0_2]] w fun e w'=>e=.returned (.int .i64 r)∧Below w.heap.size w w':=by
 have hu168:=Tryz.underlying168
 have HB:=Aside0.mk (Below.refl w.heap.size w)
 have H:(if 0≤(wrap64 (a0_1 - 1)) then (some (wrap64 ((shl .i64 1 (wrap64 (a0_1 - 1))) - 1))) else (none))=some r:=h
 clear h
 obtain ⟨ji2,hji2⟩:∃ j_:Int,(wrap64 (a0_1 - 1))=j_:=⟨_,rfl⟩
 replace H:(if 0≤(ji2) then (some (wrap64 ((shl .i64 1 (ji2)) - 1))) else (none))=some r:=by first | (rw [hji2] at H;exact H) | (simp only [hji2] at H ⊢;exact H)
 have hji2w:(IntKind.i64.wrap (a0_1 - 1))=ji2:=(i64_w _).trans hji2
 by_cases c3:0≤(ji2)
 · rw [if_pos c3] at H
   have c3b0:=eq_true c3
   have c3b1:decide (0≤(ji2))=true:=decide_eq_true c3
   clear c3
   obtain ⟨ji4,hji4⟩:∃ j_:Int,(shl .i64 1 (ji2))=j_:=⟨_,rfl⟩
   replace H:(some (wrap64 ((ji4) - 1)))=some r:=by first | (rw [hji4] at H;exact H) | (simp only [hji4] at H ⊢;exact H)
   have hji4_:(IntKind.i64.wrap (1*2 ^ min (ji2).toNat 64))=ji4:=hji4
   have hji4z:(ji2)≤64→(IntKind.i64.wrap (1*2 ^ (ji2).toNat))=ji4:=shl_small hji4
   have hji4u:(IntKind.i64.wrap (2 ^ min (ji2).toNat 64))=ji4:=by have h_:=hji4_;rw [Int.one_mul] at h_;exact h_
   have hji4v:(ji2)≤64→(IntKind.i64.wrap (2 ^ (ji2).toNat))=ji4:=fun hle_=>by have h_:=hji4z hle_;rw [Int.one_mul] at h_;exact h_
   have hji4y:(wrap64 (1*2 ^ min (ji2).toNat 64))=ji4:=(i64_w _).symm.trans hji4_
   have hji4x:(ji2)≤64→(wrap64 (1*2 ^ (ji2).toNat))=ji4:=fun h_=>(i64_w _).symm.trans (hji4z h_)
   obtain rfl:=Option.some.inj H
   go_enter Tryz.func95,Tryz.ntmps95
   go_wp2_with (first | ((with_reducible refine Qbb (N:=1) rfl ?_);refine Qa9 ?hg (N:=1) ?hd (cs:=#[.int .i64 a0_0,.int .i64 a0_1,.int .i64 a0_2]) (t:=168) ?hr ?_;(case hd=>rfl);(case hg=>rfl);(case hr=>first | (go_simp;done) | (go_simp;rfl));intro gb166 hg w5 hbox hb;have n0_:=Aside0.mk (Qav (by repeat (first | (with_reducible first | exact HB.out | apply Qae | apply Qab | apply Qad) | exact HB.out)) hb);have n1_:=Aside0.mk (hbox);have n2_:=Aside0.mk ((by rw [hg];exact (Qao (by repeat (first | (with_reducible first | exact HB.out | apply Qae | apply Qab | apply Qad) | exact HB.out))):w.heap.size≤gb166));have n3_:=Aside0.mk ((by rw [hg];exact (Qao (by repeat (first | (with_reducible first | exact HB.out | apply Qae | apply Qab | apply Qad) | exact HB.out))):w.heap.size≤gb166));clear HB;have HB:=n0_;have BK166:=n1_;have GW166:=n2_;have GE166:=n3_;clear n0_ n1_ n2_ n3_;clear hb hbox hg;have hcz6_0:w5.cell? ⟨gb166,0,none⟩=some (.int .i64 a0_0):=(Qaa BK166.out 0).trans rfl;have hcz6_1:w5.cell? ⟨gb166,1,none⟩=some (.int .i64 a0_1):=(Qaa BK166.out 1).trans rfl;have hcz6_2:w5.cell? ⟨gb166,2,none⟩=some (.int .i64 a0_2):=(Qaa BK166.out 2).trans rfl;have hfz6_0:=Qac BK166.out 0;have hfz6_1:=Qac BK166.out 1;have hfz6_2:=Qac BK166.out 2))
   go_ret
   exact ⟨by first | rfl | (simp [errW_none,Qag] <;> rfl) | (simp only [← hji2,← hji4];first | rfl | (simp [errW_none,Qag] <;> rfl)) | (simp [*,errW_none,Qag] <;> rfl),by repeat (first | (with_reducible first | exact HB.out | apply Qae | apply Qab | apply Qad | refine Qaf ?_ GE166.out) | exact HB.out)⟩
 · rw [if_neg c3] at H
   exact absurd H (by simp)
end Go.Proofs.YtfmceonbejlhlaaGreatDoor.P
namespace Go.Proofs.YtfmceonbejlhlaaGreatDoor.P
open Go.RowKit Go.Proofs.YtfmceonbejlhlaaGreatDoorW.PrintWords Go.Proofs.YtfmceonbejlhlaaGreatDoorW.PrintLast Go.Proofs.YtfmceonbejlhlaaGreatDoorW.PrintMore
attribute [local go_sem] Qbx Qbw max_two min_two Qbr Qbs Qbv Qbt   -- for this text's walks alone
set_option linter.unusedVariables false
set_option linter.unusedSimpArgs false
def Qbi.f (a0_0:Int) (a0_1:Int) (a0_2:Int) (a1_0:Bool) (a1_1:Int) (a1_2:Int):Option (Int):=if 0≤a0_2 then (if a1_0=true then (if 0≤(wrap64 (a0_0 - 1)) then (some (Go.bits .or .u64 (Go.bits .or .u64 (shl .u64 (IntKind.u64.wrap (a1_1)) a0_2) a1_2) (shl .u64 1 (wrap64 (a0_0 - 1))))) else (none)) else (some (Go.bits .or .u64 (shl .u64 (IntKind.u64.wrap (a1_1)) a0_2) a1_2))) else (none)
set_option maxHeartbeats 8000000 in
set_option maxRecDepth 100000 in
theorem Qbi.calls (a0_0:Int) (a0_1:Int) (a0_2:Int) (a1_0:Bool) (a1_1:Int) (a1_2:Int) (r:Int) (w:World) (h:Qbi.f a0_0 a0_1 a0_2 a1_0 a1_1 a1_2=some r) :
 Calls Tryz.prog 98 #[.agg #[.int .i64 a0_0,.int .i64 a0_1,.int .i64 a0_2],.agg #[.bool a1_0,.int .i64 a1_1,.int .u64 a1_2]] w fun e w'=>e=.returned (.int .u64 r)∧Below w.heap.size w w':=by
 have hu168:=Tryz.underlying168
 have hu172:=Tryz.underlying172
 have HB:=Aside0.mk (Below.refl w.heap.size w)
 have H:(if 0≤a0_2 then (if a1_0=true then (if 0≤(wrap64 (a0_0 - 1)) then (some (Go.bits .or .u64 (Go.bits .or .u64 (shl .u64 (IntKind.u64.wrap (a1_1)) a0_2) a1_2) (shl .u64 1 (wrap64 (a0_0 - 1))))) else (none)) else (some (Go.bits .or .u64 (shl .u64 (IntKind.u64.wrap (a1_1)) a0_2) a1_2))) else (none))=some r:=h
 clear h
 by_cases c3:0≤a0_2
 · rw [if_pos c3] at H
   have c3b0:=eq_true c3
   have c3b1:decide (0≤a0_2)=true:=decide_eq_true c3
   clear c3
   obtain ⟨ji4,hji4⟩:∃ j_:Int,(shl .u64 (IntKind.u64.wrap (a1_1)) a0_2)=j_:=⟨_,rfl⟩
   replace H:(if a1_0=true then (if 0≤(wrap64 (a0_0 - 1)) then (some (Go.bits .or .u64 (Go.bits .or .u64 (ji4) a1_2) (shl .u64 1 (wrap64 (a0_0 - 1))))) else (none)) else (some (Go.bits .or .u64 (ji4) a1_2)))=some r:=by first | (rw [hji4] at H;exact H) | (simp only [hji4] at H ⊢;exact H)
   have hji4_:(IntKind.u64.wrap ((IntKind.u64.wrap (a1_1))*2 ^ min a0_2.toNat 64))=ji4:=hji4
   have hji4z:a0_2≤64→(IntKind.u64.wrap ((IntKind.u64.wrap (a1_1))*2 ^ a0_2.toNat))=ji4:=shl_small hji4
   by_cases c5:a1_0=true
   · subst c5
     have H1:(if 0≤(wrap64 (a0_0 - 1)) then (some (Go.bits .or .u64 (Go.bits .or .u64 (ji4) a1_2) (shl .u64 1 (wrap64 (a0_0 - 1))))) else (none))=some r:=by rw [if_pos rfl] at H;exact H
     clear H
     have H:=H1
     clear H1
     obtain ⟨ji6,hji6⟩:∃ j_:Int,(wrap64 (a0_0 - 1))=j_:=⟨_,rfl⟩
     replace H:(if 0≤(ji6) then (some (Go.bits .or .u64 (Go.bits .or .u64 (ji4) a1_2) (shl .u64 1 (ji6)))) else (none))=some r:=by first | (rw [hji6] at H;exact H) | (simp only [hji6] at H ⊢;exact H)
     have hji6w:(IntKind.i64.wrap (a0_0 - 1))=ji6:=(i64_w _).trans hji6
     by_cases c7:0≤(ji6)
     · rw [if_pos c7] at H
       have c7b0:=eq_true c7
       have c7b1:decide (0≤(ji6))=true:=decide_eq_true c7
       clear c7
       obtain ⟨ji8,hji8⟩:∃ j_:Int,(shl .u64 1 (ji6))=j_:=⟨_,rfl⟩
       replace H:(some (Go.bits .or .u64 (Go.bits .or .u64 (ji4) a1_2) (ji8)))=some r:=by first | (rw [hji8] at H;exact H) | (simp only [hji8] at H ⊢;exact H)
       have hji8_:(IntKind.u64.wrap (1*2 ^ min (ji6).toNat 64))=ji8:=hji8
       have hji8z:(ji6)≤64→(IntKind.u64.wrap (1*2 ^ (ji6).toNat))=ji8:=shl_small hji8
       have hji8u:(IntKind.u64.wrap (2 ^ min (ji6).toNat 64))=ji8:=by have h_:=hji8_;rw [Int.one_mul] at h_;exact h_
       have hji8v:(ji6)≤64→(IntKind.u64.wrap (2 ^ (ji6).toNat))=ji8:=fun hle_=>by have h_:=hji8z hle_;rw [Int.one_mul] at h_;exact h_
       obtain rfl:=Option.some.inj H
       go_enter Tryz.func98,Tryz.ntmps98
       go_wp2_with (first | ((with_reducible refine Qbb (N:=2) rfl ?_);refine Qa9 ?hg (N:=2) ?hd (cs:=#[.int .i64 a0_0,.int .i64 a0_1,.int .i64 a0_2]) (t:=168) ?hr ?_;(case hd=>rfl);(case hg=>rfl);(case hr=>first | (go_simp;done) | (go_simp;rfl));intro gb167 hg w9 hbox hb;have n0_:=Aside0.mk (Qav (by repeat (first | (with_reducible first | exact HB.out | apply Qae | apply Qab | apply Qad) | exact HB.out)) hb);have n1_:=Aside0.mk (hbox);have n2_:=Aside0.mk ((by rw [hg];exact (Qao (by repeat (first | (with_reducible first | exact HB.out | apply Qae | apply Qab | apply Qad) | exact HB.out))):w.heap.size≤gb167));have n3_:=Aside0.mk ((by rw [hg];exact (Qao (by repeat (first | (with_reducible first | exact HB.out | apply Qae | apply Qab | apply Qad) | exact HB.out))):w.heap.size≤gb167));clear HB;have HB:=n0_;have BK167:=n1_;have GW167:=n2_;have GE167:=n3_;clear n0_ n1_ n2_ n3_;clear hb hbox hg) | ((with_reducible refine Qbb (N:=3) rfl ?_);refine Qa9 ?hg (N:=3) ?hd (cs:=#[.bool true,.int .i64 a1_1,.int .u64 a1_2]) (t:=172) ?hr ?_;(case hd=>rfl);(case hg=>rfl);(case hr=>first | (go_simp;done) | (go_simp;rfl));intro gb168 hg w10 hbox hb;have n0_:=Aside0.mk (Qa3 (g:=gb167) (o:=.cells #[.int .i64 a0_0,.int .i64 a0_1,.int .i64 a0_2] 168 (0,0)) (by (with_reducible repeat (first | refine Qaj ?_ _ | refine Qai ?_ | refine Qak ?_ _));exact BK167.out) hb);have n1_:=Aside0.mk (Qav (by repeat (first | (with_reducible first | exact HB.out | apply Qae | apply Qab | apply Qad | refine Qaf ?_ GE167.out) | exact HB.out)) hb);have n2_:=Aside0.mk (hbox);have n3_:=Aside0.mk ((by rw [hg];exact (Qao (by repeat (first | (with_reducible first | exact HB.out | apply Qae | apply Qab | apply Qad | refine Qaf ?_ GE167.out) | exact HB.out))):w.heap.size≤gb168));have n4_:=Aside0.mk ((by rw [hg];exact (Qao (by repeat (first | (with_reducible first | exact HB.out | apply Qae | apply Qab | apply Qad | refine Qaf ?_ GE167.out) | exact HB.out))):w.heap.size≤gb168));have n5_:=Aside0.mk ((by rw [hg];exact Nat.ne_of_lt (blk_lt (g:=gb167) (o:=.cells #[.int .i64 a0_0,.int .i64 a0_1,.int .i64 a0_2] 168 (0,0)) (by (with_reducible repeat (first | refine Qaj ?_ _ | refine Qai ?_ | refine Qak ?_ _));exact BK167.out)):gb167 ≠ gb168));have n6_:=Aside0.mk ((by rw [hg];exact Nat.ne_of_gt (blk_lt (g:=gb167) (o:=.cells #[.int .i64 a0_0,.int .i64 a0_1,.int .i64 a0_2] 168 (0,0)) (by (with_reducible repeat (first | refine Qaj ?_ _ | refine Qai ?_ | refine Qak ?_ _));exact BK167.out)):gb168 ≠ gb167));clear BK167;clear HB;have BK167:=n0_;have HB:=n1_;have BK168:=n2_;have GW168:=n3_;have GE168:=n4_;have NB167_168:=n5_;have NB168_167:=n6_;clear n0_ n1_ n2_ n3_ n4_ n5_ n6_;clear hb hbox hg;have hnb11:=NB168_167.out;have hnc11:=NB167_168.out;have hcz12_0:w10.cell? ⟨gb168,0,none⟩=some (.bool true):=(Qaa BK168.out 0).trans rfl;have hcz12_1:w10.cell? ⟨gb168,1,none⟩=some (.int .i64 a1_1):=(Qaa BK168.out 1).trans rfl;have hcz12_2:w10.cell? ⟨gb168,2,none⟩=some (.int .u64 a1_2):=(Qaa BK168.out 2).trans rfl;have hfz12_0:=Qac BK168.out 0;have hfz12_1:=Qac BK168.out 1;have hfz12_2:=Qac BK168.out 2;have hcz13_0:w10.cell? ⟨gb167,0,none⟩=some (.int .i64 a0_0):=(Qaa BK167.out 0).trans rfl;have hcz13_1:w10.cell? ⟨gb167,1,none⟩=some (.int .i64 a0_1):=(Qaa BK167.out 1).trans rfl;have hcz13_2:w10.cell? ⟨gb167,2,none⟩=some (.int .i64 a0_2):=(Qaa BK167.out 2).trans rfl;have hfz13_0:=Qac BK167.out 0;have hfz13_1:=Qac BK167.out 1;have hfz13_2:=Qac BK167.out 2))
       repeat (go_quiet (first | ((with_reducible refine Qbb (N:=2) rfl ?_);refine Qa9 ?hg (N:=2) ?hd (cs:=#[.int .i64 a0_0,.int .i64 a0_1,.int .i64 a0_2]) (t:=168) ?hr ?_;(case hd=>rfl);(case hg=>rfl);(case hr=>first | (go_simp;done) | (go_simp;rfl));intro gb167 hg w9 hbox hb;have n0_:=Aside0.mk (Qav (by repeat (first | (with_reducible first | exact HB.out | apply Qae | apply Qab | apply Qad) | exact HB.out)) hb);have n1_:=Aside0.mk (hbox);have n2_:=Aside0.mk ((by rw [hg];exact (Qao (by repeat (first | (with_reducible first | exact HB.out | apply Qae | apply Qab | apply Qad) | exact HB.out))):w.heap.size≤gb167));have n3_:=Aside0.mk ((by rw [hg];exact (Qao (by repeat (first | (with_reducible first | exact HB.out | apply Qae | apply Qab | apply Qad) | exact HB.out))):w.heap.size≤gb167));clear HB;have HB:=n0_;have BK167:=n1_;have GW167:=n2_;have GE167:=n3_;clear n0_ n1_ n2_ n3_;clear hb hbox hg) | ((with_reducible refine Qbb (N:=3) rfl ?_);refine Qa9 ?hg (N:=3) ?hd (cs:=#[.bool true,.int .i64 a1_1,.int .u64 a1_2]) (t:=172) ?hr ?_;(case hd=>rfl);(case hg=>rfl);(case hr=>first | (go_simp;done) | (go_simp;rfl));intro gb168 hg w10 hbox hb;have n0_:=Aside0.mk (Qa3 (g:=gb167) (o:=.cells #[.int .i64 a0_0,.int .i64 a0_1,.int .i64 a0_2] 168 (0,0)) (by (with_reducible repeat (first | refine Qaj ?_ _ | refine Qai ?_ | refine Qak ?_ _));exact BK167.out) hb);have n1_:=Aside0.mk (Qav (by repeat (first | (with_reducible first | exact HB.out | apply Qae | apply Qab | apply Qad | refine Qaf ?_ GE167.out) | exact HB.out)) hb);have n2_:=Aside0.mk (hbox);have n3_:=Aside0.mk ((by rw [hg];exact (Qao (by repeat (first | (with_reducible first | exact HB.out | apply Qae | apply Qab | apply Qad | refine Qaf ?_ GE167.out) | exact HB.out))):w.heap.size≤gb168));have n4_:=Aside0.mk ((by rw [hg];exact (Qao (by repeat (first | (with_reducible first | exact HB.out | apply Qae | apply Qab | apply Qad | refine Qaf ?_ GE167.out) | exact HB.out))):w.heap.size≤gb168));have n5_:=Aside0.mk ((by rw [hg];exact Nat.ne_of_lt (blk_lt (g:=gb167) (o:=.cells #[.int .i64 a0_0,.int .i64 a0_1,.int .i64 a0_2] 168 (0,0)) (by (with_reducible repeat (first | refine Qaj ?_ _ | refine Qai ?_ | refine Qak ?_ _));exact BK167.out)):gb167 ≠ gb168));have n6_:=Aside0.mk ((by rw [hg];exact Nat.ne_of_gt (blk_lt (g:=gb167) (o:=.cells #[.int .i64 a0_0,.int .i64 a0_1,.int .i64 a0_2] 168 (0,0)) (by (with_reducible repeat (first | refine Qaj ?_ _ | refine Qai ?_ | refine Qak ?_ _));exact BK167.out)):gb168 ≠ gb167));clear BK167;clear HB;have BK167:=n0_;have HB:=n1_;have BK168:=n2_;have GW168:=n3_;have GE168:=n4_;have NB167_168:=n5_;have NB168_167:=n6_;clear n0_ n1_ n2_ n3_ n4_ n5_ n6_;clear hb hbox hg;have hnb11:=NB168_167.out;have hnc11:=NB167_168.out;have hcz12_0:w10.cell? ⟨gb168,0,none⟩=some (.bool true):=(Qaa BK168.out 0).trans rfl;have hcz12_1:w10.cell? ⟨gb168,1,none⟩=some (.int .i64 a1_1):=(Qaa BK168.out 1).trans rfl;have hcz12_2:w10.cell? ⟨gb168,2,none⟩=some (.int .u64 a1_2):=(Qaa BK168.out 2).trans rfl;have hfz12_0:=Qac BK168.out 0;have hfz12_1:=Qac BK168.out 1;have hfz12_2:=Qac BK168.out 2;have hcz13_0:w10.cell? ⟨gb167,0,none⟩=some (.int .i64 a0_0):=(Qaa BK167.out 0).trans rfl;have hcz13_1:w10.cell? ⟨gb167,1,none⟩=some (.int .i64 a0_1):=(Qaa BK167.out 1).trans rfl;have hcz13_2:w10.cell? ⟨gb167,2,none⟩=some (.int .i64 a0_2):=(Qaa BK167.out 2).trans rfl;have hfz13_0:=Qac BK167.out 0;have hfz13_1:=Qac BK167.out 1;have hfz13_2:=Qac BK167.out 2));try go_wp2_with (first | ((with_reducible refine Qbb (N:=2) rfl ?_);refine Qa9 ?hg (N:=2) ?hd (cs:=#[.int .i64 a0_0,.int .i64 a0_1,.int .i64 a0_2]) (t:=168) ?hr ?_;(case hd=>rfl);(case hg=>rfl);(case hr=>first | (go_simp;done) | (go_simp;rfl));intro gb167 hg w9 hbox hb;have n0_:=Aside0.mk (Qav (by repeat (first | (with_reducible first | exact HB.out | apply Qae | apply Qab | apply Qad) | exact HB.out)) hb);have n1_:=Aside0.mk (hbox);have n2_:=Aside0.mk ((by rw [hg];exact (Qao (by repeat (first | (with_reducible first | exact HB.out | apply Qae | apply Qab | apply Qad) | exact HB.out))):w.heap.size≤gb167));have n3_:=Aside0.mk ((by rw [hg];exact (Qao (by repeat (first | (with_reducible first | exact HB.out | apply Qae | apply Qab | apply Qad) | exact HB.out))):w.heap.size≤gb167));clear HB;have HB:=n0_;have BK167:=n1_;have GW167:=n2_;have GE167:=n3_;clear n0_ n1_ n2_ n3_;clear hb hbox hg) | ((with_reducible refine Qbb (N:=3) rfl ?_);refine Qa9 ?hg (N:=3) ?hd (cs:=#[.bool true,.int .i64 a1_1,.int .u64 a1_2]) (t:=172) ?hr ?_;(case hd=>rfl);(case hg=>rfl);(case hr=>first | (go_simp;done) | (go_simp;rfl));intro gb168 hg w10 hbox hb;have n0_:=Aside0.mk (Qa3 (g:=gb167) (o:=.cells #[.int .i64 a0_0,.int .i64 a0_1,.int .i64 a0_2] 168 (0,0)) (by (with_reducible repeat (first | refine Qaj ?_ _ | refine Qai ?_ | refine Qak ?_ _));exact BK167.out) hb);have n1_:=Aside0.mk (Qav (by repeat (first | (with_reducible first | exact HB.out | apply Qae | apply Qab | apply Qad | refine Qaf ?_ GE167.out) | exact HB.out)) hb);have n2_:=Aside0.mk (hbox);have n3_:=Aside0.mk ((by rw [hg];exact (Qao (by repeat (first | (with_reducible first | exact HB.out | apply Qae | apply Qab | apply Qad | refine Qaf ?_ GE167.out) | exact HB.out))):w.heap.size≤gb168));have n4_:=Aside0.mk ((by rw [hg];exact (Qao (by repeat (first | (with_reducible first | exact HB.out | apply Qae | apply Qab | apply Qad | refine Qaf ?_ GE167.out) | exact HB.out))):w.heap.size≤gb168));have n5_:=Aside0.mk ((by rw [hg];exact Nat.ne_of_lt (blk_lt (g:=gb167) (o:=.cells #[.int .i64 a0_0,.int .i64 a0_1,.int .i64 a0_2] 168 (0,0)) (by (with_reducible repeat (first | refine Qaj ?_ _ | refine Qai ?_ | refine Qak ?_ _));exact BK167.out)):gb167 ≠ gb168));have n6_:=Aside0.mk ((by rw [hg];exact Nat.ne_of_gt (blk_lt (g:=gb167) (o:=.cells #[.int .i64 a0_0,.int .i64 a0_1,.int .i64 a0_2] 168 (0,0)) (by (with_reducible repeat (first | refine Qaj ?_ _ | refine Qai ?_ | refine Qak ?_ _));exact BK167.out)):gb168 ≠ gb167));clear BK167;clear HB;have BK167:=n0_;have HB:=n1_;have BK168:=n2_;have GW168:=n3_;have GE168:=n4_;have NB167_168:=n5_;have NB168_167:=n6_;clear n0_ n1_ n2_ n3_ n4_ n5_ n6_;clear hb hbox hg;have hnb11:=NB168_167.out;have hnc11:=NB167_168.out;have hcz12_0:w10.cell? ⟨gb168,0,none⟩=some (.bool true):=(Qaa BK168.out 0).trans rfl;have hcz12_1:w10.cell? ⟨gb168,1,none⟩=some (.int .i64 a1_1):=(Qaa BK168.out 1).trans rfl;have hcz12_2:w10.cell? ⟨gb168,2,none⟩=some (.int .u64 a1_2):=(Qaa BK168.out 2).trans rfl;have hfz12_0:=Qac BK168.out 0;have hfz12_1:=Qac BK168.out 1;have hfz12_2:=Qac BK168.out 2;have hcz13_0:w10.cell? ⟨gb167,0,none⟩=some (.int .i64 a0_0):=(Qaa BK167.out 0).trans rfl;have hcz13_1:w10.cell? ⟨gb167,1,none⟩=some (.int .i64 a0_1):=(Qaa BK167.out 1).trans rfl;have hcz13_2:w10.cell? ⟨gb167,2,none⟩=some (.int .i64 a0_2):=(Qaa BK167.out 2).trans rfl;have hfz13_0:=Qac BK167.out 0;have hfz13_1:=Qac BK167.out 1;have hfz13_2:=Qac BK167.out 2)))
       go_ret
       exact ⟨by first | rfl | (simp [errW_none,Qag] <;> rfl) | (simp only [← hji4,← hji6,← hji8];first | rfl | (simp [errW_none,Qag] <;> rfl)) | (simp [*,errW_none,Qag] <;> rfl),by repeat (first | (with_reducible first | exact HB.out | apply Qae | apply Qab | apply Qad | refine Qaf ?_ GE167.out | refine Qaf ?_ GE168.out) | exact HB.out)⟩
     · rw [if_neg c7] at H
       exact absurd H (by simp)
   · replace c5:=Bool.eq_false_iff.mpr c5
     subst c5
     have H1:(some (Go.bits .or .u64 (ji4) a1_2))=some r:=by rw [if_neg (show ¬ (false=true) by decide)] at H;exact H
     clear H
     have H:=H1
     clear H1
     obtain rfl:=Option.some.inj H
     go_enter Tryz.func98,Tryz.ntmps98
     go_wp2_with (first | ((with_reducible refine Qbb (N:=2) rfl ?_);refine Qa9 ?hg (N:=2) ?hd (cs:=#[.int .i64 a0_0,.int .i64 a0_1,.int .i64 a0_2]) (t:=168) ?hr ?_;(case hd=>rfl);(case hg=>rfl);(case hr=>first | (go_simp;done) | (go_simp;rfl));intro gb167 hg w14 hbox hb;have n0_:=Aside0.mk (Qav (by repeat (first | (with_reducible first | exact HB.out | apply Qae | apply Qab | apply Qad) | exact HB.out)) hb);have n1_:=Aside0.mk (hbox);have n2_:=Aside0.mk ((by rw [hg];exact (Qao (by repeat (first | (with_reducible first | exact HB.out | apply Qae | apply Qab | apply Qad) | exact HB.out))):w.heap.size≤gb167));have n3_:=Aside0.mk ((by rw [hg];exact (Qao (by repeat (first | (with_reducible first | exact HB.out | apply Qae | apply Qab | apply Qad) | exact HB.out))):w.heap.size≤gb167));clear HB;have HB:=n0_;have BK167:=n1_;have GW167:=n2_;have GE167:=n3_;clear n0_ n1_ n2_ n3_;clear hb hbox hg) | ((with_reducible refine Qbb (N:=3) rfl ?_);refine Qa9 ?hg (N:=3) ?hd (cs:=#[.bool false,.int .i64 a1_1,.int .u64 a1_2]) (t:=172) ?hr ?_;(case hd=>rfl);(case hg=>rfl);(case hr=>first | (go_simp;done) | (go_simp;rfl));intro gb168 hg w15 hbox hb;have n0_:=Aside0.mk (Qa3 (g:=gb167) (o:=.cells #[.int .i64 a0_0,.int .i64 a0_1,.int .i64 a0_2] 168 (0,0)) (by (with_reducible repeat (first | refine Qaj ?_ _ | refine Qai ?_ | refine Qak ?_ _));exact BK167.out) hb);have n1_:=Aside0.mk (Qav (by repeat (first | (with_reducible first | exact HB.out | apply Qae | apply Qab | apply Qad | refine Qaf ?_ GE167.out) | exact HB.out)) hb);have n2_:=Aside0.mk (hbox);have n3_:=Aside0.mk ((by rw [hg];exact (Qao (by repeat (first | (with_reducible first | exact HB.out | apply Qae | apply Qab | apply Qad | refine Qaf ?_ GE167.out) | exact HB.out))):w.heap.size≤gb168));have n4_:=Aside0.mk ((by rw [hg];exact (Qao (by repeat (first | (with_reducible first | exact HB.out | apply Qae | apply Qab | apply Qad | refine Qaf ?_ GE167.out) | exact HB.out))):w.heap.size≤gb168));have n5_:=Aside0.mk ((by rw [hg];exact Nat.ne_of_lt (blk_lt (g:=gb167) (o:=.cells #[.int .i64 a0_0,.int .i64 a0_1,.int .i64 a0_2] 168 (0,0)) (by (with_reducible repeat (first | refine Qaj ?_ _ | refine Qai ?_ | refine Qak ?_ _));exact BK167.out)):gb167 ≠ gb168));have n6_:=Aside0.mk ((by rw [hg];exact Nat.ne_of_gt (blk_lt (g:=gb167) (o:=.cells #[.int .i64 a0_0,.int .i64 a0_1,.int .i64 a0_2] 168 (0,0)) (by (with_reducible repeat (first | refine Qaj ?_ _ | refine Qai ?_ | refine Qak ?_ _));exact BK167.out)):gb168 ≠ gb167));clear BK167;clear HB;have BK167:=n0_;have HB:=n1_;have BK168:=n2_;have GW168:=n3_;have GE168:=n4_;have NB167_168:=n5_;have NB168_167:=n6_;clear n0_ n1_ n2_ n3_ n4_ n5_ n6_;clear hb hbox hg;have hnb16:=NB168_167.out;have hnc16:=NB167_168.out;have hcz17_0:w15.cell? ⟨gb168,0,none⟩=some (.bool false):=(Qaa BK168.out 0).trans rfl;have hcz17_1:w15.cell? ⟨gb168,1,none⟩=some (.int .i64 a1_1):=(Qaa BK168.out 1).trans rfl;have hcz17_2:w15.cell? ⟨gb168,2,none⟩=some (.int .u64 a1_2):=(Qaa BK168.out 2).trans rfl;have hfz17_0:=Qac BK168.out 0;have hfz17_1:=Qac BK168.out 1;have hfz17_2:=Qac BK168.out 2;have hcz18_0:w15.cell? ⟨gb167,0,none⟩=some (.int .i64 a0_0):=(Qaa BK167.out 0).trans rfl;have hcz18_1:w15.cell? ⟨gb167,1,none⟩=some (.int .i64 a0_1):=(Qaa BK167.out 1).trans rfl;have hcz18_2:w15.cell? ⟨gb167,2,none⟩=some (.int .i64 a0_2):=(Qaa BK167.out 2).trans rfl;have hfz18_0:=Qac BK167.out 0;have hfz18_1:=Qac BK167.out 1;have hfz18_2:=Qac BK167.out 2))
     repeat (go_quiet (first | ((with_reducible refine Qbb (N:=2) rfl ?_);refine Qa9 ?hg (N:=2) ?hd (cs:=#[.int .i64 a0_0,.int .i64 a0_1,.int .i64 a0_2]) (t:=168) ?hr ?_;(case hd=>rfl);(case hg=>rfl);(case hr=>first | (go_simp;done) | (go_simp;rfl));intro gb167 hg w14 hbox hb;have n0_:=Aside0.mk (Qav (by repeat (first | (with_reducible first | exact HB.out | apply Qae | apply Qab | apply Qad) | exact HB.out)) hb);have n1_:=Aside0.mk (hbox);have n2_:=Aside0.mk ((by rw [hg];exact (Qao (by repeat (first | (with_reducible first | exact HB.out | apply Qae | apply Qab | apply Qad) | exact HB.out))):w.heap.size≤gb167));have n3_:=Aside0.mk ((by rw [hg];exact (Qao (by repeat (first | (with_reducible first | exact HB.out | apply Qae | apply Qab | apply Qad) | exact HB.out))):w.heap.size≤gb167));clear HB;have HB:=n0_;have BK167:=n1_;have GW167:=n2_;have GE167:=n3_;clear n0_ n1_ n2_ n3_;clear hb hbox hg) | ((with_reducible refine Qbb (N:=3) rfl ?_);refine Qa9 ?hg (N:=3) ?hd (cs:=#[.bool false,.int .i64 a1_1,.int .u64 a1_2]) (t:=172) ?hr ?_;(case hd=>rfl);(case hg=>rfl);(case hr=>first | (go_simp;done) | (go_simp;rfl));intro gb168 hg w15 hbox hb;have n0_:=Aside0.mk (Qa3 (g:=gb167) (o:=.cells #[.int .i64 a0_0,.int .i64 a0_1,.int .i64 a0_2] 168 (0,0)) (by (with_reducible repeat (first | refine Qaj ?_ _ | refine Qai ?_ | refine Qak ?_ _));exact BK167.out) hb);have n1_:=Aside0.mk (Qav (by repeat (first | (with_reducible first | exact HB.out | apply Qae | apply Qab | apply Qad | refine Qaf ?_ GE167.out) | exact HB.out)) hb);have n2_:=Aside0.mk (hbox);have n3_:=Aside0.mk ((by rw [hg];exact (Qao (by repeat (first | (with_reducible first | exact HB.out | apply Qae | apply Qab | apply Qad | refine Qaf ?_ GE167.out) | exact HB.out))):w.heap.size≤gb168));have n4_:=Aside0.mk ((by rw [hg];exact (Qao (by repeat (first | (with_reducible first | exact HB.out | apply Qae | apply Qab | apply Qad | refine Qaf ?_ GE167.out) | exact HB.out))):w.heap.size≤gb168));have n5_:=Aside0.mk ((by rw [hg];exact Nat.ne_of_lt (blk_lt (g:=gb167) (o:=.cells #[.int .i64 a0_0,.int .i64 a0_1,.int .i64 a0_2] 168 (0,0)) (by (with_reducible repeat (first | refine Qaj ?_ _ | refine Qai ?_ | refine Qak ?_ _));exact BK167.out)):gb167 ≠ gb168));have n6_:=Aside0.mk ((by rw [hg];exact Nat.ne_of_gt (blk_lt (g:=gb167) (o:=.cells #[.int .i64 a0_0,.int .i64 a0_1,.int .i64 a0_2] 168 (0,0)) (by (with_reducible repeat (first | refine Qaj ?_ _ | refine Qai ?_ | refine Qak ?_ _));exact BK167.out)):gb168 ≠ gb167));clear BK167;clear HB;have BK167:=n0_;have HB:=n1_;have BK168:=n2_;have GW168:=n3_;have GE168:=n4_;have NB167_168:=n5_;have NB168_167:=n6_;clear n0_ n1_ n2_ n3_ n4_ n5_ n6_;clear hb hbox hg;have hnb16:=NB168_167.out;have hnc16:=NB167_168.out;have hcz17_0:w15.cell? ⟨gb168,0,none⟩=some (.bool false):=(Qaa BK168.out 0).trans rfl;have hcz17_1:w15.cell? ⟨gb168,1,none⟩=some (.int .i64 a1_1):=(Qaa BK168.out 1).trans rfl;have hcz17_2:w15.cell? ⟨gb168,2,none⟩=some (.int .u64 a1_2):=(Qaa BK168.out 2).trans rfl;have hfz17_0:=Qac BK168.out 0;have hfz17_1:=Qac BK168.out 1;have hfz17_2:=Qac BK168.out 2;have hcz18_0:w15.cell? ⟨gb167,0,none⟩=some (.int .i64 a0_0):=(Qaa BK167.out 0).trans rfl;have hcz18_1:w15.cell? ⟨gb167,1,none⟩=some (.int .i64 a0_1):=(Qaa BK167.out 1).trans rfl;have hcz18_2:w15.cell? ⟨gb167,2,none⟩=some (.int .i64 a0_2):=(Qaa BK167.out 2).trans rfl;have hfz18_0:=Qac BK167.out 0;have hfz18_1:=Qac BK167.out 1;have hfz18_2:=Qac BK167.out 2));try go_wp2_with (first | ((with_reducible refine Qbb (N:=2) rfl ?_);refine Qa9 ?hg (N:=2) ?hd (cs:=#[.int .i64 a0_0,.int .i64 a0_1,.int .i64 a0_2]) (t:=168) ?hr ?_;(case hd=>rfl);(case hg=>rfl);(case hr=>first | (go_simp;done) | (go_simp;rfl));intro gb167 hg w14 hbox hb;have n0_:=Aside0.mk (Qav (by repeat (first | (with_reducible first | exact HB.out | apply Qae | apply Qab | apply Qad) | exact HB.out)) hb);have n1_:=Aside0.mk (hbox);have n2_:=Aside0.mk ((by rw [hg];exact (Qao (by repeat (first | (with_reducible first | exact HB.out | apply Qae | apply Qab | apply Qad) | exact HB.out))):w.heap.size≤gb167));have n3_:=Aside0.mk ((by rw [hg];exact (Qao (by repeat (first | (with_reducible first | exact HB.out | apply Qae | apply Qab | apply Qad) | exact HB.out))):w.heap.size≤gb167));clear HB;have HB:=n0_;have BK167:=n1_;have GW167:=n2_;have GE167:=n3_;clear n0_ n1_ n2_ n3_;clear hb hbox hg) | ((with_reducible refine Qbb (N:=3) rfl ?_);refine Qa9 ?hg (N:=3) ?hd (cs:=#[.bool false,.int .i64 a1_1,.int .u64 a1_2]) (t:=172) ?hr ?_;(case hd=>rfl);(case hg=>rfl);(case hr=>first | (go_simp;done) | (go_simp;rfl));intro gb168 hg w15 hbox hb;have n0_:=Aside0.mk (Qa3 (g:=gb167) (o:=.cells #[.int .i64 a0_0,.int .i64 a0_1,.int .i64 a0_2] 168 (0,0)) (by (with_reducible repeat (first | refine Qaj ?_ _ | refine Qai ?_ | refine Qak ?_ _));exact BK167.out) hb);have n1_:=Aside0.mk (Qav (by repeat (first | (with_reducible first | exact HB.out | apply Qae | apply Qab | apply Qad | refine Qaf ?_ GE167.out) | exact HB.out)) hb);have n2_:=Aside0.mk (hbox);have n3_:=Aside0.mk ((by rw [hg];exact (Qao (by repeat (first | (with_reducible first | exact HB.out | apply Qae | apply Qab | apply Qad | refine Qaf ?_ GE167.out) | exact HB.out))):w.heap.size≤gb168));have n4_:=Aside0.mk ((by rw [hg];exact (Qao (by repeat (first | (with_reducible first | exact HB.out | apply Qae | apply Qab | apply Qad | refine Qaf ?_ GE167.out) | exact HB.out))):w.heap.size≤gb168));have n5_:=Aside0.mk ((by rw [hg];exact Nat.ne_of_lt (blk_lt (g:=gb167) (o:=.cells #[.int .i64 a0_0,.int .i64 a0_1,.int .i64 a0_2] 168 (0,0)) (by (with_reducible repeat (first | refine Qaj ?_ _ | refine Qai ?_ | refine Qak ?_ _));exact BK167.out)):gb167 ≠ gb168));have n6_:=Aside0.mk ((by rw [hg];exact Nat.ne_of_gt (blk_lt (g:=gb167) (o:=.cells #[.int .i64 a0_0,.int .i64 a0_1,.int .i64 a0_2] 168 (0,0)) (by (with_reducible repeat (first | refine Qaj ?_ _ | refine Qai ?_ | refine Qak ?_ _));exact BK167.out)):gb168 ≠ gb167));clear BK167;clear HB;have BK167:=n0_;have HB:=n1_;have BK168:=n2_;have GW168:=n3_;have GE168:=n4_;have NB167_168:=n5_;have NB168_167:=n6_;clear n0_ n1_ n2_ n3_ n4_ n5_ n6_;clear hb hbox hg;have hnb16:=NB168_167.out;have hnc16:=NB167_168.out;have hcz17_0:w15.cell? ⟨gb168,0,none⟩=some (.bool false):=(Qaa BK168.out 0).trans rfl;have hcz17_1:w15.cell? ⟨gb168,1,none⟩=some (.int .i64 a1_1):=(Qaa BK168.out 1).trans rfl;have hcz17_2:w15.cell? ⟨gb168,2,none⟩=some (.int .u64 a1_2):=(Qaa BK168.out 2).trans rfl;have hfz17_0:=Qac BK168.out 0;have hfz17_1:=Qac BK168.out 1;have hfz17_2:=Qac BK168.out 2;have hcz18_0:w15.cell? ⟨gb167,0,none⟩=some (.int .i64 a0_0):=(Qaa BK167.out 0).trans rfl;have hcz18_1:w15.cell? ⟨gb167,1,none⟩=some (.int .i64 a0_1):=(Qaa BK167.out 1).trans rfl;have hcz18_2:w15.cell? ⟨gb167,2,none⟩=some (.int .i64 a0_2):=(Qaa BK167.out 2).trans rfl;have hfz18_0:=Qac BK167.out 0;have hfz18_1:=Qac BK167.out 1;have hfz18_2:=Qac BK167.out 2)))
     go_ret
     exact ⟨by first | rfl | (simp [errW_none,Qag] <;> rfl) | (simp only [← hji4];first | rfl | (simp [errW_none,Qag] <;> rfl)) | (simp [*,errW_none,Qag] <;> rfl),by repeat (first | (with_reducible first | exact HB.out | apply Qae | apply Qab | apply Qad | refine Qaf ?_ GE167.out | refine Qaf ?_ GE168.out) | exact HB.out)⟩
 · rw [if_neg c3] at H
   exact absurd H (by simp)
end Go.Proofs.YtfmceonbejlhlaaGreatDoor.P
namespace Go.Proofs.YtfmceonbejlhlaaGreatDoor.P
open Go.RowKit Go.Proofs.YtfmceonbejlhlaaGreatDoorW.PrintWords Go.Proofs.YtfmceonbejlhlaaGreatDoorW.PrintLast Go.Proofs.YtfmceonbejlhlaaGreatDoorW.PrintMore
attribute [local go_sem] Qbx Qbw max_two min_two Qbr Qbs Qbv Qbt   -- for this text's walks alone
set_option linter.unusedVariables false
set_option linter.unusedSimpArgs false
def Qa6.j0:Nat→Int→Bool→Option (Int)
 | 0,_,_=>none
 | k+1,x3,x10=>if x10=true then (some 64) else (if x3=3 then (some 8) else (if x3=14 then (some 8) else (some 0)))
def Qa6.f (k:Nat) (a0:Int):Option (Int):=if a0=1 then (some 1) else (if a0=6 then (some 16) else (if a0=7 then (some 32) else (if a0=4 then (Qa6.j0 k a0 (a0 == 4)) else (if a0=8 then (Qa6.j0 k a0 (a0 == 8)) else (Qa6.j0 k a0 (a0 == 13))))))
set_option maxHeartbeats 8000000 in
set_option maxRecDepth 100000 in
theorem Qa6.calls (k:Nat) (a0:Int) (r:Int) (w:World) (h:Qa6.f k a0=some r) :
 Calls Tryz.prog 62 #[.int .i64 a0] w fun e w'=>e=.returned (.int .i64 r)∧Qar w w':=by
 have H:(if a0=1 then (some 1) else (if a0=6 then (some 16) else (if a0=7 then (some 32) else (if a0=4 then (Qa6.j0 k a0 (a0 == 4)) else (if a0=8 then (Qa6.j0 k a0 (a0 == 8)) else (Qa6.j0 k a0 (a0 == 13)))))))=some r:=h
 clear h
 by_cases c2:a0=1
 · rw [if_pos c2] at H
   have c2b0:(a0 == 1)=true:=beq_iff_eq.mpr c2
   have c2b1:(a0 != 1)=false:=bne_eq_false_iff_eq.mpr c2
   clear c2
   obtain rfl:=Option.some.inj H
   go_enter Tryz.func62,Tryz.ntmps62
   go_wp2
   go_ret
   exact ⟨by first | rfl | (simp;done) | (simp [*];done),by repeat (first | exact Qar.refl _ | apply Qar.step)⟩
 · rw [if_neg c2] at H
   have c2b0:(a0 == 1)=false:=beq_eq_false_iff_ne.mpr c2
   have c2b1:(a0 != 1)=true:=bne_iff_ne.mpr c2
   by_cases c3:a0=6
   · rw [if_pos c3] at H
     have c3b0:(a0 == 6)=true:=beq_iff_eq.mpr c3
     have c3b1:(a0 != 6)=false:=bne_eq_false_iff_eq.mpr c3
     clear c3
     obtain rfl:=Option.some.inj H
     go_enter Tryz.func62,Tryz.ntmps62
     go_wp2
     go_ret
     exact ⟨by first | rfl | (simp;done) | (simp [*];done),by repeat (first | exact Qar.refl _ | apply Qar.step)⟩
   · rw [if_neg c3] at H
     have c3b0:(a0 == 6)=false:=beq_eq_false_iff_ne.mpr c3
     have c3b1:(a0 != 6)=true:=bne_iff_ne.mpr c3
     by_cases c4:a0=7
     · rw [if_pos c4] at H
       have c4b0:(a0 == 7)=true:=beq_iff_eq.mpr c4
       have c4b1:(a0 != 7)=false:=bne_eq_false_iff_eq.mpr c4
       clear c4
       obtain rfl:=Option.some.inj H
       go_enter Tryz.func62,Tryz.ntmps62
       go_wp2
       go_ret
       exact ⟨by first | rfl | (simp;done) | (simp [*];done),by repeat (first | exact Qar.refl _ | apply Qar.step)⟩
     · rw [if_neg c4] at H
       have c4b0:(a0 == 7)=false:=beq_eq_false_iff_ne.mpr c4
       have c4b1:(a0 != 7)=true:=bne_iff_ne.mpr c4
       have HC5:=Aside0.mk H
       clear H
       go_enter Tryz.func62,Tryz.ntmps62
       go_upto_if 10 with (fail)
       go_cut [10] (fun v10 wc=>∃ (kq:Nat) (x10_4:Bool),v10=.bool x10_4∧Aside0 (Qa6.j0 kq a0 x10_4=some r)∧Aside0 (kq≤k)∧Qar w wc)
       case first =>
        have H:=HC5.out
        clear HC5
        by_cases c6:a0=4
        · rw [if_pos c6] at H
          have c6b0:(a0 == 4)=true:=beq_iff_eq.mpr c6
          have c6b1:(a0 != 4)=false:=bne_eq_false_iff_eq.mpr c6
          clear c6
          (first | rw [c6b0] | (simp only [i64_w,i32_w];rw [c6b0]) | skip)
          have H':=Aside0.mk H
          clear H
          go_wp2
          go_meet
          case rel => exact ⟨_, ((a0 == 4)), (by first | rfl | (simp; done) | (simp [*]; done)), H', ⟨by first | omega | exact Nat.le_refl _⟩, by repeat (first | exact Qar.refl _ | apply Qar.step)⟩
        · rw [if_neg c6] at H
          have c6b0:(a0 == 4)=false:=beq_eq_false_iff_ne.mpr c6
          have c6b1:(a0 != 4)=true:=bne_iff_ne.mpr c6
          (first | rw [c6b0] | (simp only [i64_w,i32_w];rw [c6b0]) | skip)
          by_cases c7:a0=8
          · rw [if_pos c7] at H
            have c7b0:(a0 == 8)=true:=beq_iff_eq.mpr c7
            have c7b1:(a0 != 8)=false:=bne_eq_false_iff_eq.mpr c7
            clear c7
            have H':=Aside0.mk H
            clear H
            go_wp2
            go_meet
            case rel => exact ⟨_, ((a0 == 8)), (by first | rfl | (simp; done) | (simp [*]; done)), H', ⟨by first | omega | exact Nat.le_refl _⟩, by repeat (first | exact Qar.refl _ | apply Qar.step)⟩
          · rw [if_neg c7] at H
            have c7b0:(a0 == 8)=false:=beq_eq_false_iff_ne.mpr c7
            have c7b1:(a0 != 8)=true:=bne_iff_ne.mpr c7
            have H':=Aside0.mk H
            clear H
            go_wp2
            go_meet
            case rel => exact ⟨_, ((a0 == 13)), (by first | rfl | (simp; done) | (simp [*]; done)), H', ⟨by first | omega | exact Nat.le_refl _⟩, by repeat (first | exact Qar.refl _ | apply Qar.step)⟩
       case rest =>
        clear HC5
        try clear c2
        try clear c2b0
        try clear c2b1
        try clear p2
        try clear c3
        try clear c3b0
        try clear c3b1
        try clear c4
        try clear c4b0
        try clear c4b1
        try clear c6
        try clear c6b0
        try clear c6b1
        try clear c7
        try clear c7b0
        try clear c7b1
        obtain ⟨kq,x10_4,rfl,HA,HJ4,⟨mc4,rfl⟩⟩:=hcut
        cases kq with
        | zero=>exact absurd HA.out (by simp [Qa6.j0])
        | succ kj4 =>
          have H:=HA.out
          clear HA
          simp only [Qa6.j0] at H
          by_cases c8:x10_4=true
          · subst c8
            have H1:(some 64)=some r:=by rw [if_pos rfl] at H;exact H
            clear H
            have H:=H1
            clear H1
            obtain rfl:=Option.some.inj H
            go_wp2
            go_ret
            exact ⟨by first | rfl | (simp;done) | (simp [*];done),by repeat (first | exact Qar.refl _ | apply Qar.step)⟩
          · replace c8:=Bool.eq_false_iff.mpr c8
            subst c8
            have H1:(if a0=3 then (some 8) else (if a0=14 then (some 8) else (some 0)))=some r:=by rw [if_neg (show ¬ (false=true) by decide)] at H;exact H
            clear H
            have H:=H1
            clear H1
            by_cases c9:a0=3
            · rw [if_pos c9] at H
              have c9b0:(a0 == 3)=true:=beq_iff_eq.mpr c9
              have c9b1:(a0 != 3)=false:=bne_eq_false_iff_eq.mpr c9
              clear c9
              obtain rfl:=Option.some.inj H
              go_wp2
              go_ret
              exact ⟨by first | rfl | (simp;done) | (simp [*];done),by repeat (first | exact Qar.refl _ | apply Qar.step)⟩
            · rw [if_neg c9] at H
              have c9b0:(a0 == 3)=false:=beq_eq_false_iff_ne.mpr c9
              have c9b1:(a0 != 3)=true:=bne_iff_ne.mpr c9
              by_cases c10:a0=14
              · rw [if_pos c10] at H
                have c10b0:(a0 == 14)=true:=beq_iff_eq.mpr c10
                have c10b1:(a0 != 14)=false:=bne_eq_false_iff_eq.mpr c10
                clear c10
                obtain rfl:=Option.some.inj H
                go_wp2
                go_ret
                exact ⟨by first | rfl | (simp;done) | (simp [*];done),by repeat (first | exact Qar.refl _ | apply Qar.step)⟩
              · rw [if_neg c10] at H
                have c10b0:(a0 == 14)=false:=beq_eq_false_iff_ne.mpr c10
                have c10b1:(a0 != 14)=true:=bne_iff_ne.mpr c10
                obtain rfl:=Option.some.inj H
                go_wp2
                go_ret
                exact ⟨by first | rfl | (simp;done) | (simp [*];done),by repeat (first | exact Qar.refl _ | apply Qar.step)⟩
end Go.Proofs.YtfmceonbejlhlaaGreatDoor.P
namespace Go.Proofs.YtfmceonbejlhlaaGreatDoor.P
open Go.RowKit Go.Proofs.YtfmceonbejlhlaaGreatDoorW.PrintWords Go.Proofs.YtfmceonbejlhlaaGreatDoorW.PrintLast Go.Proofs.YtfmceonbejlhlaaGreatDoorW.PrintMore
attribute [local go_sem] Qbx Qbw max_two min_two Qbr Qbs Qbv Qbt   -- for this text's walks alone
set_option linter.unusedVariables false
set_option linter.unusedSimpArgs false
def utf_Check.f (a0:ByteArray):Option (Int × Int):=if a0.size≤9223372036854775807 then some (chk a0) else none
theorem utf_Check.calls (a0:ByteArray) (r1 r2:Int) (w:World) (h:utf_Check.f a0=some (r1,r2)) :
 Calls Tryz.prog 63 #[.string a0] w fun e w'=>e=.returned (.tuple #[.int .i64 r1,.int .i64 r2])∧Below w.heap.size w w':=by
 unfold utf_Check.f at h
 split at h
 · rename_i hs
   have h':=Option.some.inj h
   refine (check_any a0 w hs).mono ?_
   rintro e w' ⟨he,hw⟩
   rw [h'] at he
   exact ⟨he,hw⟩
 · cases h
end Go.Proofs.YtfmceonbejlhlaaGreatDoor.P
namespace Go.Proofs.YtfmceonbejlhlaaGreatDoor.P
open Go.RowKit Go.Proofs.YtfmceonbejlhlaaGreatDoorW.PrintWords Go.Proofs.YtfmceonbejlhlaaGreatDoorW.PrintLast Go.Proofs.YtfmceonbejlhlaaGreatDoorW.PrintMore
attribute [local go_sem] Qbx Qbw max_two min_two Qbr Qbs Qbv Qbt   -- for this text's walks alone
set_option linter.unusedVariables false
set_option linter.unusedSimpArgs false
def Qb4.f (a0:ByteArray):Option (Bool):=if (a0.size:Int) > 8 then (if (a0.size:Int)≤512 then (if 0<(a0.size:Int) then (some ((bt a0 0) != 0)) else (none)) else (some false)) else (some false)
set_option maxHeartbeats 8000000 in
set_option maxRecDepth 100000 in
theorem Qb4.calls (a0:ByteArray) (r:Bool) (w:World) (h:Qb4.f a0=some r) :
 Calls Tryz.prog 64 #[.string a0] w fun e w'=>e=.returned (.bool r)∧Qar w w':=by
 have H:(if (a0.size:Int) > 8 then (if (a0.size:Int)≤512 then (if 0<(a0.size:Int) then (some ((bt a0 0) != 0)) else (none)) else (some false)) else (some false))=some r:=h
 clear h
 by_cases c2:(a0.size:Int) > 8
 · rw [if_pos c2] at H
   have c2b0:decide (8<(a0.size:Int))=true:=decide_eq_true c2
   have c2b1:decide (8<a0.size)=true:=decide_eq_true (by omega)
   clear c2
   by_cases c3:(a0.size:Int)≤512
   · rw [if_pos c3] at H
     have c3b0:decide ((a0.size:Int)≤512)=true:=decide_eq_true c3
     have c3b1:decide (a0.size≤512)=true:=decide_eq_true (by omega)
     clear c3
     by_cases c4:0<(a0.size:Int)
     · rw [if_pos c4] at H
       have c4b0:decide (0<(a0.size:Int))=true:=decide_eq_true c4
       have c4b1:decide (0<a0.size)=true:=decide_eq_true (by omega)
       clear c4
       obtain rfl:=Option.some.inj H
       have p5:0≤(0:Int):=(by omega)
       have q5:0<a0.size:=(by have:(0:Int)<(a0.size:Int):=of_decide_eq_true (by first | (with_reducible assumption) | assumption);omega)
       have hx5:∀ h:0<a0.size,((a0[0]'h).toNat:Int)=bt a0 0:=bt_at a0 0
       clear p5
       have qi5:(0<(a0.size:Int))=True:=eq_true (of_decide_eq_true (by first | (with_reducible assumption) | assumption))
       replace q5:=eq_true q5
       go_enter Tryz.func64,Tryz.ntmps64
       go_wp2
       go_ret
       exact ⟨by first | rfl | (simp;done) | (simp [*];done),by repeat (first | exact Qar.refl _ | apply Qar.step)⟩
     · rw [if_neg c4] at H
       exact absurd H (by simp)
   · rw [if_neg c3] at H
     have c3b0:decide ((a0.size:Int)≤512)=false:=decide_eq_false c3
     have c3b1:decide (a0.size≤512)=false:=decide_eq_false (by omega)
     clear c3
     obtain rfl:=Option.some.inj H
     go_enter Tryz.func64,Tryz.ntmps64
     go_wp2
     go_ret
     exact ⟨by first | rfl | (simp;done) | (simp [*];done),by repeat (first | exact Qar.refl _ | apply Qar.step)⟩
 · rw [if_neg c2] at H
   have c2b0:decide (8<(a0.size:Int))=false:=decide_eq_false c2
   have c2b1:decide (8<a0.size)=false:=decide_eq_false (by omega)
   clear c2
   obtain rfl:=Option.some.inj H
   go_enter Tryz.func64,Tryz.ntmps64
   go_wp2
   go_ret
   exact ⟨by first | rfl | (simp;done) | (simp [*];done),by repeat (first | exact Qar.refl _ | apply Qar.step)⟩
end Go.Proofs.YtfmceonbejlhlaaGreatDoor.P
