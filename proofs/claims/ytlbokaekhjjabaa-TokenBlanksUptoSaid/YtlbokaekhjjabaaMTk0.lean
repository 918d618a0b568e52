import Derived.Test.YtlbokaekhjjabaaProg
import Derived.WalkKit
import Derived.WalkSpells
import Derived.WalkLawsBesides
import Derived.KernelRfl
import Derived.Deep.WholeRow
import Derived.Lib.Hide
import Derived.Laws.CopyOwn
import Derived.Test.YtlbokaekhjjabaaWMore
import Derived.RangeFuncBox
import Derived.StillTailTactics
import Derived.Deep.AppendLies
import Derived.Laws.OwnMore
import Derived.Maps.AppendAt
import Derived.Laws.BytesArg
import Derived.Laws.MakeOwn
import Derived.Deep.QuietTactic
import Derived.BigQuiet
import Derived.Laws.BitsLemmas
import Derived.Below
import Derived.Deep.Draws
import Derived.OwnWalk
import Derived.Deep.OwnRows
import Derived.Tactics
import Derived.Lib.ConvBytes
import Derived.Laws.Slices
import Derived.RowKit3
import Derived.Deep.LoopGhost
import Derived.WideLaws
import Derived.Deep.DeepCutAuto
import Derived.Deep.CutBlock
import Derived.Deep.RegionHeld3
import Derived.Laws.Rows
import Derived.Lib.AppendStr
import Derived.ArgAppend
import Derived.Laws.IdiomCopy
import Derived.OrdersHeld
import Derived.RowKit
import Derived.Test.YtlbokaekhjjabaaWWords
import Derived.Test.YtlbokaekhjjabaaWLast
import Derived.Test.YtlbokaekhjjabaaWRepsOne
namespace Go.Proofs.Ytlbokaekhjjabaa
open Go.RowKit

/-- The rows of first bytes, cell by cell. -/
def leadCells : Array Value := #[.int .u8 0, .int .u8 127, .int .i64 1, .int .u8 0, .int .u8 0,
  .int .u8 194, .int .u8 223, .int .i64 2, .int .u8 128, .int .u8 191,
  .int .u8 224, .int .u8 224, .int .i64 3, .int .u8 160, .int .u8 191,
  .int .u8 225, .int .u8 236, .int .i64 3, .int .u8 128, .int .u8 191,
  .int .u8 237, .int .u8 237, .int .i64 3, .int .u8 128, .int .u8 159,
  .int .u8 238, .int .u8 239, .int .i64 3, .int .u8 128, .int .u8 191,
  .int .u8 240, .int .u8 240, .int .i64 4, .int .u8 144, .int .u8 191,
  .int .u8 241, .int .u8 243, .int .i64 4, .int .u8 128, .int .u8 191,
  .int .u8 244, .int .u8 244, .int .i64 4, .int .u8 128, .int .u8 143]

set_option maxHeartbeats 400000 in
set_option maxRecDepth 100000 in
theorem leads_any (w : World) :
    Calls Try.prog 68 #[] w fun e w' => e = .returned (.agg leadCells) ∧ w' = w.alloc (.cells leadCells 98) := by
  go_enter Try.func68, Try.ntmps68
  go_wp2_with (refine wpList_store_row rfl 98 (.tmp 0) (.tmp 10) rfl w.heap.size leadCells rfl rfl 98 _ (heap_alloc_last w _) (by kernel_rfl) (by kernel_rfl) (by kernel_rfl) ?_)
  rw [World.setRow_alloc_new]
  exact bodyPost_ret (v := .agg leadCells) (results_cell_row (p := 0) (ty := 98) rfl _ _ w.heap.size 98 leadCells (0, 0) _ rfl (heap_alloc_last w _) Try.underlying98 rfl (by kernel_rfl)) rfl ⟨rfl, rfl⟩


/-- The rows as numbers: first, last, how many bytes, least and most of the second. -/
def leadRows : List (Int × Int × Int × Int × Int) := [(0, 127, 1, 0, 0), (194, 223, 2, 128, 191), (224, 224, 3, 160, 191), (225, 236, 3, 128, 191), (237, 237, 3, 128, 159), (238, 239, 3, 128, 191), (240, 240, 4, 144, 191), (241, 243, 4, 128, 191), (244, 244, 4, 128, 143)]
/-- The row of a byte. -/
def rowOf : List (Int × Int × Int × Int × Int) → Int → Int × Int × Int × Int × Int
  | [], _ => (0, 0, 0, 0, 0)
  | r :: t, c => if r.1 ≤ c ∧ c ≤ r.2.1 then r else rowOf t c
def aggOf (r : Int × Int × Int × Int × Int) : Array Value := #[.int .u8 r.1, .int .u8 r.2.1, .int .i64 r.2.2.1, .int .u8 r.2.2.2.1, .int .u8 r.2.2.2.2]
theorem drop_hit {l : List (Int × Int × Int × Int × Int)} {r : Int × Int × Int × Int × Int} {t : List (Int × Int × Int × Int × Int)} {c : Int} (h : l = r :: t) (h1 : r.1 ≤ c) (h2 : c ≤ r.2.1) : rowOf l c = r := by
  subst h; simp [rowOf, h1, h2]
theorem drop_miss {l : List (Int × Int × Int × Int × Int)} {r : Int × Int × Int × Int × Int} {t : List (Int × Int × Int × Int × Int)} {c : Int} (h : l = r :: t) (h1 : ¬ (r.1 ≤ c ∧ c ≤ r.2.1)) : rowOf l c = rowOf t c := by
  subst h; simp [rowOf, h1]
def Row (c : Int) (w : World) (e : Ending) (w' : World) : Prop := e = .returned (.agg (aggOf (rowOf leadRows c))) ∧ Below w.heap.size w w'

theorem lead_size : (Try.prog.info? 77).map (·.size) = some 5 := by kernel_rfl
theorem agg_one (r : Int × Int × Int × Int × Int) : (aggOf r).all (·.oneCell') = true := by simp [aggOf, Value.oneCell']
theorem drop_lead {k : Nat} (hk : k < 9) {r : Int × Int × Int × Int × Int} (h : leadRows.getD k (0,0,0,0,0) = r) : leadRows.drop k = r :: leadRows.drop (k + 1) := by
  subst h
  match k, hk with
  | 0, _ => rfl
  | 1, _ => rfl
  | 2, _ => rfl
  | 3, _ => rfl
  | 4, _ => rfl
  | 5, _ => rfl
  | 6, _ => rfl
  | 7, _ => rfl
  | 8, _ => rfl

set_option maxRecDepth 100000 in
theorem index_lead (k : Nat) (hk : k < 9) (W : World) : (Instr.index 98 (.agg leadCells) (.int .i64 (k : Int))).run Try.prog W = .ok (.agg (aggOf (leadRows.getD k (0,0,0,0,0)))) W := by
  match k, hk with
  | 0, _ => exact (by kernel_rfl : (Instr.index 98 (.agg leadCells) (.int .i64 0)).run Try.prog W = .ok (.agg (aggOf (leadRows.getD 0 (0,0,0,0,0)))) W)
  | 1, _ => exact (by kernel_rfl : (Instr.index 98 (.agg leadCells) (.int .i64 1)).run Try.prog W = .ok (.agg (aggOf (leadRows.getD 1 (0,0,0,0,0)))) W)
  | 2, _ => exact (by kernel_rfl : (Instr.index 98 (.agg leadCells) (.int .i64 2)).run Try.prog W = .ok (.agg (aggOf (leadRows.getD 2 (0,0,0,0,0)))) W)
  | 3, _ => exact (by kernel_rfl : (Instr.index 98 (.agg leadCells) (.int .i64 3)).run Try.prog W = .ok (.agg (aggOf (leadRows.getD 3 (0,0,0,0,0)))) W)
  | 4, _ => exact (by kernel_rfl : (Instr.index 98 (.agg leadCells) (.int .i64 4)).run Try.prog W = .ok (.agg (aggOf (leadRows.getD 4 (0,0,0,0,0)))) W)
  | 5, _ => exact (by kernel_rfl : (Instr.index 98 (.agg leadCells) (.int .i64 5)).run Try.prog W = .ok (.agg (aggOf (leadRows.getD 5 (0,0,0,0,0)))) W)
  | 6, _ => exact (by kernel_rfl : (Instr.index 98 (.agg leadCells) (.int .i64 6)).run Try.prog W = .ok (.agg (aggOf (leadRows.getD 6 (0,0,0,0,0)))) W)
  | 7, _ => exact (by kernel_rfl : (Instr.index 98 (.agg leadCells) (.int .i64 7)).run Try.prog W = .ok (.agg (aggOf (leadRows.getD 7 (0,0,0,0,0)))) W)
  | 8, _ => exact (by kernel_rfl : (Instr.index 98 (.agg leadCells) (.int .i64 8)).run Try.prog W = .ok (.agg (aggOf (leadRows.getD 8 (0,0,0,0,0)))) W)

set_option maxHeartbeats 1000000 in
set_option maxRecDepth 100000 in
theorem row_any (c : Int) (w : World) :
    Calls Try.prog 47 #[.int .u8 c] w (Row c w) := by
  go_enter Try.func47, Try.ntmps47
  go_wp2_with (go_at_call 68; refine (leads_any _).mono ?_; rintro e w' ⟨rfl, rfl⟩)
  go_loopw [6] (fun i wr => ∃ k : Nat, k ≤ 9 ∧ i = .int .i64 k ∧ Hid (rowOf leadRows c = rowOf (leadRows.drop k) c) ∧ wr.heap[w.heap.size]? = some (.cells (aggOf (0,0,0,0,0)) 77 (0, 0)) ∧ Below w.heap.size w wr) (fun i _ => 9 - (intOf i).toNat)
  case atStart => exact ⟨0, by omega, rfl, rfl, (Below.heap_alloc _ _ _ (by simp)).trans (heap_alloc_new _ _), ((Below.refl _ _).alloc (by simp) _).alloc (by simp) _⟩
  case round =>
    obtain ⟨k, hk, rfl, hrow, hcell, hb⟩ := hrel
    by_cases hlt : k < 9
    · have i0 := index_lead k hlt
      obtain ⟨a, b, n, l, m, hr⟩ : ∃ a b n l m, leadRows.getD k (0,0,0,0,0) = (a, b, n, l, m) := ⟨_, _, _, _, _, rfl⟩
      have hd := drop_lead hlt hr
      rw [hr] at i0
      have H2 := Lib.hid hd
      clear hr hd
      simp only [aggOf] at i0
      have hcell' : ∀ o, (wr.alloc o).heap[w.heap.size]? = some (.cells (aggOf (0,0,0,0,0)) 77 (0, 0)) := fun o => (Below.heap_alloc _ _ _ (block_lt_of_cell (cell_of_row _ _ 0 _ _ _ hcell))).trans hcell
      by_cases ha : a ≤ c
      · by_cases hc : c ≤ b
        · go_wp2_with ((refine wpList_store_row rfl 77 (.tmp 2) (.tmp 19) rfl w.heap.size #[.int .u8 a, .int .u8 b, .int .i64 n, .int .u8 l, .int .u8 m] rfl rfl 77 _ (hcell' _) lead_size rfl (agg_one (a, b, n, l, m)) ?_))
          have hf := (hrow.out.trans (drop_hit H2.out ha hc)).symm
          refine bodyPost_ret (v := .agg #[.int .u8 a, .int .u8 b, .int .i64 n, .int .u8 l, .int .u8 m]) (results_cell_row (p := 2) (ty := 77) rfl _ _ w.heap.size 77 #[.int .u8 a, .int .u8 b, .int .i64 n, .int .u8 l, .int .u8 m] (0, 0) _ rfl (setRow_heap _ _ _ _ _ _ (hcell' _)) Try.underlying77 rfl lead_size) rfl ⟨?_, below_setRow (hb.alloc hb.size _) (Nat.le_refl _) _⟩
          rw [← hf]; rfl
        · go_wp2
          go_roundw
          case rel => exact ⟨k + 1, by omega, by go_num, hrow.out.trans (drop_miss H2.out (fun h => hc h.2)), hcell' _, hb.alloc hb.size _⟩
          case measure => simp [intOf]; omega
      · go_wp2
        go_roundw
        case rel => exact ⟨k + 1, by omega, by go_num, hrow.out.trans (drop_miss H2.out (fun h => ha h.1)), hcell' _, hb.alloc hb.size _⟩
        case measure => simp [intOf]; omega
    · obtain rfl : k = 9 := by omega
      go_wp2_with (refine wpList_store_row rfl 77 (.tmp 2) (.tmp 21) rfl w.heap.size #[.int .u8 0, .int .u8 0, .int .i64 0, .int .u8 0, .int .u8 0] rfl rfl 77 _ hcell lead_size rfl (agg_one (0, 0, 0, 0, 0)) ?_)
      have hf : rowOf leadRows c = (0, 0, 0, 0, 0) := hrow.out
      refine bodyPost_ret (v := .agg #[.int .u8 0, .int .u8 0, .int .i64 0, .int .u8 0, .int .u8 0]) (results_cell_row (p := 2) (ty := 77) rfl _ _ w.heap.size 77 #[.int .u8 0, .int .u8 0, .int .i64 0, .int .u8 0, .int .u8 0] (0, 0) _ rfl (setRow_heap _ _ _ _ _ _ hcell) Try.underlying77 rfl lead_size) rfl ⟨?_, below_setRow hb (Nat.le_refl _) _⟩
      rw [hf]; rfl
end Go.Proofs.Ytlbokaekhjjabaa

/-
  Plain words for UTF-8: the machine's states, what a whole text is told, code points. No program in sight.
-/
namespace Go.Proofs.Ytlbokaekhjjabaa

/-- How many bytes are left; the next between what. -/
abbrev St := Int × Int × Int
def st0 : St := (0, 0, 0)

/-- One byte; room: so many bytes may follow at most (below 0: any number). -/
def stp (st : St) (c room : Int) : Option St :=
  if st.1 > 0 then (if c < st.2.1 ∨ c > st.2.2 then none else some (st.1 - 1, 128, 191))
  else if (rowOf leadRows c).2.2.1 = 0 ∨ (0 ≤ room ∧ (rowOf leadRows c).2.2.1 - 1 > room) then none
  else some ((rowOf leadRows c).2.2.1 - 1, (rowOf leadRows c).2.2.2.1, (rowOf leadRows c).2.2.2.2)

theorem rowOf_n (c : Int) : 0 ≤ (rowOf leadRows c).2.2.1 ∧ (rowOf leadRows c).2.2.1 ≤ 4 := by
  simp only [leadRows, rowOf]
  repeat' split
  all_goals simp

theorem stp_left {st st' : St} {c room : Int} (h : stp st c room = some st') (h0 : 0 ≤ st.1 ∧ st.1 ≤ 3) : 0 ≤ st'.1 ∧ st'.1 ≤ 3 := by
  have hn := rowOf_n c
  unfold stp at h
  split at h
  · split at h
    · cases h
    · cases h; simp; omega
  · split at h
    · cases h
    · cases h; simp; omega

/-- All of a text from a state on, its place the one ahead: how many bytes, the error (0, 3, 4). -/
def chkL : List UInt8 → St → Int → Int × Int
  | [], st, i => if st.1 > 0 then (i, 3) else (i, 0)
  | c :: t, st, i => match stp st c.toNat (-1) with
    | none => (i, 4)
    | some st' => chkL t st' (i + 1)
def chk (s : ByteArray) : Int × Int := chkL s.data.toList st0 0

/-- Likewise within n bytes. -/
def wthL (n : Int) : List UInt8 → St → Int → Int × Int
  | [], _, i => if i < n then (i, 3) else (n, 0)
  | c :: t, st, i => if i < n then (match stp st c.toNat (n - 1 - i) with
    | none => (i, 4)
    | some st' => wthL n t st' (i + 1)) else (n, 0)
def wth (s : ByteArray) (n : Int) : Int × Int := wthL (max n 0) s.data.toList st0 0

end Go.Proofs.Ytlbokaekhjjabaa

/-
  The walk of utf's step, wherever its state lies (a block of its own, or inside another struct): it computes 'stp'.
-/
namespace Go.Proofs.Ytlbokaekhjjabaa
open Go.RowKit

/-- The three cells of a state are turned, and nothing else that was there. -/
def Turned (g o : Nat) (st : St) (w w' : World) : Prop :=
  ∃ w1, Below w.heap.size w w1 ∧ w' = ((w1.setCell ⟨g, o, none⟩ (.int .i64 st.1)).setCell ⟨g, o + 1, none⟩ (.int .u8 st.2.1)).setCell ⟨g, o + 2, none⟩ (.int .u8 st.2.2)

def StepYes (g o : Nat) (st : St) (w : World) (e : Ending) (w' : World) : Prop := e = .returned (.bool true) ∧ Turned g o st w w'
def StepNo (w : World) (e : Ending) (w' : World) : Prop := e = .returned (.bool false) ∧ Below w.heap.size w w'

theorem lt_of_cell {w : World} {g o : Nat} {v : Value} (h : w.cell? ⟨g, o, none⟩ = some v) : g < w.heap.size := block_lt_of_cell h



set_option maxHeartbeats 1000000 in
set_option maxRecDepth 100000 in
theorem step_in (g o : Nat) (a l m : Int) (c room : Int) (w : World) (h0 : 0 < a) (h3 : a ≤ 3)
    (c0 : w.cell? ⟨g, o, none⟩ = some (.int .i64 a)) (c1 : w.cell? ⟨g, o + 1, none⟩ = some (.int .u8 l)) (c2 : w.cell? ⟨g, o + 2, none⟩ = some (.int .u8 m))
    (f0 : w.frozen? ⟨g, o, none⟩ = false) (f1 : w.frozen? ⟨g, o + 1, none⟩ = false) (f2 : w.frozen? ⟨g, o + 2, none⟩ = false) (hl : l ≤ c) (hm : c ≤ m) :
    Calls Try.prog 45 #[.pointer (some ⟨g, o, none⟩), .int .u8 c, .int .i64 room] w (StepYes g o (a - 1, 128, 191) w) := by
  go_enter Try.func45, Try.ntmps45
  go_wp2
  go_ret
  exact ⟨rfl, w, Below.refl _ _, rfl⟩

set_option maxHeartbeats 1000000 in
set_option maxRecDepth 100000 in
theorem step_low (g o : Nat) (a l : Int) (c room : Int) (w : World) (h0 : 0 < a)
    (c0 : w.cell? ⟨g, o, none⟩ = some (.int .i64 a)) (c1 : w.cell? ⟨g, o + 1, none⟩ = some (.int .u8 l)) (hl : c < l) :
    Calls Try.prog 45 #[.pointer (some ⟨g, o, none⟩), .int .u8 c, .int .i64 room] w (StepNo w) := by
  go_enter Try.func45, Try.ntmps45
  go_wp2
  go_ret
  exact ⟨rfl, Below.refl _ _⟩

set_option maxHeartbeats 1000000 in
set_option maxRecDepth 100000 in
theorem step_high (g o : Nat) (a l m : Int) (c room : Int) (w : World) (h0 : 0 < a)
    (c0 : w.cell? ⟨g, o, none⟩ = some (.int .i64 a)) (c1 : w.cell? ⟨g, o + 1, none⟩ = some (.int .u8 l)) (c2 : w.cell? ⟨g, o + 2, none⟩ = some (.int .u8 m)) (hl : l ≤ c) (hm : m < c) :
    Calls Try.prog 45 #[.pointer (some ⟨g, o, none⟩), .int .u8 c, .int .i64 room] w (StepNo w) := by
  go_enter Try.func45, Try.ntmps45
  go_wp2
  go_ret
  exact ⟨rfl, Below.refl _ _⟩

set_option maxHeartbeats 1000000 in
set_option maxRecDepth 100000 in
theorem step_none (g o : Nat) (a : Int) (c room : Int) (w : World) (h0 : a ≤ 0)
    (c0 : w.cell? ⟨g, o, none⟩ = some (.int .i64 a)) (hn : (rowOf leadRows c).2.2.1 = 0) :
    Calls Try.prog 45 #[.pointer (some ⟨g, o, none⟩), .int .u8 c, .int .i64 room] w (StepNo w) := by
  obtain ⟨q1, q2, n, q3, q4, hr⟩ : ∃ q1 q2 n q3 q4, rowOf leadRows c = (q1, q2, n, q3, q4) := ⟨_, _, _, _, _, rfl⟩
  rw [hr] at hn
  obtain rfl : n = 0 := hn
  have HR := Lib.hid hr
  clear hr
  go_enter Try.func45, Try.ntmps45
  go_wp2_with (go_at_call 47; refine (row_any c _).mono ?_; rintro e w1 ⟨rfl, hb1⟩; rw [HR.out]; unfold aggOf; dsimp only)
  go_ret
  exact ⟨rfl, hb1.alloc hb1.size _⟩

set_option maxHeartbeats 1000000 in
set_option maxRecDepth 100000 in
theorem step_room (g o : Nat) (a : Int) (c room : Int) (w : World) (h0 : a ≤ 0)
    (c0 : w.cell? ⟨g, o, none⟩ = some (.int .i64 a)) (hn : ¬ (rowOf leadRows c).2.2.1 = 0) (hr0 : 0 ≤ room) (hr1 : room < (rowOf leadRows c).2.2.1 - 1) :
    Calls Try.prog 45 #[.pointer (some ⟨g, o, none⟩), .int .u8 c, .int .i64 room] w (StepNo w) := by
  have hb4 := rowOf_n c
  obtain ⟨q1, q2, n, q3, q4, hr⟩ : ∃ q1 q2 n q3 q4, rowOf leadRows c = (q1, q2, n, q3, q4) := ⟨_, _, _, _, _, rfl⟩
  rw [hr] at hn hr1 hb4
  dsimp only at hn hr1 hb4
  obtain ⟨hb4, hb5⟩ := hb4
  have hn' : (n == 0) = false := by simpa using hn
  have HR := Lib.hid hr
  clear hr
  go_enter Try.func45, Try.ntmps45
  go_wp2_with (go_at_call 47; refine (row_any c _).mono ?_; rintro e w1 ⟨rfl, hb1⟩; rw [HR.out]; unfold aggOf; dsimp only)
  go_ret
  exact ⟨rfl, hb1.alloc hb1.size _⟩

set_option maxHeartbeats 1000000 in
set_option maxRecDepth 100000 in
theorem step_first (g o : Nat) (a l m : Int) (c room : Int) (w : World) (h0 : a ≤ 0)
    (c0 : w.cell? ⟨g, o, none⟩ = some (.int .i64 a)) (c1 : w.cell? ⟨g, o + 1, none⟩ = some (.int .u8 l)) (c2 : w.cell? ⟨g, o + 2, none⟩ = some (.int .u8 m))
    (f0 : w.frozen? ⟨g, o, none⟩ = false) (f1 : w.frozen? ⟨g, o + 1, none⟩ = false) (f2 : w.frozen? ⟨g, o + 2, none⟩ = false) (hn : ¬ (rowOf leadRows c).2.2.1 = 0) (hr0 : 0 ≤ room) (hr1 : (rowOf leadRows c).2.2.1 - 1 ≤ room) :
    Calls Try.prog 45 #[.pointer (some ⟨g, o, none⟩), .int .u8 c, .int .i64 room] w (StepYes g o ((rowOf leadRows c).2.2.1 - 1, (rowOf leadRows c).2.2.2.1, (rowOf leadRows c).2.2.2.2) w) := by
  have hb4 := rowOf_n c
  obtain ⟨q1, q2, n, q3, q4, hr⟩ : ∃ q1 q2 n q3 q4, rowOf leadRows c = (q1, q2, n, q3, q4) := ⟨_, _, _, _, _, rfl⟩
  rw [hr] at hn hr1 hb4 ⊢
  dsimp only at hn hr1 hb4 ⊢
  obtain ⟨hb4, hb5⟩ := hb4
  have hn' : (n == 0) = false := by simpa using hn
  have HR := Lib.hid hr
  have hlt := lt_of_cell c0
  clear hr
  go_enter Try.func45, Try.ntmps45
  go_wp2_with (go_at_call 47; refine (row_any c _).mono ?_; rintro e w1 ⟨rfl, hb1⟩; rw [HR.out]; unfold aggOf; dsimp only; have hsz := hb1.size; have hb2 := fun ob => hb1.alloc hb1.size ob; have d0 := fun ob => ((hb2 ob).cell (p := ⟨g, o, none⟩) hlt).trans c0; have d1 := fun ob => ((hb2 ob).cell (p := ⟨g, o + 1, none⟩) hlt).trans c1; have d2 := fun ob => ((hb2 ob).cell (p := ⟨g, o + 2, none⟩) hlt).trans c2; have e0 := fun ob => ((hb2 ob).frozen (p := ⟨g, o, none⟩) hlt).trans f0; have e1 := fun ob => ((hb2 ob).frozen (p := ⟨g, o + 1, none⟩) hlt).trans f1; have e2 := fun ob => ((hb2 ob).frozen (p := ⟨g, o + 2, none⟩) hlt).trans f2; clear hb2)
  go_ret
  exact ⟨rfl, _, hb1.alloc hb1.size _, rfl⟩

set_option maxHeartbeats 1000000 in
set_option maxRecDepth 100000 in
theorem step_free (g o : Nat) (a l m : Int) (c room : Int) (w : World) (h0 : a ≤ 0)
    (c0 : w.cell? ⟨g, o, none⟩ = some (.int .i64 a)) (c1 : w.cell? ⟨g, o + 1, none⟩ = some (.int .u8 l)) (c2 : w.cell? ⟨g, o + 2, none⟩ = some (.int .u8 m))
    (f0 : w.frozen? ⟨g, o, none⟩ = false) (f1 : w.frozen? ⟨g, o + 1, none⟩ = false) (f2 : w.frozen? ⟨g, o + 2, none⟩ = false) (hn : ¬ (rowOf leadRows c).2.2.1 = 0) (hr0 : room < 0) :
    Calls Try.prog 45 #[.pointer (some ⟨g, o, none⟩), .int .u8 c, .int .i64 room] w (StepYes g o ((rowOf leadRows c).2.2.1 - 1, (rowOf leadRows c).2.2.2.1, (rowOf leadRows c).2.2.2.2) w) := by
  have hb4 := rowOf_n c
  obtain ⟨q1, q2, n, q3, q4, hr⟩ : ∃ q1 q2 n q3 q4, rowOf leadRows c = (q1, q2, n, q3, q4) := ⟨_, _, _, _, _, rfl⟩
  rw [hr] at hn hb4 ⊢
  dsimp only at hn hb4 ⊢
  obtain ⟨hb4, hb5⟩ := hb4
  have hn' : (n == 0) = false := by simpa using hn
  have HR := Lib.hid hr
  have hlt := lt_of_cell c0
  clear hr
  go_enter Try.func45, Try.ntmps45
  go_wp2_with (go_at_call 47; refine (row_any c _).mono ?_; rintro e w1 ⟨rfl, hb1⟩; rw [HR.out]; unfold aggOf; dsimp only; have hsz := hb1.size; have hb2 := fun ob => hb1.alloc hb1.size ob; have d0 := fun ob => ((hb2 ob).cell (p := ⟨g, o, none⟩) hlt).trans c0; have d1 := fun ob => ((hb2 ob).cell (p := ⟨g, o + 1, none⟩) hlt).trans c1; have d2 := fun ob => ((hb2 ob).cell (p := ⟨g, o + 2, none⟩) hlt).trans c2; have e0 := fun ob => ((hb2 ob).frozen (p := ⟨g, o, none⟩) hlt).trans f0; have e1 := fun ob => ((hb2 ob).frozen (p := ⟨g, o + 1, none⟩) hlt).trans f1; have e2 := fun ob => ((hb2 ob).frozen (p := ⟨g, o + 2, none⟩) hlt).trans f2; clear hb2)
  go_ret
  exact ⟨rfl, _, hb1.alloc hb1.size _, rfl⟩

/-- The whole step. -/
theorem step_ok (g o : Nat) (st st' : St) (c room : Int) (w : World) (h0 : 0 ≤ st.1 ∧ st.1 ≤ 3)
    (c0 : w.cell? ⟨g, o, none⟩ = some (.int .i64 st.1)) (c1 : w.cell? ⟨g, o + 1, none⟩ = some (.int .u8 st.2.1)) (c2 : w.cell? ⟨g, o + 2, none⟩ = some (.int .u8 st.2.2))
    (f0 : w.frozen? ⟨g, o, none⟩ = false) (f1 : w.frozen? ⟨g, o + 1, none⟩ = false) (f2 : w.frozen? ⟨g, o + 2, none⟩ = false) (h : stp st c room = some st') :
    Calls Try.prog 45 #[.pointer (some ⟨g, o, none⟩), .int .u8 c, .int .i64 room] w (StepYes g o st' w) := by
  unfold stp at h
  split at h
  · rename_i hg
    split at h
    · cases h
    · rename_i hr
      cases h
      exact step_in g o st.1 st.2.1 st.2.2 c room w hg h0.2 c0 c1 c2 f0 f1 f2 (by omega) (by omega)
  · rename_i hg
    split at h
    · cases h
    · rename_i hr
      cases h
      have hn : ¬ (rowOf leadRows c).2.2.1 = 0 := fun e => hr (.inl e)
      by_cases hp : 0 ≤ room
      · exact step_first g o st.1 st.2.1 st.2.2 c room w (by omega) c0 c1 c2 f0 f1 f2 hn hp (by omega)
      · exact step_free g o st.1 st.2.1 st.2.2 c room w (by omega) c0 c1 c2 f0 f1 f2 hn (by omega)
theorem step_no (g o : Nat) (st : St) (c room : Int) (w : World)
    (c0 : w.cell? ⟨g, o, none⟩ = some (.int .i64 st.1)) (c1 : w.cell? ⟨g, o + 1, none⟩ = some (.int .u8 st.2.1)) (c2 : w.cell? ⟨g, o + 2, none⟩ = some (.int .u8 st.2.2))
    (h : stp st c room = none) :
    Calls Try.prog 45 #[.pointer (some ⟨g, o, none⟩), .int .u8 c, .int .i64 room] w (StepNo w) := by
  unfold stp at h
  split at h
  · rename_i hg
    split at h
    · rename_i hr
      by_cases hl : c < st.2.1
      · exact step_low g o st.1 st.2.1 c room w hg c0 c1 hl
      · exact step_high g o st.1 st.2.1 st.2.2 c room w hg c0 c1 c2 (by omega) (by omega)
    · cases h
  · rename_i hg
    split at h
    · rename_i hr
      by_cases hn : (rowOf leadRows c).2.2.1 = 0
      · exact step_none g o st.1 c room w (by omega) c0 hn
      · exact step_room g o st.1 c room w (by omega) c0 hn (by omega) (by omega)
    · cases h
end Go.Proofs.Ytlbokaekhjjabaa

/-
  The walks of utf.Check and utf.Within: what they compute is 'chk', 'wth'.
-/
namespace Go.Proofs.Ytlbokaekhjjabaa
open Go.RowKit Go.Proofs.YtlbokaekhjjabaaW.PrintWords Go.Proofs.YtlbokaekhjjabaaW.PrintLast Go.Proofs.YtlbokaekhjjabaaW.PrintMore

/-- A block of its own that holds a state. -/
def Holds (W : World) (g : Nat) (st : St) : Prop := W.heap[g]? = some (.cells #[.int .i64 st.1, .int .u8 st.2.1, .int .u8 st.2.2] 31 (0, 0))

section
variable {W : World} {g : Nat} {st : St} (h : Holds W g st)
include h
theorem Holds.c0 : W.cell? ⟨g, 0, none⟩ = some (.int .i64 st.1) := cell_of_row W g 0 _ _ _ h
theorem Holds.c1 : W.cell? ⟨g, 1, none⟩ = some (.int .u8 st.2.1) := cell_of_row W g 1 _ _ _ h
theorem Holds.c2 : W.cell? ⟨g, 2, none⟩ = some (.int .u8 st.2.2) := cell_of_row W g 2 _ _ _ h
theorem Holds.fz (j : Nat) : W.frozen? ⟨g, j, none⟩ = false := frozen_of_row W g j _ _ h
theorem Holds.lt : g < W.heap.size := block_lt_of_cell h.c0
theorem Holds.below {W1 : World} (hb : Below W.heap.size W W1) : Holds W1 g st := (hb.block g h.lt).trans h
end

theorem Holds.turned {W W1 : World} {g : Nat} {st st' : St} (h : Holds W g st) (ht : Turned g 0 st' W W1) : Holds W1 g st' := by
  obtain ⟨w1, hb, rfl⟩ := ht
  have h1 : w1.heap[g]? = _ := h.below hb
  have h2 := heap_setCell_same w1 g 0 _ _ (.int .i64 st'.1) h1
  have h3 := heap_setCell_same _ g (0 + 1) _ _ (.int .u8 st'.2.1) h2
  have h4 := heap_setCell_same _ g (0 + 2) _ _ (.int .u8 st'.2.2) h3
  exact h4

theorem Turned.below {W W1 : World} {g o : Nat} {st : St} (ht : Turned g o st W W1) {B : Nat} {w : World} (hg : B ≤ g) (hB : B ≤ W.heap.size) (hb : Below B w W) : Below B w W1 := by
  obtain ⟨w1, hb1, rfl⟩ := ht
  exact (((hb.trans (hb1.mono hB)).setCell (p := ⟨g, o, none⟩) hg _).setCell (p := ⟨g, o + 1, none⟩) hg _).setCell (p := ⟨g, o + 2, none⟩) hg _

def Pair (r : Int × Int) (w : World) (e : Ending) (w' : World) : Prop := e = .returned (.tuple #[.int .i64 r.1, .int .i64 r.2]) ∧ Below w.heap.size w w'

theorem data_drop (s : ByteArray) (k : Nat) (h : k < s.size) : s.data.toList.drop k = s[k] :: s.data.toList.drop (k + 1) := by
  rw [List.drop_eq_getElem_cons (by simpa using h)]; rfl
theorem data_drop_all (s : ByteArray) : s.data.toList.drop s.size = [] := List.drop_eq_nil_of_le (by simp)

set_option maxHeartbeats 1000000 in
set_option maxRecDepth 100000 in
theorem check_any (s : ByteArray) (w : World) (hs : s.size ≤ 9223372036854775807) :
    Calls Try.prog 20 #[.string s] w (Pair (chk s) w) := by
  go_enter Try.func20, Try.ntmps20
  go_wp2
  go_loopw [8] (fun i wr => ∃ (k : Nat) (st : St), k ≤ s.size ∧ i = .int .i64 k ∧ Hid (chk s = chkL (s.data.toList.drop k) st k) ∧ (0 ≤ st.1 ∧ st.1 ≤ 3) ∧ Holds wr w.heap.size st ∧ Below w.heap.size w wr) (fun i _ => s.size - (intOf i).toNat)
  case atStart => exact ⟨0, st0, by omega, rfl, rfl, by decide, heap_alloc_new _ _, (Below.refl _ _).alloc (Nat.le_refl _) _⟩
  case round =>
    obtain ⟨k, st, hk, rfl, hc, h0, hI, hb⟩ := hrel
    by_cases hlt : k < s.size
    · have hd := Lib.hid (data_drop s k hlt)
      cases hst : stp st s[k].toNat (-1) with
      | none =>
        have hf : Hid (chk s = ((k : Int), 4)) := by
          show chk s = _
          rw [hc.out, hd.out]; simp only [chkL, hst]
        have HS := Lib.hid hst
        clear hst
        go_wp2_with (go_at_call 45; refine (step_no w.heap.size 0 st s[k].toNat (-1) _ hI.c0 hI.c1 hI.c2 HS.out).mono ?_; rintro e w' ⟨rfl, hb'⟩)
        go_ret2
        exact ⟨by rw [hf.out]; rfl, hb.trans (hb'.mono hb.size)⟩
      | some st' =>
        have hf : Hid (chk s = chkL (s.data.toList.drop (k + 1)) st' ((k + 1 : Nat) : Int)) := by
          show chk s = _
          rw [hc.out, hd.out]; simp only [chkL, hst]; rfl
        have h0' := stp_left hst h0
        have HS := Lib.hid hst
        clear hst
        go_wp2_with (go_at_call 45; refine (step_ok w.heap.size 0 st st' s[k].toNat (-1) _ h0 hI.c0 hI.c1 hI.c2 (hI.fz _) (hI.fz _) (hI.fz _) HS.out).mono ?_; rintro e w' ⟨rfl, hb'⟩)
        go_roundw
        case rel => exact ⟨k + 1, st', by omega, by go_num, hf, h0', hI.turned hb', hb'.below (Nat.le_refl _) hb.size hb⟩
        case measure => simp [intOf]; omega
    · obtain rfl : k = s.size := by omega
      have c0 := hI.c0
      by_cases hl : 0 < st.1
      · have hf : Hid (chk s = ((s.size : Int), 3)) := by
          show chk s = _
          rw [hc.out, data_drop_all]; simp only [chkL]; rw [if_pos hl]
        clear hc
        go_wp2
        go_ret2
        exact ⟨by rw [hf.out]; rfl, hb⟩
      · have hf : Hid (chk s = ((s.size : Int), 0)) := by
          show chk s = _
          rw [hc.out, data_drop_all]; simp only [chkL]; rw [if_neg hl]
        clear hc
        go_wp2
        go_ret2
        exact ⟨by rw [hf.out]; rfl, hb⟩

set_option maxHeartbeats 1000000 in
set_option maxRecDepth 100000 in
theorem within_any (s : ByteArray) (n : Int) (w : World) (hs : s.size ≤ 9223372036854775807) (hn : n ≤ 9223372036854775807) :
    Calls Try.prog 34 #[.string s, .int .i64 n] w (Pair (wth s n) w) := by
  obtain ⟨m, hm⟩ : ∃ m, (if n < 0 then 0 else n) = m := ⟨_, rfl⟩
  obtain ⟨b, hb⟩ : ∃ b, (if m < (s.size : Int) then m else (s.size : Int)) = b := ⟨_, rfl⟩
  have hm0 : 0 ≤ m ∧ m ≤ 9223372036854775807 := by split at hm <;> omega
  have hb0 : b = m ∧ m < s.size ∨ b = s.size ∧ (s.size : Int) ≤ m := by split at hb <;> omega
  have hw : wth s n = wthL m s.data.toList st0 0 := by
    unfold wth; rw [show max n 0 = m from by rw [← hm]; split <;> omega]
  have HW := Lib.hid hw
  have HB := Lib.hid hb0
  have hb1 : 0 ≤ b ∧ b ≤ s.size ∧ b ≤ m := by omega
  obtain ⟨hm0, hm1⟩ := hm0
  obtain ⟨hb1, hb2, hb3⟩ := hb1
  clear hw hb0
  go_enter Try.func34, Try.ntmps34
  go_wp2
  clear hm hb
  go_loopw [14] (fun i wr => ∃ (k : Nat) (st : St), (k : Int) ≤ b ∧ i = .int .i64 k ∧ Hid (wth s n = wthL m (s.data.toList.drop k) st k) ∧ (0 ≤ st.1 ∧ st.1 ≤ 3) ∧ Holds wr w.heap.size st ∧ Below w.heap.size w wr) (fun i _ => s.size - (intOf i).toNat)
  case atStart => exact ⟨0, st0, by omega, rfl, HW, by decide, heap_alloc_new _ _, (Below.refl _ _).alloc (Nat.le_refl _) _⟩
  case round =>
    obtain ⟨k, st, hk, rfl, hc, h0, hI, hb⟩ := hrel
    by_cases hlt : (k : Int) < b
    · have hlt' : k < s.size := by omega
      have hltm : (k : Int) < m := by omega
      have hd := Lib.hid (data_drop s k hlt')
      cases hst : stp st s[k].toNat (m - 1 - k) with
      | none =>
        have hf : Hid (wth s n = ((k : Int), 4)) := by
          show wth s n = _
          rw [hc.out, hd.out]; simp only [wthL, hst]; rw [if_pos hltm]
        have HS := Lib.hid hst
        clear hst
        go_wp2_with (go_at_call 45; refine (step_no w.heap.size 0 st s[k].toNat (m - 1 - k) _ hI.c0 hI.c1 hI.c2 HS.out).mono ?_; rintro e w' ⟨rfl, hb'⟩)
        go_ret2
        exact ⟨by rw [hf.out]; rfl, hb.trans (hb'.mono hb.size)⟩
      | some st' =>
        have hf : Hid (wth s n = wthL m (s.data.toList.drop (k + 1)) st' ((k + 1 : Nat) : Int)) := by
          show wth s n = _
          rw [hc.out, hd.out]; simp only [wthL, hst]; rw [if_pos hltm]; rfl
        have h0' := stp_left hst h0
        have HS := Lib.hid hst
        clear hst
        go_wp2_with (go_at_call 45; refine (step_ok w.heap.size 0 st st' s[k].toNat (m - 1 - k) _ h0 hI.c0 hI.c1 hI.c2 (hI.fz _) (hI.fz _) (hI.fz _) HS.out).mono ?_; rintro e w' ⟨rfl, hb'⟩)
        go_roundw
        case rel => exact ⟨k + 1, st', by omega, by go_num, hf, h0', hI.turned hb', hb'.below (Nat.le_refl _) hb.size hb⟩
        case measure => simp [intOf]; omega
    · by_cases hl : (s.size : Int) < m
      · have hkk : k = s.size := by have := HB.out; omega
        have hf : Hid (wth s n = ((s.size : Int), 3)) := by
          show wth s n = _
          rw [hc.out, hkk, data_drop_all]; simp only [wthL]; rw [if_pos hl]
        clear hc
        go_wp2
        go_ret2
        exact ⟨by rw [hf.out]; rfl, hb⟩
      · have hkk : (k : Int) = m := by have := HB.out; omega
        have hf : Hid (wth s n = (m, 0)) := by
          show wth s n = _
          rw [hc.out]
          by_cases hz : k < s.size
          · rw [data_drop s k hz]; simp only [wthL]; rw [if_neg (by omega)]
          · rw [show k = s.size by omega, data_drop_all]; simp only [wthL]; rw [if_neg (by omega)]
        clear hc hkk
        go_wp2
        go_ret2
        exact ⟨by rw [hf.out]; rfl, hb⟩
end Go.Proofs.Ytlbokaekhjjabaa

/-
  The walk of esc's letters, and of the closure that puts one byte within quotes.
-/
namespace Go.Proofs.Ytlbokaekhjjabaa
open Go.RowKit Go.Proofs.YtlbokaekhjjabaaW.PrintWords Go.Proofs.YtlbokaekhjjabaaW.PrintLast Go.Proofs.YtlbokaekhjjabaaW.PrintMore

/-- The letters, cell by cell. -/
def letterCells : Array Value := #[.int .u8 8, .int .u8 98, .int .u8 12, .int .u8 102, .int .u8 10, .int .u8 110, .int .u8 13, .int .u8 114, .int .u8 9, .int .u8 116]

set_option maxHeartbeats 400000 in
set_option maxRecDepth 100000 in
theorem letters_any (w : World) :
    Calls Try.prog 51 #[] w fun e w' => e = .returned (.agg letterCells) ∧ w' = w.alloc (.cells letterCells 83) := by
  go_enter Try.func51, Try.ntmps51
  go_wp2_with (refine wpList_store_row rfl 83 (.tmp 0) (.tmp 6) rfl w.heap.size letterCells rfl rfl 83 _ (heap_alloc_last w _) (by kernel_rfl) (by kernel_rfl) (by kernel_rfl) ?_)
  rw [World.setRow_alloc_new]
  exact bodyPost_ret (v := .agg letterCells) (results_cell_row (p := 0) (ty := 83) rfl _ _ w.heap.size 83 letterCells (0, 0) _ rfl (heap_alloc_last w _) Try.underlying83 rfl (by kernel_rfl)) rfl ⟨rfl, rfl⟩

/-- Bytes and their letters. -/
def letterPairs : List (Int × Int) := [(8, 98), (12, 102), (10, 110), (13, 114), (9, 116)]
/-- The letter of a byte; 0: it has none. -/
def letOf : List (Int × Int) → Int → Int
  | [], _ => 0
  | p :: t, c => if p.1 = c then p.2 else letOf t c
theorem let_hit {l t : List (Int × Int)} {p : Int × Int} {c : Int} (h : l = p :: t) (h1 : p.1 = c) : letOf l c = p.2 := by subst h; simp [letOf, h1]
theorem let_miss {l t : List (Int × Int)} {p : Int × Int} {c : Int} (h : l = p :: t) (h1 : ¬ p.1 = c) : letOf l c = letOf t c := by subst h; simp [letOf, h1]
theorem drop_let {k : Nat} (hk : k < 5) {r : Int × Int} (h : letterPairs.getD k (0, 0) = r) : letterPairs.drop k = r :: letterPairs.drop (k + 1) := by
  subst h
  match k, hk with
  | 0, _ => rfl
  | 1, _ => rfl
  | 2, _ => rfl
  | 3, _ => rfl
  | 4, _ => rfl
set_option maxRecDepth 100000 in
theorem index_let (k : Nat) (hk : k < 5) (W : World) : (Instr.index 83 (.agg letterCells) (.int .i64 (k : Int))).run Try.prog W = .ok (.agg #[.int .u8 (letterPairs.getD k (0, 0)).1, .int .u8 (letterPairs.getD k (0, 0)).2]) W := by
  match k, hk with
  | 0, _ => exact (by kernel_rfl : (Instr.index 83 (.agg letterCells) (.int .i64 0)).run Try.prog W = .ok (.agg #[.int .u8 8, .int .u8 98]) W)
  | 1, _ => exact (by kernel_rfl : (Instr.index 83 (.agg letterCells) (.int .i64 1)).run Try.prog W = .ok (.agg #[.int .u8 12, .int .u8 102]) W)
  | 2, _ => exact (by kernel_rfl : (Instr.index 83 (.agg letterCells) (.int .i64 2)).run Try.prog W = .ok (.agg #[.int .u8 10, .int .u8 110]) W)
  | 3, _ => exact (by kernel_rfl : (Instr.index 83 (.agg letterCells) (.int .i64 3)).run Try.prog W = .ok (.agg #[.int .u8 13, .int .u8 114]) W)
  | 4, _ => exact (by kernel_rfl : (Instr.index 83 (.agg letterCells) (.int .i64 4)).run Try.prog W = .ok (.agg #[.int .u8 9, .int .u8 116]) W)

theorem let_ne {k : Nat} (hk : k < 5) {p q : Int} (h : letterPairs.getD k (0, 0) = (p, q)) : q ≠ 0 := by
  match k, hk with
  | 0, _ => cases h; decide
  | 1, _ => cases h; decide
  | 2, _ => cases h; decide
  | 3, _ => cases h; decide
  | 4, _ => cases h; decide

def hexd (n : Int) : Int := if n < 10 then 48 + n else 87 + n
/-- A byte within quotes. -/
def escB (c : Int) : List Int :=
  if letOf letterPairs c ≠ 0 then [92, letOf letterPairs c] else if c = 34 ∨ c = 92 then [92, c] else if c ≥ 32 then [c] else [92, 117, 48, 48, hexd (c / 16), hexd (c % 16)]

/-- A variable of the call's own that holds a slice which owns these bytes. -/
def OutIs (W : World) (base g : Nat) (xs : List Int) : Prop :=
  ∃ v, Boxed W g 28 v ∧ W.ownsRow base 5 1 v xs.length (xs.map (Value.int .u8)) ∧ base ≤ g

theorem info5 : (Try.prog.info? 5).map (fun i => (i.zero, i.size, i.bytes)) = some (some (.int .u8 0), 1, 1) := by kernel_rfl

theorem one_u8 (xs : List Int) : ∀ u ∈ xs.map (Value.int .u8), u.oneCell' = true := by
  intro u hu
  obtain ⟨n, _, rfl⟩ := List.mem_map.1 hu
  rfl

/-- 'append' of new bytes to a slice of bytes of the call's own. -/
theorem wpList_append_bytes {ops : Array Oper} {rest : List Oper} {o : Oper} {a : Act} {Q : Exit → Act → World → Prop} {W : World} (hgd : o.guard = none) (s x : Operand)
    (ho : o.op = .call { callee := .builtin .append, args := #[s, x], argTypes := #[28, 28] }) (base : Nat) (v : Value) (n : Nat) (xs ys : List Int) (c : Nat) (hs : a.eval s = v) (q : Nat) (hq : q = W.heap.size)
    (hx : a.eval x = .slice (some ⟨q, 0, none⟩) ys.length c) (hown : W.ownsRow base 5 1 v n (xs.map (Value.int .u8))) (hlen : n + ys.length ≤ 140737488355328) (hbase : base ≤ W.heap.size)
    (h : ∀ v' n' w', n' = n + ys.length → w'.ownsRow base 5 1 v' n' ((xs ++ ys).map (Value.int .u8)) → (W.alloc (.cells (ys.map (Value.int .u8)).toArray 5)).grownBy w' v.ownBlock → wpList Try.prog ops Q rest (a.put o.dst v') w') :
    wpList Try.prog ops Q (o :: rest) a (W.alloc (.cells (ys.map (Value.int .u8)).toArray 5)) := by
  subst hq
  obtain ⟨i0, hi, hz0, hz1, hz2⟩ := info_parts info5
  refine wpList_append_own _ hgd s x 28 ho base 5 i0 (.int .u8 0) 1 1 Try.underlying28 hi hz0 hz1 hz2 rfl (by decide) v n _ hs (hown.alloc _) ⟨W.heap.size, 0, none⟩ ys.length c (ys.map (Value.int .u8)) hx (by simp) ?_ (one_u8 ys) (by unfold maxLen; omega) (by omega) (by simp; omega) ?_
  · intro j u hj
    have e : (⟨W.heap.size, 0, none⟩ : Addr).add j = ⟨W.heap.size, j, none⟩ := by unfold Addr.add; split <;> simp_all
    rw [e, cell_of_row _ _ j _ _ _ (heap_alloc_new W _)]
    simpa using hj
  · intro v' w' hown' hgrow _
    refine h v' _ w' rfl ?_ hgrow
    rw [List.map_append]
    exact hown'

/-- Behind such an append and the store back into the variable. -/
theorem OutIs.appended {W w1 : World} {base g n n' : Nat} {v v' : Value} {xs ys : List Int} (hv : Boxed W g 28 v) (hrow : W.ownsRow base 5 1 v n (xs.map (Value.int .u8))) (hb : base ≤ W.heap.size) (hg : base ≤ g)
    (hown' : w1.ownsRow base 5 1 v' n' ((xs ++ ys).map (Value.int .u8))) (hgrow : (W.alloc (.cells (ys.map (Value.int .u8)).toArray 5)).grownBy w1 v.ownBlock) :
    Boxed w1 g 28 v ∧ Boxed (w1.setCell ⟨g, 0, none⟩ v') g 28 v' ∧ (w1.setCell ⟨g, 0, none⟩ v').ownsRow base 5 1 v' n' ((xs ++ ys).map (Value.int .u8)) ∧ Below base W (w1.setCell ⟨g, 0, none⟩ v') := by
  obtain ⟨h1, h2, h3, _, h5⟩ := hv.appended (by decide) hrow hb hg hown' hgrow
  exact ⟨h1, h2, h3, h5⟩
theorem ownsRow_len {W : World} {base n : Nat} {v : Value} {xs : List Int} (h : W.ownsRow base 5 1 v n (xs.map (Value.int .u8))) : n = xs.length := by
  have := h.1
  simp at this
  omega
theorem OutIs.of {W : World} {base g n : Nat} {v : Value} {xs : List Int} (hv : Boxed W g 28 v) (hr : W.ownsRow base 5 1 v n (xs.map (Value.int .u8))) (hg : base ≤ g) : OutIs W base g xs := by
  obtain rfl := ownsRow_len hr
  exact ⟨v, hv, hr, hg⟩
theorem ownsRow_at {W : World} {base n : Nat} {v : Value} {xs : List Value} (h : W.ownsRow base 5 1 v n xs) (hn : 0 < n) : ∃ b cap, v = .slice (some ⟨b, 0, none⟩) n cap := by
  obtain ⟨k, rfl⟩ : ∃ k, n = k + 1 := ⟨n - 1, by omega⟩
  obtain ⟨b, cap, h⟩ := ownsRow_succ h
  exact ⟨b, cap, h⟩

set_option maxRecDepth 100000 in
theorem index_hex (n : Int) (h0 : 0 ≤ n) (h1 : n < 16) (W : World) : (Instr.index 9 (.string ⟨#[48, 49, 50, 51, 52, 53, 54, 55, 56, 57, 97, 98, 99, 100, 101, 102]⟩) (.int .u8 n)).run Try.prog W = .ok (.int .u8 (hexd n)) W := by
  obtain ⟨k, rfl⟩ : ∃ k : Nat, n = k := ⟨n.toNat, by omega⟩
  have hk : k < 16 := by omega
  revert h0 h1
  intro _ _
  match k, hk with
  | 0, _ => exact (by kernel_rfl : (Instr.index 9 (.string ⟨#[48, 49, 50, 51, 52, 53, 54, 55, 56, 57, 97, 98, 99, 100, 101, 102]⟩) (.int .u8 0)).run Try.prog W = .ok (.int .u8 (hexd 0)) W)
  | 1, _ => exact (by kernel_rfl : (Instr.index 9 (.string ⟨#[48, 49, 50, 51, 52, 53, 54, 55, 56, 57, 97, 98, 99, 100, 101, 102]⟩) (.int .u8 1)).run Try.prog W = .ok (.int .u8 (hexd 1)) W)
  | 2, _ => exact (by kernel_rfl : (Instr.index 9 (.string ⟨#[48, 49, 50, 51, 52, 53, 54, 55, 56, 57, 97, 98, 99, 100, 101, 102]⟩) (.int .u8 2)).run Try.prog W = .ok (.int .u8 (hexd 2)) W)
  | 3, _ => exact (by kernel_rfl : (Instr.index 9 (.string ⟨#[48, 49, 50, 51, 52, 53, 54, 55, 56, 57, 97, 98, 99, 100, 101, 102]⟩) (.int .u8 3)).run Try.prog W = .ok (.int .u8 (hexd 3)) W)
  | 4, _ => exact (by kernel_rfl : (Instr.index 9 (.string ⟨#[48, 49, 50, 51, 52, 53, 54, 55, 56, 57, 97, 98, 99, 100, 101, 102]⟩) (.int .u8 4)).run Try.prog W = .ok (.int .u8 (hexd 4)) W)
  | 5, _ => exact (by kernel_rfl : (Instr.index 9 (.string ⟨#[48, 49, 50, 51, 52, 53, 54, 55, 56, 57, 97, 98, 99, 100, 101, 102]⟩) (.int .u8 5)).run Try.prog W = .ok (.int .u8 (hexd 5)) W)
  | 6, _ => exact (by kernel_rfl : (Instr.index 9 (.string ⟨#[48, 49, 50, 51, 52, 53, 54, 55, 56, 57, 97, 98, 99, 100, 101, 102]⟩) (.int .u8 6)).run Try.prog W = .ok (.int .u8 (hexd 6)) W)
  | 7, _ => exact (by kernel_rfl : (Instr.index 9 (.string ⟨#[48, 49, 50, 51, 52, 53, 54, 55, 56, 57, 97, 98, 99, 100, 101, 102]⟩) (.int .u8 7)).run Try.prog W = .ok (.int .u8 (hexd 7)) W)
  | 8, _ => exact (by kernel_rfl : (Instr.index 9 (.string ⟨#[48, 49, 50, 51, 52, 53, 54, 55, 56, 57, 97, 98, 99, 100, 101, 102]⟩) (.int .u8 8)).run Try.prog W = .ok (.int .u8 (hexd 8)) W)
  | 9, _ => exact (by kernel_rfl : (Instr.index 9 (.string ⟨#[48, 49, 50, 51, 52, 53, 54, 55, 56, 57, 97, 98, 99, 100, 101, 102]⟩) (.int .u8 9)).run Try.prog W = .ok (.int .u8 (hexd 9)) W)
  | 10, _ => exact (by kernel_rfl : (Instr.index 9 (.string ⟨#[48, 49, 50, 51, 52, 53, 54, 55, 56, 57, 97, 98, 99, 100, 101, 102]⟩) (.int .u8 10)).run Try.prog W = .ok (.int .u8 (hexd 10)) W)
  | 11, _ => exact (by kernel_rfl : (Instr.index 9 (.string ⟨#[48, 49, 50, 51, 52, 53, 54, 55, 56, 57, 97, 98, 99, 100, 101, 102]⟩) (.int .u8 11)).run Try.prog W = .ok (.int .u8 (hexd 11)) W)
  | 12, _ => exact (by kernel_rfl : (Instr.index 9 (.string ⟨#[48, 49, 50, 51, 52, 53, 54, 55, 56, 57, 97, 98, 99, 100, 101, 102]⟩) (.int .u8 12)).run Try.prog W = .ok (.int .u8 (hexd 12)) W)
  | 13, _ => exact (by kernel_rfl : (Instr.index 9 (.string ⟨#[48, 49, 50, 51, 52, 53, 54, 55, 56, 57, 97, 98, 99, 100, 101, 102]⟩) (.int .u8 13)).run Try.prog W = .ok (.int .u8 (hexd 13)) W)
  | 14, _ => exact (by kernel_rfl : (Instr.index 9 (.string ⟨#[48, 49, 50, 51, 52, 53, 54, 55, 56, 57, 97, 98, 99, 100, 101, 102]⟩) (.int .u8 14)).run Try.prog W = .ok (.int .u8 (hexd 14)) W)
  | 15, _ => exact (by kernel_rfl : (Instr.index 9 (.string ⟨#[48, 49, 50, 51, 52, 53, 54, 55, 56, 57, 97, 98, 99, 100, 101, 102]⟩) (.int .u8 15)).run Try.prog W = .ok (.int .u8 (hexd 15)) W)

def PutPost (base g : Nat) (xs : List Int) (w : World) (e : Ending) (w' : World) : Prop := e = .returned (.tuple #[]) ∧ OutIs w' base g xs ∧ Below base w w'

set_option maxHeartbeats 8000000 in
set_option maxRecDepth 100000 in
theorem put_any (c : Int) (h0 : 0 ≤ c) (h1 : c ≤ 255) (base g : Nat) (xs : List Int) (w : World) (hb : base ≤ w.heap.size) (ho : OutIs w base g xs) (hx : 0 < xs.length) (hl : xs.length ≤ 70368744177664) :
    Calls Try.prog 50 #[.int .u8 c, .pointer (some ⟨g, 0, none⟩)] w (PutPost base g (xs ++ escB c) w) := by
  obtain ⟨v, hv, hrow, hg⟩ := ho
  obtain ⟨n, hn⟩ : ∃ n, n = xs.length := ⟨_, rfl⟩
  rw [← hn] at hrow
  obtain ⟨b, cap, rfl⟩ := ownsRow_at hrow (by omega)
  have hnl : n ≤ 70368744177664 := by omega
  have hn0 : 0 < n := by omega
  clear hn hx hl
  obtain ⟨i0, hi, hz0, hz1, hz2⟩ := info_parts info5
  go_enter Try.func50, Try.ntmps50
  go_wp2_with (go_at_call 51; refine (letters_any _).mono ?_; rintro e w' ⟨rfl, rfl⟩)
  go_loopw [6] (fun i wr => ∃ k : Nat, k ≤ 5 ∧ i = .int .i64 k ∧ Hid (letOf letterPairs c = letOf (letterPairs.drop k) c) ∧ Boxed wr g 28 (.slice (some ⟨b, 0, none⟩) n cap) ∧ wr.ownsRow base 5 1 (.slice (some ⟨b, 0, none⟩) n cap) n (xs.map (Value.int .u8)) ∧ base ≤ wr.heap.size ∧ Below base w wr) (fun i _ => 5 - (intOf i).toNat)
  case atStart => exact ⟨0, by omega, rfl, rfl, hv.alloc _, hrow.alloc _, by simp; omega, (Below.refl _ _).alloc hb _⟩
  case round =>
    obtain ⟨k, hk, rfl, hlet, hv, hrow, hbw, hB⟩ := hrel
    have hc1 := hv.cell
    by_cases hlt : k < 5
    · have i1 := index_let k hlt
      obtain ⟨p, q, hr⟩ : ∃ p q, letterPairs.getD k (0, 0) = (p, q) := ⟨_, _, rfl⟩
      have hd := Lib.hid (drop_let hlt hr)
      have hq := let_ne hlt hr
      rw [hr] at i1
      clear hr
      dsimp only at i1
      by_cases hpc : p = c
      · have ht : (p == c) = true := by simpa using hpc
        have hf := Lib.hid (hlet.out.trans (let_hit hd.out hpc))
        clear hpc
        have hvA := hv.alloc (.cells #[.int .u8 p, .int .u8 q] 82)
        have hrA := hrow.alloc (.cells #[.int .u8 p, .int .u8 q] 82)
        have hbA : base ≤ (wr.alloc (.cells #[.int .u8 p, .int .u8 q] 82)).heap.size := by simp; omega
        have hcl := hvA.cell
        go_wp2_with (at_builtin; (refine wpList_append_bytes rfl (.tmp 13) (.tmp 16) rfl base _ n xs [92, q] 2 rfl (wr.heap.size + 1) (by simp) rfl hrA (show n + 2 ≤ 140737488355328 by omega) hbA ?_); intro v' n' w1 hn' hown' hgrow; obtain ⟨b', cap', rfl⟩ := ownsRow_at hown' (by omega); obtain ⟨hv1, hv2, hr2, hb2⟩ := OutIs.appended hvA hrA hbA hg hown' hgrow; have hc1 := hv1.cell; have hf1 := hv1.frozen; clear hn')
        refine bodyPost_ret (results_none rfl _ _ _) rfl ⟨rfl, ?_, (hB.alloc hbw _).trans hb2⟩
        have he : escB c = [92, q] := by unfold escB; rw [hf.out, if_pos hq]
        rw [he]
        exact OutIs.of hv2 hr2 hg
      · have ht : (p == c) = false := by simpa using hpc
        have hf := Lib.hid (hlet.out.trans (let_miss hd.out hpc))
        clear hpc
        go_wp2
        go_roundw
        case rel => exact ⟨k + 1, by omega, by go_num, hf, hv.alloc _, hrow.alloc _, by simp; omega, hB.alloc hbw _⟩
        case measure => simp [intOf]; omega
    · obtain rfl : k = 5 := by omega
      have hf : Hid (letOf letterPairs c = 0) := hlet.out
      by_cases hq : c = 34 ∨ c = 92
      · have he : Hid (escB c = [92, c]) := by show escB c = _; unfold escB; rw [hf.out, if_neg (by decide), if_pos hq]
        rcases hq with hq | hq
        all_goals
          have t1 : (c == 34) = decide (c = 34) := by rw [Bool.eq_iff_iff]; simp
          have t2 : (c == 92) = decide (c = 92) := by rw [Bool.eq_iff_iff]; simp
          first
          | (rw [decide_eq_true hq] at t1)
          | (rw [decide_eq_false (show ¬ c = 34 by omega)] at t1; rw [decide_eq_true hq] at t2)
          clear hq
          go_wp2_with (first
            | (at_builtin; (refine wpList_append_bytes rfl (.tmp 27) (.tmp 28) rfl base _ n xs [92] 1 rfl wr.heap.size rfl rfl hrow (show n + 1 ≤ 140737488355328 by omega) hbw ?_); intro v1 n1 w1 hn1 hown1 hgrow1; replace hn1 : n1 = n + 1 := hn1; obtain ⟨b1, cap1, rfl⟩ := ownsRow_at hown1 (by omega); obtain ⟨hva, hvb, hrb, hbb⟩ := OutIs.appended hv hrow hbw hg hown1 hgrow1; have hca := hva.cell; have hfa := hva.frozen; have hcb := hvb.cell; have hszb := Nat.le_trans hbw hbb.size; have hn2 : n1 ≤ 70368744177665 := (by omega); have hn3 : 0 < n1 := (by omega); clear hn1)
            | (at_builtin; (refine wpList_append_bytes rfl (.tmp 30) (.tmp 32) rfl base _ n1 (xs ++ [92]) [c] 1 rfl w1.heap.size (by simp) rfl hrb (show n1 + 1 ≤ 140737488355328 by omega) hszb ?_); intro v2 n2 w2 hn4 hown2 hgrow2; replace hn4 : n2 = n1 + 1 := hn4; obtain ⟨b2, cap2, rfl⟩ := ownsRow_at hown2 (by omega); obtain ⟨hvc, hvd, hrd, hbd⟩ := OutIs.appended hvb hrb hszb hg hown2 hgrow2; have hcc := hvc.cell; have hfc := hvc.frozen; clear hn4))
          go_end0
          refine ⟨rfl, ?_, (hB.trans hbb).trans hbd⟩
          rw [he.out]
          have := OutIs.of hvd hrd hg
          rw [List.append_assoc] at this
          exact this
      · have t1 : (c == 34) = false := by simp; omega
        have t2 : (c == 92) = false := by simp; omega
        by_cases h32 : 32 ≤ c
        · have he : Hid (escB c = [c]) := by show escB c = _; unfold escB; rw [hf.out, if_neg (by decide), if_neg hq, if_pos h32]
          clear hq
          go_wp2_with (at_builtin; (refine wpList_append_bytes rfl (.tmp 30) (.tmp 32) rfl base _ n xs [c] 1 rfl wr.heap.size rfl rfl hrow (show n + 1 ≤ 140737488355328 by omega) hbw ?_); intro v1 n1 w1 hn1 hown1 hgrow1; replace hn1 : n1 = n + 1 := hn1; obtain ⟨b1, cap1, rfl⟩ := ownsRow_at hown1 (by omega); obtain ⟨hva, hvb, hrb, hbb⟩ := OutIs.appended hv hrow hbw hg hown1 hgrow1; have hca := hva.cell; have hfa := hva.frozen; clear hn1)
          go_end0
          refine ⟨rfl, ?_, hB.trans hbb⟩
          rw [he.out]
          exact OutIs.of hvb hrb hg
        · have he : Hid (escB c = [92, 117, 48, 48, hexd (c / 16), hexd (c % 16)]) := by show escB c = _; unfold escB; rw [hf.out, if_neg (by decide), if_neg hq, if_neg h32]
          clear hq
          have h32' : c < 32 := by omega
          have x1 := index_hex (c / 16) (by omega) (by omega)
          have x2 := index_hex (c % 16) (by omega) (by omega)
          have x3 : bits .and .u8 c 15 = c % 16 := u8_and15 c h0 (by omega)
          have hrE : ((wr.alloc (.cells (List.map (Value.int .u8) [92, 117, 48, 48, hexd (c / 16), hexd (c % 16)]).toArray 5)).drew).ownsRow base 5 1 (.slice (some ⟨b, 0, none⟩) n cap) n (xs.map (Value.int .u8)) := (hrow.alloc _).drew
          have hne : ∀ j u, (List.map (Value.int .u8) [92, 117, 48, 48, hexd (c / 16), hexd (c % 16)])[j]? = some u → ((wr.alloc (.cells (List.map (Value.int .u8) [92, 117, 48, 48, hexd (c / 16), hexd (c % 16)]).toArray 5)).drew).cell? ((⟨wr.heap.size, 0, none⟩ : Addr).add j) = some u :=
            World.news_of_block (heap_alloc_new wr _)
          have hbE : base ≤ ((wr.alloc (.cells (List.map (Value.int .u8) [92, 117, 48, 48, hexd (c / 16), hexd (c % 16)]).toArray 5)).drew).heap.size := Nat.le_trans hbw (by simp)
          have HR := Lib.hid hrE
          have HN := Lib.hid hne
          have HB := Lib.hid hbE
          have hcF : ∀ ob, (wr.alloc ob).cell? ⟨g, 0, none⟩ = some (.slice (some ⟨b, 0, none⟩) n cap) := fun ob => (hv.alloc ob).cell
          clear hrE hne hbE
          go_wp2_with (fail)
          go_region_law (refine step_append_lies _ rfl (.tmp 34) (.tmp 41) 28 rfl base 5 i0 (.int .u8 0) 1 1 Try.underlying28 hi hz0 hz1 hz2 rfl (by decide) (.slice (some ⟨b, 0, none⟩) n cap) n (xs.map (Value.int .u8)) (by simp [Act.eval]) HR.out ⟨wr.heap.size, 0, none⟩ 6 6 (List.map (Value.int .u8) [92, 117, 48, 48, hexd (c / 16), hexd (c % 16)]) (by simp [Act.eval]) rfl HN.out (one_u8 _) (by decide) (by unfold maxLen; omega) (by omega) HB.out _ rfl ?_; intro g2 cap2 w2 hown2 hgrow2 _ _; obtain ⟨hva, hvb, hrb, hbb⟩ := OutIs.appended (W := wr.drew) (ys := [92, 117, 48, 48, hexd (c / 16), hexd (c % 16)]) hv hrow.drew hbw hg (by rw [List.map_append]; exact hown2) hgrow2; have hca := hva.cell; have hfa := hva.frozen)
          all_goals
            go_wp2
            go_end0
            refine ⟨rfl, ?_, hB.trans ((Below.refl base wr).drew.trans hbb)⟩
            rw [he.out]
            exact OutIs.of hvb hrb hg
end Go.Proofs.Ytlbokaekhjjabaa

/-
  The walk of esc.Quote: a text that is not right: ErrForm; else its bytes within quotes.
-/
namespace Go.Proofs.Ytlbokaekhjjabaa
open Go.RowKit Go.Proofs.YtlbokaekhjjabaaW.PrintWords Go.Proofs.YtlbokaekhjjabaaW.PrintLast Go.Proofs.YtlbokaekhjjabaaW.PrintMore

/-- A text's bytes within quotes, without the last quote. -/
def quoteL : List UInt8 → List Int
  | [] => []
  | c :: t => escB c.toNat ++ quoteL t
theorem quoteL_append (a b : List UInt8) : quoteL (a ++ b) = quoteL a ++ quoteL b := by
  induction a with
  | nil => rfl
  | cons c t ih => simp [quoteL, ih]
theorem escB_len (c : Int) : 1 ≤ (escB c).length ∧ (escB c).length ≤ 6 := by
  unfold escB; split
  · simp
  · split
    · simp
    · split <;> simp
theorem quoteL_len (s : List UInt8) : s.length ≤ (quoteL s).length ∧ (quoteL s).length ≤ 6 * s.length := by
  induction s with
  | nil => simp [quoteL]
  | cons c t ih =>
    have := escB_len c.toNat
    simp only [quoteL, List.length_append, List.length_cons]
    omega
theorem quoteL_take (s : ByteArray) (k : Nat) (h : k < s.size) : quoteL (s.data.toList.take (k + 1)) = quoteL (s.data.toList.take k) ++ escB s[k].toNat := by
  have : s.data.toList.take (k + 1) = s.data.toList.take k ++ [s[k]] := by
    rw [List.take_succ_eq_append_getElem (by simpa using h)]; rfl
  rw [this, quoteL_append]
  simp [quoteL]

/-- A text within quotes. -/
def quo (s : ByteArray) : ByteArray := strOfNums ([34] ++ quoteL s.data.toList ++ [34])

def StrErr (s : ByteArray) (e : Int) (w : World) (en : Ending) (w' : World) : Prop := en = .returned (.tuple #[.string s, .int .i64 e]) ∧ Below w.heap.size w w'

theorem conv_own {W : World} {base n b cap : Nat} {xs : List Int} (h : W.ownsRow base 5 1 (.slice (some ⟨b, 0, none⟩) n cap) n (xs.map (Value.int .u8))) :
    (convert 28 9 (.slice (some ⟨b, 0, none⟩) n cap)).run Try.prog W = .ok (.string (strOfNums xs)) W := by
  have hl := ownsRow_len h
  refine run_convert_bytes_arg W 28 5 Try.underlying28 Try.underlying5 b 0 n cap xs hl.symm (fun i hi => ?_) 9 Try.underlying9
  have := h.cellAt i (by omega)
  rw [Nat.zero_add, this, List.getElem?_map, List.getElem?_eq_getElem (by omega), List.getD_eq_getElem?_getD, List.getElem?_eq_getElem (by omega)]
  rfl

set_option maxHeartbeats 1000000 in
set_option maxRecDepth 100000 in
theorem quote_err (s : ByteArray) (w : World) (hs : s.size ≤ 9223372036854775807) (h : (chk s).2 ≠ 0) :
    Calls Try.prog 30 #[.string s] w (StrErr ⟨#[]⟩ 4 w) := by
  obtain ⟨n, e, hc⟩ : ∃ n e, chk s = (n, e) := ⟨_, _, rfl⟩
  rw [hc] at h
  have hne : (e != 0) = true := by simpa using h
  have HC := Lib.hid hc
  clear hc h
  go_enter Try.func30, Try.ntmps30
  go_wp2_with (go_at_call 20; refine (check_any s _ hs).mono ?_; rintro en w1 ⟨rfl, hb1⟩; rw [HC.out]; dsimp only)
  go_ret2
  exact ⟨rfl, hb1⟩

set_option maxHeartbeats 4000000 in
set_option maxRecDepth 100000 in
theorem quote_ok (s : ByteArray) (w : World) (hs : s.size ≤ 8796093022208) (h : (chk s).2 = 0) :
    Calls Try.prog 30 #[.string s] w (StrErr (quo s) 0 w) := by
  obtain ⟨n, e, hc⟩ : ∃ n e, chk s = (n, e) := ⟨_, _, rfl⟩
  rw [hc] at h
  obtain rfl : e = 0 := h
  have HC := Lib.hid hc
  clear hc
  obtain ⟨i0, hi, hz0, hz1, hz2⟩ := info_parts info5
  obtain ⟨A, hA⟩ : ∃ A, A = madeCells #[.int .u8 0] (s.size + 2) := ⟨_, rfl⟩
  have hmk : ∀ W, (Instr.makeSlice 28 (.int .i64 1) (.int .i64 ((s.size : Int) + 2))).run Try.prog W = .ok (.slice (some ⟨W.heap.size, 0, none⟩) 1 (s.size + 2)) (W.alloc (.cells A 5)) := by
    intro W
    have := run_make (P := Try.prog) W 28 5 i0 (.int .u8 0) Try.underlying28 hi hz0 .i64 .i64 1 ((s.size : Int) + 2) (by decide) (by omega) (by rw [hz2]; omega) (by omega)
    rw [this, hz1]
    have e1 : ((s.size : Int) + 2).toNat = s.size + 2 := by omega
    rw [e1, Nat.mul_one, hA]
    rfl
  have hAs : A.size = s.size + 2 := by rw [hA]; exact size_madeCells _ _
  have hAl : A.toList = List.replicate (s.size + 2) (.int .u8 0) := by rw [hA]; exact toList_madeCells_one _ _
  have hA0 : A[0]? = some (.int .u8 0) := by
    rw [← Array.getElem?_toList, hAl]; simp
  have hAS : Hid (A.size = s.size + 2) := hAs
  have hAL : Hid (A.toList = List.replicate (s.size + 2) (.int .u8 0)) := hAl
  clear hA hAs hAl hi hz0 hz1 hz2
  go_enter Try.func30, Try.ntmps30
  go_wp2_with (go_at_call 20; refine (check_any s _ (by omega)).mono ?_; rintro en w1 ⟨rfl, hb1⟩; rw [HC.out]; dsimp only)
  go_loopw [25] (fun i wr => ∃ k : Nat, k ≤ s.size ∧ i = .int .i64 k ∧ OutIs wr w.heap.size (w1.heap.size + 1) ([34] ++ quoteL (s.data.toList.take k)) ∧ Below w.heap.size w wr) (fun i _ => s.size - (intOf i).toNat)
  case atStart =>
    refine ⟨0, by omega, rfl, ⟨.slice (some ⟨w1.heap.size, 0, none⟩) 1 (s.size + 2), ?_, ?_, ?_⟩, ?_⟩
    · have := Boxed.new (w1.alloc (.cells (A.setIfInBounds 0 (.int .u8 34)) 5)) 28 (.slice (some ⟨w1.heap.size, 0, none⟩) 1 (s.size + 2))
      rw [World.size_alloc] at this
      exact this
    · refine ⟨rfl, .inr ⟨w1.heap.size, s.size + 2, A.setIfInBounds 0 (.int .u8 34), rfl, hb1.size, ?_, (show 1 ≤ s.size + 2 by omega), by unfold maxLen; omega, by simp; exact hAS.out, ?_⟩⟩
      · exact (Below.heap_alloc _ _ _ (by simp)).trans (heap_alloc_new _ _)
      · rw [Array.toList_setIfInBounds, hAL.out]
        simp [List.replicate_succ]
        rfl
    · have := hb1.size; omega
    · exact (hb1.alloc hb1.size _).alloc (by have := hb1.size; simp; omega) _
  case round =>
    obtain ⟨k, hk, rfl, ho, hb⟩ := hrel
    have hq := quoteL_len (s.data.toList.take k)
    have hbs := hb.size
    by_cases hlt : k < s.size
    · have hu := s[k].toNat_lt
      have hlen : ([34] ++ quoteL (s.data.toList.take k)).length ≤ 70368744177664 := by
        have : (s.data.toList.take k).length ≤ k := List.length_take_le _ _
        simp only [List.length_append, List.length_cons, List.length_nil]
        omega
      have hpos : 0 < ([34] ++ quoteL (s.data.toList.take k)).length := by simp
      have HL := Lib.hid hlen
      clear hlen hq
      go_wp2_with (go_at_call 50; refine (put_any s[k].toNat (by omega) (by omega) w.heap.size (w1.heap.size + 1) ([34] ++ quoteL (s.data.toList.take k)) _ hbs ho hpos HL.out).mono ?_; rintro en w' ⟨rfl, ho', hb'⟩)
      go_roundw
      case rel => exact ⟨k + 1, by omega, by go_num, by rw [quoteL_take s k hlt, ← List.append_assoc]; exact ho', hb.trans hb'⟩
      case measure => simp [intOf]; omega
    · obtain rfl : k = s.size := by omega
      rw [List.take_of_length_le (by rw [data_length]; omega)] at ho hq
      obtain ⟨v, hv, hrow, hg⟩ := ho
      have hlen : ([34] ++ quoteL s.data.toList).length ≤ 70368744177664 := by
        have : s.data.toList.length = s.size := data_length s
        simp only [List.length_append, List.length_cons, List.length_nil]
        omega
      obtain ⟨n1, hn1⟩ : ∃ n1, n1 = ([34] ++ quoteL s.data.toList).length := ⟨_, rfl⟩
      rw [← hn1] at hrow hlen
      obtain ⟨b, cap, rfl⟩ := ownsRow_at hrow (by rw [hn1]; simp)
      have hcv := hv.cell
      clear hn1 hq
      go_wp2_with (at_builtin; (refine wpList_append_bytes rfl (.tmp 34) (.tmp 35) rfl w.heap.size _ n1 ([34] ++ quoteL s.data.toList) [34] 1 rfl wr.heap.size rfl rfl hrow (show n1 + 1 ≤ 140737488355328 by omega) hbs ?_); intro v2 n2 w2 hn2 hown2 hgrow2; replace hn2 : n2 = n1 + 1 := hn2; obtain ⟨b2, cap2, rfl⟩ := ownsRow_at hown2 (by omega); have hcon := conv_own hown2; clear hn2)
      go_ret2
      refine ⟨rfl, ?_⟩
      refine ((hb.alloc hbs _).grown hgrow2 (by simp; omega) fun j ej => ?_)
      have := (hrow.lt j ej).1
      exact this
end Go.Proofs.Ytlbokaekhjjabaa

/-
  esc's scan: its block; the walk of 'next' over any closure.
-/
namespace Go.Proofs.Ytlbokaekhjjabaa
open Go.RowKit Go.Proofs.YtlbokaekhjjabaaW.PrintWords Go.Proofs.YtlbokaekhjjabaaW.PrintLast Go.Proofs.YtlbokaekhjjabaaW.PrintMore
set_option linter.unusedVariables false

/-- A block of its own that holds a scan of s. -/
def Sx (W : World) (g : Nat) (s : ByteArray) (p : Int) (v : Value) (e : Int) : Prop := W.heap[g]? = some (.cells #[.string s, .int .i64 p, v, .int .i64 e] 89 (0, 0))

section
variable {W : World} {g : Nat} {s : ByteArray} {p e : Int} {v : Value} (h : Sx W g s p v e)
include h
theorem Sx.c0 : W.cell? ⟨g, 0, none⟩ = some (.string s) := cell_of_row W g 0 _ _ _ h
theorem Sx.c1 : W.cell? ⟨g, 1, none⟩ = some (.int .i64 p) := cell_of_row W g 1 _ _ _ h
theorem Sx.c2 : W.cell? ⟨g, 2, none⟩ = some v := cell_of_row W g 2 _ _ _ h
theorem Sx.c3 : W.cell? ⟨g, 3, none⟩ = some (.int .i64 e) := cell_of_row W g 3 _ _ _ h
theorem Sx.fz (j : Nat) : W.frozen? ⟨g, j, none⟩ = false := frozen_of_row W g j _ _ h
theorem Sx.lt : g < W.heap.size := block_lt_of_cell h.c0
theorem Sx.kept {W1 : World} {row : Option Nat} (hg : W.grownBy W1 row) (hne : some g ≠ row) : Sx W1 g s p v e := (hg.block g h.lt hne).trans h
theorem Sx.below {W1 : World} (hb : Below W.heap.size W W1) : Sx W1 g s p v e := (hb.block g h.lt).trans h
theorem Sx.drew : Sx W.drew g s p v e := h
theorem Sx.at' (x : Int) : Sx (W.setCell ⟨g, 1, none⟩ (.int .i64 x)) g s x v e := heap_setCell_same W g 1 _ _ (.int .i64 x) h
theorem Sx.out' (x : Value) : Sx (W.setCell ⟨g, 2, none⟩ x) g s p x e := heap_setCell_same W g 2 _ _ x h
theorem Sx.err' (x : Int) : Sx (W.setCell ⟨g, 3, none⟩ (.int .i64 x)) g s p v x := heap_setCell_same W g 3 _ _ (.int .i64 x) h
end

/-- Of what was there only the block g has turned. -/
abbrev Only (g : Nat) (w w' : World) : Prop := w.grownBy w' (some g)
theorem Only.of {g : Nat} {w w' : World} (h : Below w.heap.size w w') : Only g w w' := ⟨h.os, h.tape, h.output, h.size, fun k hk _ => h.block k hk⟩
theorem Only.set {g : Nat} {a w : World} (h : Only g a w) (j : Nat) (u : Value) : Only g a (w.setCell ⟨g, j, none⟩ u) :=
  h.trans ⟨rfl, rfl, rfl, by simp, fun k hk hne => Below.heap_setCell w _ u k (fun e => hne (by rw [e]))⟩
theorem Only.drew {g : Nat} {a w : World} (h : Only g a w) : Only g a w.drew := ⟨h.os, h.tape, h.output, h.size, h.block⟩

/-- The byte at a place. -/
def byteAt (s : ByteArray) (p : Nat) : Int := ((s.data.toList.getD p 0).toNat : Int)
/-- What 'next' does. -/
def nx (s : ByteArray) (is : Int → Bool) (p : Nat) (e : Int) : Int × Nat × Int :=
  if e ≠ 0 then (0, p, e) else if p < s.size then (if is (byteAt s p) then (byteAt s p, p + 1, 0) else (0, p, 4)) else (0, p, 3)

/-- A function's value that tells 'is' of a byte, wherever it is called from w on. -/
def Tells (g : Nat) (w : World) (F : Nat) (cap : Array Value) (is : Int → Bool) : Prop :=
  ∀ (c : Int) (w1 : World), 0 ≤ c → c ≤ 255 → Only g w w1 → Calls Try.prog F (#[.int .u8 c] ++ cap) w1 fun en w' => en = .returned (.bool (is c)) ∧ Below w1.heap.size w1 w'

def NextPost (g : Nat) (s : ByteArray) (v : Value) (r : Int × Nat × Int) (w : World) (en : Ending) (w' : World) : Prop :=
  en = .returned (.int .u8 r.1) ∧ Sx w' g s (r.2.1 : Int) v r.2.2 ∧ Only g w w'

theorem next_err (g : Nat) (s : ByteArray) (p : Nat) (v : Value) (e : Int) (fv : Value) (w : World) (h : Sx w g s p v e) (he : (e != 0) = true) :
    Calls Try.prog 54 #[.pointer (some ⟨g, 0, none⟩), fv] w (NextPost g s v (0, p, e) w) := by
  have c3 := h.c3
  go_enter Try.func54, Try.ntmps54
  go_wp2
  go_ret
  exact ⟨rfl, h, Only.of (Below.refl _ _)⟩
theorem Only.drewN {g : Nat} {a w : World} (h : Only g a w) (n : Nat) : Only g a (w.drewN n) := ⟨h.os, h.tape, h.output, h.size, h.block⟩
theorem Sx.drewN {W : World} {g : Nat} {s : ByteArray} {p e : Int} {v : Value} (h : Sx W g s p v e) (n : Nat) : Sx (W.drewN n) g s p v e := h
theorem next_end (g : Nat) (s : ByteArray) (p : Nat) (v : Value) (fv : Value) (w : World) (h : Sx w g s p v 0) (hp : p = s.size) :
    Calls Try.prog 54 #[.pointer (some ⟨g, 0, none⟩), fv] w (NextPost g s v (0, p, 3) w) := by
  subst hp
  have c0 := h.c0
  have c1 := h.c1
  have c3 := h.c3
  have f3 := h.fz 3
  go_enter Try.func54, Try.ntmps54
  go_wp2
  go_quiet (fail)
  go_wp2
  go_ret
  exact ⟨rfl, (h.drewN _).err' 3, (Only.of (Below.refl _ _)).drewN _ |>.set 3 _⟩

set_option maxHeartbeats 2000000 in
set_option maxRecDepth 100000 in
theorem next_no (g : Nat) (s : ByteArray) (p : Nat) (v : Value) (F : Nat) (cap : Array Value) (is : Int → Bool) (w : World) (h : Sx w g s p v 0) (hp : p < s.size) (hcf : ∀ (xs : Array Value) (W : World), (callFunc F xs).run Try.prog W = .ok (.enter F xs) W) (hf : Tells g w F cap is) (hn : is (byteAt s p) = false) :
    Calls Try.prog 54 #[.pointer (some ⟨g, 0, none⟩), .func (.func F) #[] cap] w (NextPost g s v (0, p, 4) w) := by
  have c0 := h.c0
  have c1 := h.c1
  have c3 := h.c3
  have f3 := h.fz 3
  have hq : ((p : Int) == (s.size : Int)) = false := by simp; omega
  go_enter Try.func54, Try.ntmps54
  go_wp2
  go_quiet (fail)
  go_wp2
  generalize hwq : w.drewN _ = wq
  have h1 : Sx wq g s p v 0 := by rw [← hwq]; exact h.drewN _
  have ho : Only g w wq := by rw [← hwq]; exact (Only.of (Below.refl _ _)).drewN _
  clear hwq
  have d0 := h1.c0
  have d1 := h1.c1
  go_still_tail 10, (by kernel_rfl)
  change wpList _ _ _ _ _ wq.drew
  have h2 := h1.drew
  have ho2 : Only g w wq.drew := ho.drew
  generalize wq.drew = w2 at h2 ho2 ⊢
  clear h1 d0 d1 ho
  have hby : byteAt s p = (s[p].toNat : Int) := by
    unfold byteAt
    rw [List.getD_eq_getElem?_getD, List.getElem?_eq_getElem (by simpa using hp)]; rfl
  have hc := hf (s[p].toNat : Int) w2 (by omega) (by have := s[p].toNat_lt; omega) ho2
  rw [← hby, hn, hby] at hc
  have hC := Lib.hid hc
  clear hc hf
  go_wp2_with (fail)
  refine hC.out.mono ?_
  rintro en w3 ⟨rfl, hb3⟩
  have h3 := h2.below hb3
  have e3 := h3.c3
  have g3 := h3.fz 3
  go_wp2
  go_ret
  exact ⟨rfl, h3.err' 4, Only.set (ho2.trans (Only.of hb3)) 3 _⟩
set_option maxHeartbeats 2000000 in
set_option maxRecDepth 100000 in
theorem next_yes (g : Nat) (s : ByteArray) (p : Nat) (v : Value) (F : Nat) (cap : Array Value) (is : Int → Bool) (w : World) (h : Sx w g s p v 0) (hp : p < s.size) (hcf : ∀ (xs : Array Value) (W : World), (callFunc F xs).run Try.prog W = .ok (.enter F xs) W) (hf : Tells g w F cap is) (hn : is (byteAt s p) = true) (hz : s.size ≤ 4611686018427387904) :
    Calls Try.prog 54 #[.pointer (some ⟨g, 0, none⟩), .func (.func F) #[] cap] w (NextPost g s v (byteAt s p, p + 1, 0) w) := by
  have c0 := h.c0
  have c1 := h.c1
  have c3 := h.c3
  have f3 := h.fz 3
  have hq : ((p : Int) == (s.size : Int)) = false := by simp; omega
  go_enter Try.func54, Try.ntmps54
  go_wp2
  go_quiet (fail)
  go_wp2
  generalize hwq : w.drewN _ = wq
  have h1 : Sx wq g s p v 0 := by rw [← hwq]; exact h.drewN _
  have ho : Only g w wq := by rw [← hwq]; exact (Only.of (Below.refl _ _)).drewN _
  clear hwq
  have d0 := h1.c0
  have d1 := h1.c1
  go_still_tail 10, (by kernel_rfl)
  change wpList _ _ _ _ _ wq.drew
  have h2 := h1.drew
  have ho2 : Only g w wq.drew := ho.drew
  generalize wq.drew = w2 at h2 ho2 ⊢
  clear h1 d0 d1 ho
  have hby : byteAt s p = (s[p].toNat : Int) := by
    unfold byteAt
    rw [List.getD_eq_getElem?_getD, List.getElem?_eq_getElem (by simpa using hp)]; rfl
  have hc := hf (s[p].toNat : Int) w2 (by omega) (by have := s[p].toNat_lt; omega) ho2
  rw [← hby, hn, hby] at hc
  have hC := Lib.hid hc
  clear hc hf
  go_wp2_with (fail)
  refine hC.out.mono ?_
  rintro en w3 ⟨rfl, hb3⟩
  have h3 := h2.below hb3
  have e1 := h3.c1
  have g1 := h3.fz 1
  have h4 := h3.at' ((p : Int) + 1)
  have e4 := h4.c0
  have e5 := h4.c1
  have e6 : (p : Int) + 1 - 1 = p := by omega
  go_wp2
  go_quiet (fail)
  go_wp2
  go_ret
  exact ⟨by rw [hby]; rfl, by exact_mod_cast h4.drewN _, (Only.set (ho2.trans (Only.of hb3)) 1 _).drewN _⟩

theorem next_any (g : Nat) (s : ByteArray) (p : Nat) (v : Value) (e : Int) (F : Nat) (cap : Array Value) (is : Int → Bool) (w : World) (h : Sx w g s p v e) (hp : p ≤ s.size) (hz : s.size ≤ 4611686018427387904)
    (hcf : ∀ (xs : Array Value) (W : World), (callFunc F xs).run Try.prog W = .ok (.enter F xs) W) (hf : Tells g w F cap is) :
    Calls Try.prog 54 #[.pointer (some ⟨g, 0, none⟩), .func (.func F) #[] cap] w (NextPost g s v (nx s is p e) w) := by
  unfold nx
  by_cases he : e = 0
  · subst he
    rw [if_neg (by omega)]
    by_cases hl : p < s.size
    · rw [if_pos hl]
      cases hi : is (byteAt s p) with
      | true => exact next_yes g s p v F cap is w h hl hcf hf hi hz
      | false => exact next_no g s p v F cap is w h hl hcf hf hi
    · rw [if_neg hl]
      exact next_end g s p v _ w h (by omega)
  · rw [if_pos he]
    exact next_err g s p v e _ w h (by simpa using he)

theorem cf55 (xs : Array Value) (W : World) : (callFunc 55 xs).run Try.prog W = .ok (.enter 55 xs) W := by rfl
theorem is55 (g : Nat) (w : World) : Tells g w 55 #[] (fun c => c == 34) := by
  intro c w1 _ _ _
  show Calls Try.prog 55 #[.int .u8 c] w1 _
  go_enter Try.func55, Try.ntmps55
  go_wp2
  go_ret
  exact ⟨rfl, Below.refl _ _⟩
theorem cf56 (xs : Array Value) (W : World) : (callFunc 56 xs).run Try.prog W = .ok (.enter 56 xs) W := by rfl
theorem is56 (g : Nat) (w : World) : Tells g w 56 #[] (fun c => decide (32 ≤ c)) := by
  intro c w1 _ _ _
  show Calls Try.prog 56 #[.int .u8 c] w1 _
  go_enter Try.func56, Try.ntmps56
  go_wp2
  go_ret
  exact ⟨rfl, Below.refl _ _⟩
theorem cf71 (xs : Array Value) (W : World) : (callFunc 71 xs).run Try.prog W = .ok (.enter 71 xs) W := by rfl
theorem is71 (g b : Nat) (x : Int) (w : World) (hb : w.cell? ⟨b, 0, none⟩ = some (.int .u8 x)) (hne : b ≠ g) : Tells g w 71 #[.pointer (some ⟨b, 0, none⟩)] (fun c => c == x) := by
  intro c w1 _ _ ho
  show Calls Try.prog 71 #[.int .u8 c, .pointer (some ⟨b, 0, none⟩)] w1 _
  have h1 : w1.cell? ⟨b, 0, none⟩ = some (.int .u8 x) := (World.cell?_of_block (w := w) (a := ⟨b, 0, none⟩) (ho.block b (block_lt_of_cell hb) (by simpa using hne))).trans hb
  go_enter Try.func71, Try.ntmps71
  go_wp2
  go_ret
  exact ⟨rfl, Below.refl _ _⟩
end Go.Proofs.Ytlbokaekhjjabaa

/-
  The walk of utf.Point: what it computes is 'pt'.
-/
namespace Go.Proofs.Ytlbokaekhjjabaa
open Go.RowKit Go.Proofs.YtlbokaekhjjabaaW.PrintWords Go.Proofs.YtlbokaekhjjabaaW.PrintLast Go.Proofs.YtlbokaekhjjabaaW.PrintMore

/-- What a byte adds to a code point of n bytes. -/
def vst (n i c acc : Int) : Int := if n = 1 then c else if i = 0 then (if n = 2 then c % 32 else if n = 3 then c % 16 else c % 8) else acc * 64 + c % 64
/-- The bytes of a code point of n, one behind the other. -/
def ptGo (n : Int) : List UInt8 → Int → St → Int → Int × Int
  | [], i, _, acc => if i < n then (0, 0) else (acc, n)
  | c :: t, i, st, acc => if i < n then (match stp st c.toNat (-1) with
    | none => (0, 0)
    | some st' => ptGo n t (i + 1) st' (vst n i c.toNat acc)) else (acc, n)
/-- The first code point, and how many bytes it has. -/
def ptL : List UInt8 → Int × Int
  | [] => (0, 0)
  | c :: t => if (rowOf leadRows c.toNat).2.2.1 = 0 ∨ (rowOf leadRows c.toNat).2.2.1 > ((c :: t).length : Int) then (0, 0) else ptGo (rowOf leadRows c.toNat).2.2.1 (c :: t) 0 st0 0
def pt (s : ByteArray) : Int × Int := ptL s.data.toList

theorem pt_some (s : ByteArray) (h : 0 < s.size) : pt s = if (rowOf leadRows s[0].toNat).2.2.1 = 0 ∨ (rowOf leadRows s[0].toNat).2.2.1 > (s.size : Int) then (0, 0) else ptGo (rowOf leadRows s[0].toNat).2.2.1 s.data.toList 0 st0 0 := by
  have h0 := data_drop s 0 h
  rw [List.drop_zero] at h0
  obtain ⟨t, ht⟩ : ∃ t, s.data.toList = s[0] :: t := ⟨_, h0⟩
  have hl : ((s[0] :: t).length : Int) = s.size := by rw [← ht]; simp
  unfold pt
  rw [ht]
  simp only [ptL, hl]

set_option maxHeartbeats 1000000 in
set_option maxRecDepth 100000 in
theorem point_nil (s : ByteArray) (w : World) (h : s.size = 0) :
    Calls Try.prog 26 #[.string s] w (Pair (pt s) w) := by
  have h0 : s.data.toList = [] := List.eq_nil_of_length_eq_zero (by simpa using h)
  have h1 : s.toList = [] := by rw [ByteArray.toList_eq, h0]
  have hp : pt s = (0, 0) := by unfold pt; rw [h0]; rfl
  have HP := Lib.hid hp
  clear hp h0
  go_enter Try.func26, Try.ntmps26
  go_wp2
  go_ret2
  exact ⟨by rw [HP.out]; rfl, Below.refl _ _⟩

theorem ne_nil (s : ByteArray) (h : 0 < s.size) : s.toList.isEmpty = false ∧ s.toList ≠ [] := by
  have : s.toList ≠ [] := by
    rw [ByteArray.toList_eq]
    intro e
    have h1 : s.data.toList.length = 0 := by rw [e]; rfl
    have h2 := data_length s
    omega
  exact ⟨by cases hl : s.toList with | nil => exact absurd hl this | cons _ _ => rfl, this⟩

set_option maxHeartbeats 1000000 in
set_option maxRecDepth 100000 in
theorem point_none (s : ByteArray) (w : World) (h : 0 < s.size) (hn : (rowOf leadRows s[0].toNat).2.2.1 = 0) :
    Calls Try.prog 26 #[.string s] w (Pair (pt s) w) := by
  obtain ⟨hne, hne2⟩ := ne_nil s h
  have hp : pt s = (0, 0) := by rw [pt_some s h, if_pos (.inl hn)]
  obtain ⟨q1, q2, n, q3, q4, hr⟩ : ∃ q1 q2 n q3 q4, rowOf leadRows s[0].toNat = (q1, q2, n, q3, q4) := ⟨_, _, _, _, _, rfl⟩
  rw [hr] at hn
  obtain rfl : n = 0 := hn
  have HR := Lib.hid hr
  have HP := Lib.hid hp
  clear hr hp
  go_enter Try.func26, Try.ntmps26
  go_wp2_with (go_at_call 47; refine (row_any s[0].toNat _).mono ?_; rintro e w1 ⟨rfl, hb1⟩; rw [HR.out]; unfold aggOf; dsimp only)
  go_ret2
  exact ⟨by rw [HP.out]; rfl, hb1.alloc hb1.size _⟩

set_option maxHeartbeats 1000000 in
set_option maxRecDepth 100000 in
theorem point_short (s : ByteArray) (w : World) (h : 0 < s.size) (hn : ¬ (rowOf leadRows s[0].toNat).2.2.1 = 0) (hl : (s.size : Int) < (rowOf leadRows s[0].toNat).2.2.1) :
    Calls Try.prog 26 #[.string s] w (Pair (pt s) w) := by
  obtain ⟨hne, hne2⟩ := ne_nil s h
  have hp : pt s = (0, 0) := by rw [pt_some s h, if_pos (.inr hl)]
  obtain ⟨q1, q2, n, q3, q4, hr⟩ : ∃ q1 q2 n q3 q4, rowOf leadRows s[0].toNat = (q1, q2, n, q3, q4) := ⟨_, _, _, _, _, rfl⟩
  rw [hr] at hn hl
  dsimp only at hn hl
  have hn' : (n == 0) = false := by simpa using hn
  have HR := Lib.hid hr
  have HP := Lib.hid hp
  clear hr hp
  go_enter Try.func26, Try.ntmps26
  go_wp2_with (go_at_call 47; refine (row_any s[0].toNat _).mono ?_; rintro e w1 ⟨rfl, hb1⟩; rw [HR.out]; unfold aggOf; dsimp only)
  go_ret2
  exact ⟨by rw [HP.out]; rfl, hb1.alloc hb1.size _⟩

theorem wraps_i64 (n : Int) (h₀ : 0 ≤ n) (h₁ : n < 2 ^ 62) : IntKind.i64.wrap n = n := by rw [IntKind.wrap_i64]; omega
theorem and63 (x : Int) (h₀ : 0 ≤ x) (h₁ : x < 256) : bits .and .i64 x 63 = x % 64 := bits_mask .i64 62 (by decide) wraps_i64 6 (by decide) x h₀ (by omega)
theorem or6 (x y : Int) (hx₀ : 0 ≤ x) (hx : x % 64 = 0) (hx₁ : x < 4294967296) (h₀ : 0 ≤ y) (h₁ : y < 64) : bits .or .i64 x y = x + y :=
  bits_join .i64 62 (by decide) wraps_i64 6 x y hx₀ hx (by omega) h₀ h₁ (by omega)

theorem Turned.other {W W1 : World} {g o : Nat} {st : St} (ht : Turned g o st W W1) {b j : Nat} {v : Value} (hne : b ≠ g) (h : W.cell? ⟨b, j, none⟩ = some v) : W1.cell? ⟨b, j, none⟩ = some v := by
  obtain ⟨w1, hb, rfl⟩ := ht
  have hno : ∀ q, (⟨g, q, none⟩ : Addr) ≠ ⟨b, j, none⟩ := fun q e => hne (congrArg Addr.block e).symm
  rw [World.cell?_setCell_other _ _ _ _ (hno _), World.cell?_setCell_other _ _ _ _ (hno _), World.cell?_setCell_other _ _ _ _ (hno _)]
  exact (hb.cell (block_lt_of_cell h)).trans h

set_option maxHeartbeats 1000000 in
set_option maxRecDepth 100000 in
theorem point_1 (s : ByteArray) (w : World) (h : 1 ≤ s.size) (hs : s.size ≤ 9223372036854775807) (hn : (rowOf leadRows (s[0]'(by omega)).toNat).2.2.1 = 1) :
    Calls Try.prog 26 #[.string s] w (Pair (pt s) w) := by
  have hz : 0 < s.size := by omega
  obtain ⟨hne, hne2⟩ := ne_nil s hz
  have hp : pt s = ptGo 1 s.data.toList 0 st0 0 := by rw [pt_some s hz, hn, if_neg (by omega)]
  obtain ⟨q1, q2, n, q3, q4, hr⟩ : ∃ q1 q2 n q3 q4, rowOf leadRows s[0].toNat = (q1, q2, n, q3, q4) := ⟨_, _, _, _, _, rfl⟩
  rw [hr] at hn
  obtain rfl : n = 1 := hn
  have HR := Lib.hid hr
  have HP := Lib.hid hp
  clear hr hp
  go_enter Try.func26, Try.ntmps26
  go_wp2_with (go_at_call 47; refine (row_any s[0].toNat _).mono ?_; rintro e w1 ⟨rfl, hb1⟩; rw [HR.out]; unfold aggOf; dsimp only)
  go_loopw [25, 6] (fun i a wr => ∃ (k : Nat) (st : St) (acc : Int), k ≤ 1 ∧ i = .int .i64 k ∧ a = .int .i64 acc ∧ Hid (pt s = ptGo 1 (s.data.toList.drop k) k st acc) ∧ (0 ≤ st.1 ∧ st.1 ≤ 3) ∧ (0 ≤ acc ∧ acc < 32 * 64 ^ k) ∧ Holds wr (w1.heap.size + 1) st ∧ wr.cell? ⟨w1.heap.size, 2, none⟩ = some (.int .i64 1) ∧ Below w.heap.size w wr) (fun i _ _ => 1 - (intOf i).toNat)
  case atStart => exact ⟨0, st0, 0, by omega, rfl, rfl, HP, by decide, by omega, by have := heap_alloc_new (w1.alloc (.cells #[.int .u8 q1, .int .u8 q2, .int .i64 1, .int .u8 q3, .int .u8 q4] 77)) (.cells #[.int .i64 0, .int .u8 0, .int .u8 0] 31); rw [World.size_alloc] at this; exact this, by go_simp, (hb1.alloc hb1.size _).alloc (by have := hb1.size; simp; omega) _⟩
  case round =>
    obtain ⟨k, st, acc, hk, rfl, rfl, hc, h0, ha, hI, hcn, hb⟩ := hrel
    by_cases hlt : k < 1
    · have hlt' : k < s.size := by omega
      have hd := Lib.hid (data_drop s k hlt')
      cases hst : stp st s[k].toNat (-1) with
      | none =>
        have hf : Hid (pt s = (0, 0)) := by
          show pt s = _
          rw [hc.out, hd.out]; simp only [ptGo, hst]; rw [if_pos (by omega)]
        have HS := Lib.hid hst
        clear hst
        go_wp2_with (go_at_call 45; refine (step_no (w1.heap.size + 1) 0 st s[k].toNat (-1) _ hI.c0 hI.c1 hI.c2 HS.out).mono ?_; rintro e w' ⟨rfl, hb'⟩)
        go_ret2
        exact ⟨by rw [hf.out]; rfl, hb.trans (hb'.mono hb.size)⟩
      | some st' =>
        have hf : Hid (pt s = ptGo 1 (s.data.toList.drop (k + 1)) ((k + 1 : Nat) : Int) st' (vst 1 k s[k].toNat acc)) := by
          show pt s = _
          rw [hc.out, hd.out]; simp only [ptGo, hst]; rw [if_pos (by omega)]; rfl
        have h0' := stp_left hst h0
        have HS := Lib.hid hst
        clear hst
        have hu := s[k].toNat_lt
        have hu0 := s[0].toNat_lt
        have hv : Hid (vst 1 k s[k].toNat acc = s[0].toNat) := by
          obtain rfl : k = 0 := by omega
          show vst 1 _ _ _ = _
          simp [vst]
        have hbd : Hid (0 ≤ vst 1 k s[k].toNat acc ∧ vst 1 k s[k].toNat acc < 32 * 64 ^ (k + 1)) := by
          show 0 ≤ _ ∧ _ < _
          rw [hv.out]
          obtain rfl : k = 0 := by omega
          omega
        go_wp2_with (go_at_call 45; refine (step_ok (w1.heap.size + 1) 0 st st' s[k].toNat (-1) _ h0 hI.c0 hI.c1 hI.c2 (hI.fz _) (hI.fz _) (hI.fz _) HS.out).mono ?_; rintro e w' ⟨rfl, hb'⟩; have hcn' := hb'.other (by simp) hcn)
        go_roundw
        case rel => exact ⟨k + 1, st', vst 1 k s[k].toNat acc, by omega, by go_num, by rw [hv.out], hf, h0', hbd.out, hI.turned hb', hcn', hb'.below (by have := hb1.size; omega) hb.size hb⟩
        case measure => simp [intOf]; omega
    · obtain rfl : k = 1 := by omega
      have hf : Hid (pt s = (acc, 1)) := by
        show pt s = _
        rw [hc.out]
        cases hl : s.data.toList.drop 1 <;> (simp only [ptGo]; rw [if_neg (by omega)])
      clear hc
      go_wp2
      go_quiet (fail)
      go_wp2
      go_ret2
      exact ⟨by rw [hf.out]; rfl, pw_below_drewN hb _⟩

set_option maxHeartbeats 1000000 in
set_option maxRecDepth 100000 in
theorem point_2 (s : ByteArray) (w : World) (h : 2 ≤ s.size) (hs : s.size ≤ 9223372036854775807) (hn : (rowOf leadRows (s[0]'(by omega)).toNat).2.2.1 = 2) :
    Calls Try.prog 26 #[.string s] w (Pair (pt s) w) := by
  have hz : 0 < s.size := by omega
  obtain ⟨hne, hne2⟩ := ne_nil s hz
  have hp : pt s = ptGo 2 s.data.toList 0 st0 0 := by rw [pt_some s hz, hn, if_neg (by omega)]
  obtain ⟨q1, q2, n, q3, q4, hr⟩ : ∃ q1 q2 n q3 q4, rowOf leadRows s[0].toNat = (q1, q2, n, q3, q4) := ⟨_, _, _, _, _, rfl⟩
  rw [hr] at hn
  obtain rfl : n = 2 := hn
  have HR := Lib.hid hr
  have HP := Lib.hid hp
  clear hr hp
  go_enter Try.func26, Try.ntmps26
  go_wp2_with (go_at_call 47; refine (row_any s[0].toNat _).mono ?_; rintro e w1 ⟨rfl, hb1⟩; rw [HR.out]; unfold aggOf; dsimp only)
  go_loopw [25, 6] (fun i a wr => ∃ (k : Nat) (st : St) (acc : Int), k ≤ 2 ∧ i = .int .i64 k ∧ a = .int .i64 acc ∧ Hid (pt s = ptGo 2 (s.data.toList.drop k) k st acc) ∧ (0 ≤ st.1 ∧ st.1 ≤ 3) ∧ (0 ≤ acc ∧ acc < 32 * 64 ^ k) ∧ Holds wr (w1.heap.size + 1) st ∧ wr.cell? ⟨w1.heap.size, 2, none⟩ = some (.int .i64 2) ∧ Below w.heap.size w wr) (fun i _ _ => 2 - (intOf i).toNat)
  case atStart => exact ⟨0, st0, 0, by omega, rfl, rfl, HP, by decide, by omega, by have := heap_alloc_new (w1.alloc (.cells #[.int .u8 q1, .int .u8 q2, .int .i64 2, .int .u8 q3, .int .u8 q4] 77)) (.cells #[.int .i64 0, .int .u8 0, .int .u8 0] 31); rw [World.size_alloc] at this; exact this, by go_simp, (hb1.alloc hb1.size _).alloc (by have := hb1.size; simp; omega) _⟩
  case round =>
    obtain ⟨k, st, acc, hk, rfl, rfl, hc, h0, ha, hI, hcn, hb⟩ := hrel
    by_cases hlt : k < 2
    · have hlt' : k < s.size := by omega
      have hd := Lib.hid (data_drop s k hlt')
      cases hst : stp st s[k].toNat (-1) with
      | none =>
        have hf : Hid (pt s = (0, 0)) := by
          show pt s = _
          rw [hc.out, hd.out]; simp only [ptGo, hst]; rw [if_pos (by omega)]
        have HS := Lib.hid hst
        clear hst
        go_wp2_with (go_at_call 45; refine (step_no (w1.heap.size + 1) 0 st s[k].toNat (-1) _ hI.c0 hI.c1 hI.c2 HS.out).mono ?_; rintro e w' ⟨rfl, hb'⟩)
        go_ret2
        exact ⟨by rw [hf.out]; rfl, hb.trans (hb'.mono hb.size)⟩
      | some st' =>
        have hf : Hid (pt s = ptGo 2 (s.data.toList.drop (k + 1)) ((k + 1 : Nat) : Int) st' (vst 2 k s[k].toNat acc)) := by
          show pt s = _
          rw [hc.out, hd.out]; simp only [ptGo, hst]; rw [if_pos (by omega)]; rfl
        have h0' := stp_left hst h0
        have HS := Lib.hid hst
        clear hst
        have hu := s[k].toNat_lt
        by_cases hk0 : k = 0
        · have hk1 : k < 1 := by omega
          clear hk0
          have hu0 := s[0].toNat_lt
          have b1 : bits .and .i64 (s[0].toNat : Int) 31 = (s[0].toNat : Int) % 32 := bits_mask .i64 62 (by decide) wraps_i64 5 (by decide) _ (by omega) (by omega)
          have hv : Hid (vst 2 k s[k].toNat acc = (s[0].toNat : Int) % 32) := by
            obtain rfl : k = 0 := by omega
            show vst 2 _ _ _ = _
            simp [vst]
          have hbd : Hid (0 ≤ vst 2 k s[k].toNat acc ∧ vst 2 k s[k].toNat acc < 32 * 64 ^ (k + 1)) := by
            show 0 ≤ _ ∧ _ < _
            rw [hv.out]
            obtain rfl : k = 0 := by omega
            omega
          go_wp2_with (go_at_call 45; refine (step_ok (w1.heap.size + 1) 0 st st' s[k].toNat (-1) _ h0 hI.c0 hI.c1 hI.c2 (hI.fz _) (hI.fz _) (hI.fz _) HS.out).mono ?_; rintro e w' ⟨rfl, hb'⟩; have hcn' := hb'.other (by simp) hcn)
          go_quiet (fail)
          go_wp2
          go_roundw
          case rel => exact ⟨k + 1, st', vst 2 k s[k].toNat acc, by omega, by go_num, by rw [hv.out], hf, h0', hbd.out, (show Holds w' (w1.heap.size + 1) st' from hI.turned hb'), hcn', pw_below_drewN (hb'.below (by have := hb1.size; omega) hb.size hb) _⟩
          case measure => simp [intOf]; omega
        · have hpw : (64 : Int) ^ k ≤ 64 ^ 3 := by exact_mod_cast Nat.pow_le_pow_right (n := 64) (by decide) (by omega : k ≤ 3)
          have hacc : acc < 8388608 := by omega
          have b1 : bits .and .i64 (s[k].toNat : Int) 63 = (s[k].toNat : Int) % 64 := and63 _ (by omega) (by omega)
          have b2 : bits .or .i64 (acc * 64) ((s[k].toNat : Int) % 64) = acc * 64 + (s[k].toNat : Int) % 64 := or6 _ _ (by omega) (by omega) (by omega) (by omega) (by omega)
          have ha1 := ha.1
          have hv : Hid (vst 2 k s[k].toNat acc = acc * 64 + (s[k].toNat : Int) % 64) := by
            show vst 2 _ _ _ = _
            unfold vst
            rw [if_neg (by decide), if_neg (by omega)]
          have hbd : Hid (0 ≤ vst 2 k s[k].toNat acc ∧ vst 2 k s[k].toNat acc < 32 * 64 ^ (k + 1)) := by
            show 0 ≤ _ ∧ _ < _
            rw [hv.out, Int.pow_succ]
            omega
          go_wp2_with (go_at_call 45; refine (step_ok (w1.heap.size + 1) 0 st st' s[k].toNat (-1) _ h0 hI.c0 hI.c1 hI.c2 (hI.fz _) (hI.fz _) (hI.fz _) HS.out).mono ?_; rintro e w' ⟨rfl, hb'⟩; have hcn' := hb'.other (by simp) hcn)
          go_roundw
          case rel => exact ⟨k + 1, st', vst 2 k s[k].toNat acc, by omega, by go_num, by rw [hv.out], hf, h0', hbd.out, hI.turned hb', hcn', hb'.below (by have := hb1.size; omega) hb.size hb⟩
          case measure => simp [intOf]; omega
    · obtain rfl : k = 2 := by omega
      have hf : Hid (pt s = (acc, 2)) := by
        show pt s = _
        rw [hc.out]
        cases hl : s.data.toList.drop 2 <;> (simp only [ptGo]; rw [if_neg (by omega)])
      clear hc
      go_wp2
      go_quiet (fail)
      go_wp2
      go_ret2
      exact ⟨by rw [hf.out]; rfl, pw_below_drewN hb _⟩

set_option maxHeartbeats 1000000 in
set_option maxRecDepth 100000 in
theorem point_3 (s : ByteArray) (w : World) (h : 3 ≤ s.size) (hs : s.size ≤ 9223372036854775807) (hn : (rowOf leadRows (s[0]'(by omega)).toNat).2.2.1 = 3) :
    Calls Try.prog 26 #[.string s] w (Pair (pt s) w) := by
  have hz : 0 < s.size := by omega
  obtain ⟨hne, hne2⟩ := ne_nil s hz
  have hp : pt s = ptGo 3 s.data.toList 0 st0 0 := by rw [pt_some s hz, hn, if_neg (by omega)]
  obtain ⟨q1, q2, n, q3, q4, hr⟩ : ∃ q1 q2 n q3 q4, rowOf leadRows s[0].toNat = (q1, q2, n, q3, q4) := ⟨_, _, _, _, _, rfl⟩
  rw [hr] at hn
  obtain rfl : n = 3 := hn
  have HR := Lib.hid hr
  have HP := Lib.hid hp
  clear hr hp
  go_enter Try.func26, Try.ntmps26
  go_wp2_with (go_at_call 47; refine (row_any s[0].toNat _).mono ?_; rintro e w1 ⟨rfl, hb1⟩; rw [HR.out]; unfold aggOf; dsimp only)
  go_loopw [25, 6] (fun i a wr => ∃ (k : Nat) (st : St) (acc : Int), k ≤ 3 ∧ i = .int .i64 k ∧ a = .int .i64 acc ∧ Hid (pt s = ptGo 3 (s.data.toList.drop k) k st acc) ∧ (0 ≤ st.1 ∧ st.1 ≤ 3) ∧ (0 ≤ acc ∧ acc < 32 * 64 ^ k) ∧ Holds wr (w1.heap.size + 1) st ∧ wr.cell? ⟨w1.heap.size, 2, none⟩ = some (.int .i64 3) ∧ Below w.heap.size w wr) (fun i _ _ => 3 - (intOf i).toNat)
  case atStart => exact ⟨0, st0, 0, by omega, rfl, rfl, HP, by decide, by omega, by have := heap_alloc_new (w1.alloc (.cells #[.int .u8 q1, .int .u8 q2, .int .i64 3, .int .u8 q3, .int .u8 q4] 77)) (.cells #[.int .i64 0, .int .u8 0, .int .u8 0] 31); rw [World.size_alloc] at this; exact this, by go_simp, (hb1.alloc hb1.size _).alloc (by have := hb1.size; simp; omega) _⟩
  case round =>
    obtain ⟨k, st, acc, hk, rfl, rfl, hc, h0, ha, hI, hcn, hb⟩ := hrel
    by_cases hlt : k < 3
    · have hlt' : k < s.size := by omega
      have hd := Lib.hid (data_drop s k hlt')
      cases hst : stp st s[k].toNat (-1) with
      | none =>
        have hf : Hid (pt s = (0, 0)) := by
          show pt s = _
          rw [hc.out, hd.out]; simp only [ptGo, hst]; rw [if_pos (by omega)]
        have HS := Lib.hid hst
        clear hst
        go_wp2_with (go_at_call 45; refine (step_no (w1.heap.size + 1) 0 st s[k].toNat (-1) _ hI.c0 hI.c1 hI.c2 HS.out).mono ?_; rintro e w' ⟨rfl, hb'⟩)
        go_ret2
        exact ⟨by rw [hf.out]; rfl, hb.trans (hb'.mono hb.size)⟩
      | some st' =>
        have hf : Hid (pt s = ptGo 3 (s.data.toList.drop (k + 1)) ((k + 1 : Nat) : Int) st' (vst 3 k s[k].toNat acc)) := by
          show pt s = _
          rw [hc.out, hd.out]; simp only [ptGo, hst]; rw [if_pos (by omega)]; rfl
        have h0' := stp_left hst h0
        have HS := Lib.hid hst
        clear hst
        have hu := s[k].toNat_lt
        by_cases hk0 : k = 0
        · have hk1 : k < 1 := by omega
          clear hk0
          have hu0 := s[0].toNat_lt
          have b1 : bits .and .i64 (s[0].toNat : Int) 15 = (s[0].toNat : Int) % 16 := bits_mask .i64 62 (by decide) wraps_i64 4 (by decide) _ (by omega) (by omega)
          have hv : Hid (vst 3 k s[k].toNat acc = (s[0].toNat : Int) % 16) := by
            obtain rfl : k = 0 := by omega
            show vst 3 _ _ _ = _
            simp [vst]
          have hbd : Hid (0 ≤ vst 3 k s[k].toNat acc ∧ vst 3 k s[k].toNat acc < 32 * 64 ^ (k + 1)) := by
            show 0 ≤ _ ∧ _ < _
            rw [hv.out]
            obtain rfl : k = 0 := by omega
            omega
          go_wp2_with (go_at_call 45; refine (step_ok (w1.heap.size + 1) 0 st st' s[k].toNat (-1) _ h0 hI.c0 hI.c1 hI.c2 (hI.fz _) (hI.fz _) (hI.fz _) HS.out).mono ?_; rintro e w' ⟨rfl, hb'⟩; have hcn' := hb'.other (by simp) hcn)
          go_quiet (fail)
          go_wp2
          go_roundw
          case rel => exact ⟨k + 1, st', vst 3 k s[k].toNat acc, by omega, by go_num, by rw [hv.out], hf, h0', hbd.out, (show Holds w' (w1.heap.size + 1) st' from hI.turned hb'), hcn', pw_below_drewN (hb'.below (by have := hb1.size; omega) hb.size hb) _⟩
          case measure => simp [intOf]; omega
        · have hpw : (64 : Int) ^ k ≤ 64 ^ 3 := by exact_mod_cast Nat.pow_le_pow_right (n := 64) (by decide) (by omega : k ≤ 3)
          have hacc : acc < 8388608 := by omega
          have b1 : bits .and .i64 (s[k].toNat : Int) 63 = (s[k].toNat : Int) % 64 := and63 _ (by omega) (by omega)
          have b2 : bits .or .i64 (acc * 64) ((s[k].toNat : Int) % 64) = acc * 64 + (s[k].toNat : Int) % 64 := or6 _ _ (by omega) (by omega) (by omega) (by omega) (by omega)
          have ha1 := ha.1
          have hv : Hid (vst 3 k s[k].toNat acc = acc * 64 + (s[k].toNat : Int) % 64) := by
            show vst 3 _ _ _ = _
            unfold vst
            rw [if_neg (by decide), if_neg (by omega)]
          have hbd : Hid (0 ≤ vst 3 k s[k].toNat acc ∧ vst 3 k s[k].toNat acc < 32 * 64 ^ (k + 1)) := by
            show 0 ≤ _ ∧ _ < _
            rw [hv.out, Int.pow_succ]
            omega
          go_wp2_with (go_at_call 45; refine (step_ok (w1.heap.size + 1) 0 st st' s[k].toNat (-1) _ h0 hI.c0 hI.c1 hI.c2 (hI.fz _) (hI.fz _) (hI.fz _) HS.out).mono ?_; rintro e w' ⟨rfl, hb'⟩; have hcn' := hb'.other (by simp) hcn)
          go_roundw
          case rel => exact ⟨k + 1, st', vst 3 k s[k].toNat acc, by omega, by go_num, by rw [hv.out], hf, h0', hbd.out, hI.turned hb', hcn', hb'.below (by have := hb1.size; omega) hb.size hb⟩
          case measure => simp [intOf]; omega
    · obtain rfl : k = 3 := by omega
      have hf : Hid (pt s = (acc, 3)) := by
        show pt s = _
        rw [hc.out]
        cases hl : s.data.toList.drop 3 <;> (simp only [ptGo]; rw [if_neg (by omega)])
      clear hc
      go_wp2
      go_quiet (fail)
      go_wp2
      go_ret2
      exact ⟨by rw [hf.out]; rfl, pw_below_drewN hb _⟩

set_option maxHeartbeats 1000000 in
set_option maxRecDepth 100000 in
theorem point_4 (s : ByteArray) (w : World) (h : 4 ≤ s.size) (hs : s.size ≤ 9223372036854775807) (hn : (rowOf leadRows (s[0]'(by omega)).toNat).2.2.1 = 4) :
    Calls Try.prog 26 #[.string s] w (Pair (pt s) w) := by
  have hz : 0 < s.size := by omega
  obtain ⟨hne, hne2⟩ := ne_nil s hz
  have hp : pt s = ptGo 4 s.data.toList 0 st0 0 := by rw [pt_some s hz, hn, if_neg (by omega)]
  obtain ⟨q1, q2, n, q3, q4, hr⟩ : ∃ q1 q2 n q3 q4, rowOf leadRows s[0].toNat = (q1, q2, n, q3, q4) := ⟨_, _, _, _, _, rfl⟩
  rw [hr] at hn
  obtain rfl : n = 4 := hn
  have HR := Lib.hid hr
  have HP := Lib.hid hp
  clear hr hp
  go_enter Try.func26, Try.ntmps26
  go_wp2_with (go_at_call 47; refine (row_any s[0].toNat _).mono ?_; rintro e w1 ⟨rfl, hb1⟩; rw [HR.out]; unfold aggOf; dsimp only)
  go_loopw [25, 6] (fun i a wr => ∃ (k : Nat) (st : St) (acc : Int), k ≤ 4 ∧ i = .int .i64 k ∧ a = .int .i64 acc ∧ Hid (pt s = ptGo 4 (s.data.toList.drop k) k st acc) ∧ (0 ≤ st.1 ∧ st.1 ≤ 3) ∧ (0 ≤ acc ∧ acc < 32 * 64 ^ k) ∧ Holds wr (w1.heap.size + 1) st ∧ wr.cell? ⟨w1.heap.size, 2, none⟩ = some (.int .i64 4) ∧ Below w.heap.size w wr) (fun i _ _ => 4 - (intOf i).toNat)
  case atStart => exact ⟨0, st0, 0, by omega, rfl, rfl, HP, by decide, by omega, by have := heap_alloc_new (w1.alloc (.cells #[.int .u8 q1, .int .u8 q2, .int .i64 4, .int .u8 q3, .int .u8 q4] 77)) (.cells #[.int .i64 0, .int .u8 0, .int .u8 0] 31); rw [World.size_alloc] at this; exact this, by go_simp, (hb1.alloc hb1.size _).alloc (by have := hb1.size; simp; omega) _⟩
  case round =>
    obtain ⟨k, st, acc, hk, rfl, rfl, hc, h0, ha, hI, hcn, hb⟩ := hrel
    by_cases hlt : k < 4
    · have hlt' : k < s.size := by omega
      have hd := Lib.hid (data_drop s k hlt')
      cases hst : stp st s[k].toNat (-1) with
      | none =>
        have hf : Hid (pt s = (0, 0)) := by
          show pt s = _
          rw [hc.out, hd.out]; simp only [ptGo, hst]; rw [if_pos (by omega)]
        have HS := Lib.hid hst
        clear hst
        go_wp2_with (go_at_call 45; refine (step_no (w1.heap.size + 1) 0 st s[k].toNat (-1) _ hI.c0 hI.c1 hI.c2 HS.out).mono ?_; rintro e w' ⟨rfl, hb'⟩)
        go_ret2
        exact ⟨by rw [hf.out]; rfl, hb.trans (hb'.mono hb.size)⟩
      | some st' =>
        have hf : Hid (pt s = ptGo 4 (s.data.toList.drop (k + 1)) ((k + 1 : Nat) : Int) st' (vst 4 k s[k].toNat acc)) := by
          show pt s = _
          rw [hc.out, hd.out]; simp only [ptGo, hst]; rw [if_pos (by omega)]; rfl
        have h0' := stp_left hst h0
        have HS := Lib.hid hst
        clear hst
        have hu := s[k].toNat_lt
        by_cases hk0 : k = 0
        · have hk1 : k < 1 := by omega
          clear hk0
          have hu0 := s[0].toNat_lt
          have b1 : bits .and .i64 (s[0].toNat : Int) 7 = (s[0].toNat : Int) % 8 := bits_mask .i64 62 (by decide) wraps_i64 3 (by decide) _ (by omega) (by omega)
          have hv : Hid (vst 4 k s[k].toNat acc = (s[0].toNat : Int) % 8) := by
            obtain rfl : k = 0 := by omega
            show vst 4 _ _ _ = _
            simp [vst]
          have hbd : Hid (0 ≤ vst 4 k s[k].toNat acc ∧ vst 4 k s[k].toNat acc < 32 * 64 ^ (k + 1)) := by
            show 0 ≤ _ ∧ _ < _
            rw [hv.out]
            obtain rfl : k = 0 := by omega
            omega
          go_wp2_with (go_at_call 45; refine (step_ok (w1.heap.size + 1) 0 st st' s[k].toNat (-1) _ h0 hI.c0 hI.c1 hI.c2 (hI.fz _) (hI.fz _) (hI.fz _) HS.out).mono ?_; rintro e w' ⟨rfl, hb'⟩; have hcn' := hb'.other (by simp) hcn)
          go_quiet (fail)
          go_wp2
          go_roundw
          case rel => exact ⟨k + 1, st', vst 4 k s[k].toNat acc, by omega, by go_num, by rw [hv.out], hf, h0', hbd.out, (show Holds w' (w1.heap.size + 1) st' from hI.turned hb'), hcn', pw_below_drewN (hb'.below (by have := hb1.size; omega) hb.size hb) _⟩
          case measure => simp [intOf]; omega
        · have hpw : (64 : Int) ^ k ≤ 64 ^ 3 := by exact_mod_cast Nat.pow_le_pow_right (n := 64) (by decide) (by omega : k ≤ 3)
          have hacc : acc < 8388608 := by omega
          have b1 : bits .and .i64 (s[k].toNat : Int) 63 = (s[k].toNat : Int) % 64 := and63 _ (by omega) (by omega)
          have b2 : bits .or .i64 (acc * 64) ((s[k].toNat : Int) % 64) = acc * 64 + (s[k].toNat : Int) % 64 := or6 _ _ (by omega) (by omega) (by omega) (by omega) (by omega)
          have ha1 := ha.1
          have hv : Hid (vst 4 k s[k].toNat acc = acc * 64 + (s[k].toNat : Int) % 64) := by
            show vst 4 _ _ _ = _
            unfold vst
            rw [if_neg (by decide), if_neg (by omega)]
          have hbd : Hid (0 ≤ vst 4 k s[k].toNat acc ∧ vst 4 k s[k].toNat acc < 32 * 64 ^ (k + 1)) := by
            show 0 ≤ _ ∧ _ < _
            rw [hv.out, Int.pow_succ]
            omega
          go_wp2_with (go_at_call 45; refine (step_ok (w1.heap.size + 1) 0 st st' s[k].toNat (-1) _ h0 hI.c0 hI.c1 hI.c2 (hI.fz _) (hI.fz _) (hI.fz _) HS.out).mono ?_; rintro e w' ⟨rfl, hb'⟩; have hcn' := hb'.other (by simp) hcn)
          go_roundw
          case rel => exact ⟨k + 1, st', vst 4 k s[k].toNat acc, by omega, by go_num, by rw [hv.out], hf, h0', hbd.out, hI.turned hb', hcn', hb'.below (by have := hb1.size; omega) hb.size hb⟩
          case measure => simp [intOf]; omega
    · obtain rfl : k = 4 := by omega
      have hf : Hid (pt s = (acc, 4)) := by
        show pt s = _
        rw [hc.out]
        cases hl : s.data.toList.drop 4 <;> (simp only [ptGo]; rw [if_neg (by omega)])
      clear hc
      go_wp2
      go_quiet (fail)
      go_wp2
      go_ret2
      exact ⟨by rw [hf.out]; rfl, pw_below_drewN hb _⟩

theorem point_any (s : ByteArray) (w : World) (hs : s.size ≤ 9223372036854775807) : Calls Try.prog 26 #[.string s] w (Pair (pt s) w) := by
  by_cases h : s.size = 0
  · exact point_nil s w h
  · have hz : 0 < s.size := by omega
    have hb := rowOf_n s[0].toNat
    by_cases hn : (rowOf leadRows s[0].toNat).2.2.1 = 0
    · exact point_none s w hz hn
    · by_cases hl : (s.size : Int) < (rowOf leadRows s[0].toNat).2.2.1
      · exact point_short s w hz hn hl
      · obtain h1 | h1 | h1 | h1 : (rowOf leadRows s[0].toNat).2.2.1 = 1 ∨ (rowOf leadRows s[0].toNat).2.2.1 = 2 ∨ (rowOf leadRows s[0].toNat).2.2.1 = 3 ∨ (rowOf leadRows s[0].toNat).2.2.1 = 4 := by omega
        · exact point_1 s w (by omega) hs h1
        · exact point_2 s w (by omega) hs h1
        · exact point_3 s w (by omega) hs h1
        · exact point_4 s w (by omega) hs h1
end Go.Proofs.Ytlbokaekhjjabaa

/-
  esc's scan: the closures of escape and unit; digit; unit.
-/
namespace Go.Proofs.Ytlbokaekhjjabaa
open Go.RowKit Go.Proofs.YtlbokaekhjjabaaW.PrintWords Go.Proofs.YtlbokaekhjjabaaW.PrintLast Go.Proofs.YtlbokaekhjjabaaW.PrintMore
set_option linter.unusedVariables false

def dig (c : Int) : Int := if 48 ≤ c ∧ c ≤ 57 then c - 48 else if 65 ≤ c ∧ c ≤ 70 then c - 55 else if 97 ≤ c ∧ c ≤ 102 then c - 87 else -1
theorem dig_le (c : Int) : -1 ≤ dig c ∧ dig c ≤ 15 := by unfold dig; repeat' split
                                                         all_goals omega

set_option maxHeartbeats 1000000 in
theorem dig_any (c : Int) (w : World) (h0 : 0 ≤ c) (h1 : c ≤ 255) : Calls Try.prog 80 #[.int .u8 c] w fun en w' => en = .returned (.int .i64 (dig c)) ∧ w' = w := by
  unfold dig
  by_cases ha : 48 ≤ c ∧ c ≤ 57
  · rw [if_pos ha]
    obtain ⟨ha, hb⟩ := ha
    go_enter Try.func80, Try.ntmps80
    go_wp2
    go_ret
    exact ⟨rfl, rfl⟩
  · rw [if_neg ha]
    by_cases hb : 65 ≤ c ∧ c ≤ 70
    · rw [if_pos hb]
      obtain ⟨hb, hc⟩ := hb
      have e1 : c + 32 - 97 + 10 = c - 55 := by omega
      go_enter Try.func80, Try.ntmps80
      go_wp2
      go_ret
      exact ⟨rfl, rfl⟩
    · rw [if_neg hb]
      by_cases hc : 97 ≤ c ∧ c ≤ 102
      · rw [if_pos hc]
        obtain ⟨hc, hd⟩ := hc
        have e1 : c - 97 + 10 = c - 87 := by omega
        go_enter Try.func80, Try.ntmps80
        go_wp2
        go_ret
        exact ⟨rfl, rfl⟩
      · rw [if_neg hc]
        go_enter Try.func80, Try.ntmps80
        go_wp2
        all_goals (go_ret; exact ⟨rfl, rfl⟩)

def hasL : List (Int × Int) → Int → Bool
  | [], _ => false
  | p :: t, c => if p.2 = c then true else hasL t c
theorem has_hit {l t : List (Int × Int)} {p : Int × Int} {c : Int} (h : l = p :: t) (h1 : p.2 = c) : hasL l c = true := by subst h; simp [hasL, h1]
theorem has_miss {l t : List (Int × Int)} {p : Int × Int} {c : Int} (h : l = p :: t) (h1 : ¬ p.2 = c) : hasL l c = hasL t c := by subst h; simp [hasL, h1]
/-- What may stand behind a slash. -/
def escIs (c : Int) : Bool := if c = 34 ∨ c = 92 ∨ c = 47 ∨ c = 117 then true else hasL letterPairs c

set_option maxHeartbeats 1000000 in
set_option maxRecDepth 100000 in
theorem is69 (g : Nat) (w : World) : Tells g w 69 #[] escIs := by
  intro c w1 h0 h1 _
  show Calls Try.prog 69 #[.int .u8 c] w1 _
  unfold escIs
  by_cases hq : c = 34 ∨ c = 92 ∨ c = 47 ∨ c = 117
  · rw [if_pos hq]
    rcases hq with rfl | rfl | rfl | rfl
    all_goals
      go_enter Try.func69, Try.ntmps69
      go_wp2
      go_ret
      exact ⟨rfl, Below.refl _ _⟩
  · rw [if_neg hq]
    have t1 : (c == 34) = false := by simp; omega
    have t2 : (c == 92) = false := by simp; omega
    have t3 : (c == 47) = false := by simp; omega
    have t4 : (c == 117) = false := by simp; omega
    clear hq
    go_enter Try.func69, Try.ntmps69
    go_wp2_with (go_at_call 51; refine (letters_any _).mono ?_; rintro e w' ⟨rfl, rfl⟩)
    go_loopw [20] (fun i wr => ∃ k : Nat, k ≤ 5 ∧ i = .int .i64 k ∧ Hid (hasL letterPairs c = hasL (letterPairs.drop k) c) ∧ Below w1.heap.size w1 wr) (fun i _ => 5 - (intOf i).toNat)
    case atStart => exact ⟨0, by omega, rfl, rfl, (Below.refl _ _).alloc (Nat.le_refl _) _⟩
    case round =>
      obtain ⟨k, hk, rfl, hlet, hB⟩ := hrel
      have hbw := hB.size
      by_cases hlt : k < 5
      · have i1 := index_let k hlt
        obtain ⟨p, q, hr⟩ : ∃ p q, letterPairs.getD k (0, 0) = (p, q) := ⟨_, _, rfl⟩
        have hd := Lib.hid (drop_let hlt hr)
        rw [hr] at i1
        clear hr
        dsimp only at i1
        by_cases hpc : q = c
        · have ht : (q == c) = true := by simpa using hpc
          have hf := Lib.hid (hlet.out.trans (has_hit hd.out hpc))
          clear hpc
          go_wp2
          go_ret
          exact ⟨by rw [hf.out]; rfl, hB.alloc hbw _⟩
        · have ht : (q == c) = false := by simpa using hpc
          have hf := Lib.hid (hlet.out.trans (has_miss hd.out hpc))
          clear hpc
          go_wp2
          go_roundw
          case rel => exact ⟨k + 1, by omega, by go_num, hf, hB.alloc hbw _⟩
          case measure => simp [intOf]; omega
      · obtain rfl : k = 5 := by omega
        have hf : Hid (hasL letterPairs c = false) := hlet.out
        go_wp2
        go_ret
        exact ⟨by rw [hf.out]; rfl, hB⟩
theorem cf69 (xs : Array Value) (W : World) : (callFunc 69 xs).run Try.prog W = .ok (.enter 69 xs) W := by rfl

/-- What a digit of a unit may be. -/
def unitIs (low : Bool) (i u : Int) (c : Int) : Bool :=
  if dig c < 0 then false else if low = true ∧ i = 0 then dig c == 13 else if i = 1 ∧ u = 13 then low == decide (12 ≤ dig c) else true
theorem cf79 (xs : Array Value) (W : World) : (callFunc 79 xs).run Try.prog W = .ok (.enter 79 xs) W := by rfl
set_option maxHeartbeats 1000000 in
set_option maxRecDepth 100000 in
theorem is79 (g b1 b2 b3 : Nat) (low : Bool) (i u : Int) (w : World) (h1 : w.cell? ⟨b1, 0, none⟩ = some (.bool low)) (h2 : w.cell? ⟨b2, 0, none⟩ = some (.int .i64 i)) (h3 : w.cell? ⟨b3, 0, none⟩ = some (.int .i64 u)) (n1 : b1 ≠ g) (n2 : b2 ≠ g) (n3 : b3 ≠ g) :
    Tells g w 79 #[.pointer (some ⟨b1, 0, none⟩), .pointer (some ⟨b2, 0, none⟩), .pointer (some ⟨b3, 0, none⟩)] (unitIs low i u) := by
  intro c w1 hc0 hc1 ho
  show Calls Try.prog 79 #[.int .u8 c, .pointer (some ⟨b1, 0, none⟩), .pointer (some ⟨b2, 0, none⟩), .pointer (some ⟨b3, 0, none⟩)] w1 _
  have k1 : w1.cell? ⟨b1, 0, none⟩ = some (.bool low) := (World.cell?_of_block (w := w) (a := ⟨b1, 0, none⟩) (ho.block b1 (block_lt_of_cell h1) (by simpa using n1))).trans h1
  have k2 : w1.cell? ⟨b2, 0, none⟩ = some (.int .i64 i) := (World.cell?_of_block (w := w) (a := ⟨b2, 0, none⟩) (ho.block b2 (block_lt_of_cell h2) (by simpa using n2))).trans h2
  have k3 : w1.cell? ⟨b3, 0, none⟩ = some (.int .i64 u) := (World.cell?_of_block (w := w) (a := ⟨b3, 0, none⟩) (ho.block b3 (block_lt_of_cell h3) (by simpa using n3))).trans h3
  obtain ⟨d, hd⟩ : ∃ d, dig c = d := ⟨_, rfl⟩
  have hD := Lib.hid hd
  have hc := Lib.hid (dig_any c w1 hc0 hc1)
  rw [hd] at hc
  unfold unitIs
  rw [hd]
  clear hd
  by_cases hn : d < 0
  · rw [if_pos hn]
    go_enter Try.func79, Try.ntmps79
    go_wp2_with (go_at_call 80; refine hc.out.mono ?_; rintro e w' ⟨rfl, rfl⟩)
    go_ret
    exact ⟨rfl, Below.refl _ _⟩
  · rw [if_neg hn]
    by_cases hl : low = true ∧ i = 0
    · rw [if_pos hl]
      obtain ⟨rfl, rfl⟩ := hl
      go_enter Try.func79, Try.ntmps79
      go_wp2_with (go_at_call 80; refine hc.out.mono ?_; rintro e w' ⟨rfl, rfl⟩)
      go_ret
      exact ⟨rfl, Below.refl _ _⟩
    · rw [if_neg hl]
      have hli : low = false ∨ (low = true ∧ (i == 0) = false) := by
        cases low with
        | false => exact .inl rfl
        | true => exact .inr ⟨rfl, by simpa using fun e => hl ⟨rfl, e⟩⟩
      clear hl
      by_cases hu : i = 1 ∧ u = 13
      · rw [if_pos hu]
        obtain ⟨rfl, rfl⟩ := hu
        have q0 : (false == decide (12 ≤ d)) = !decide (12 ≤ d) := by cases decide (12 ≤ d) <;> rfl
        have q1 : (true == decide (12 ≤ d)) = decide (12 ≤ d) := by cases decide (12 ≤ d) <;> rfl
        rcases hli with rfl | ⟨rfl, hi⟩
        all_goals
          first | rw [q0] | rw [q1]
          clear q0 q1
          go_enter Try.func79, Try.ntmps79
          go_wp2_with (go_at_call 80; refine hc.out.mono ?_; rintro e w' ⟨rfl, rfl⟩)
          go_ret
          exact ⟨rfl, Below.refl _ _⟩
      · rw [if_neg hu]
        have hu2 : (i == 1) = false ∨ ((i == 1) = true ∧ (u == 13) = false) := by
          by_cases h : i = 1
          · exact .inr ⟨by simpa using h, by simpa using fun e => hu ⟨h, e⟩⟩
          · exact .inl (by simpa using h)
        clear hu
        rcases hli with rfl | ⟨rfl, hi⟩ <;> rcases hu2 with hu | ⟨hu, hv⟩
        all_goals
          go_enter Try.func79, Try.ntmps79
          go_wp2_with (go_at_call 80; refine hc.out.mono ?_; rintro e w' ⟨rfl, rfl⟩)
          go_ret
          exact ⟨rfl, Below.refl _ _⟩

/-- The rounds of a unit: its number, the place, the error. -/
def unitL (s : ByteArray) (low : Bool) : Nat → Int → Int → Nat → Int → Int × Nat × Int
  | 0, _, u, p, e => (u, p, e)
  | k + 1, i, u, p, e => unitL s low k (i + 1) (u * 16 + max (dig (nx s (unitIs low i u) p e).1) 0) (nx s (unitIs low i u) p e).2.1 (nx s (unitIs low i u) p e).2.2
def unitF (s : ByteArray) (low : Bool) (p : Nat) (e : Int) : Int × Nat × Int := unitL s low 4 0 0 p e
theorem nx_at (s : ByteArray) (is : Int → Bool) (p : Nat) (e : Int) (hp : p ≤ s.size) : (nx s is p e).2.1 ≤ s.size := by
  unfold nx; repeat' split
  all_goals simp
  all_goals omega
theorem byteAt_le (s : ByteArray) (p : Nat) : 0 ≤ byteAt s p ∧ byteAt s p ≤ 255 := by
  unfold byteAt; have := (s.data.toList.getD p 0).toNat_lt; omega
theorem nx_byte (s : ByteArray) (is : Int → Bool) (p : Nat) (e : Int) : 0 ≤ (nx s is p e).1 ∧ (nx s is p e).1 ≤ 255 := by
  have := byteAt_le s p
  unfold nx; repeat' split
  all_goals simp
  all_goals omega

theorem or4 (x y : Int) (hx₀ : 0 ≤ x) (hx : x % 16 = 0) (hx₁ : x < 4294967296) (h₀ : 0 ≤ y) (h₁ : y < 16) : bits .or .i64 x y = x + y :=
  bits_join .i64 62 (by decide) wraps_i64 4 x y hx₀ hx (by omega) h₀ h₁ (by omega)

theorem Sx.alloc {W : World} {g : Nat} {s : ByteArray} {p e : Int} {v : Value} (h : Sx W g s p v e) (o : Obj) : Sx (W.alloc o) g s p v e := h.kept (World.grownBy_alloc W o none) (by simp)
theorem Only.alloc {g : Nat} {a w : World} (h : Only g a w) (o : Obj) : Only g a (w.alloc o) := World.grownBy.trans h (World.grownBy_alloc w o (some g))
theorem Only.setNew {g : Nat} {a w : World} (h : Only g a w) {b : Nat} (hb : a.heap.size ≤ b) (j : Nat) (u : Value) : Only g a (w.setCell ⟨b, j, none⟩ u) :=
  ⟨h.os, h.tape, h.output, by simpa using h.size, fun k hk hne => (Below.heap_setCell w _ u k (by show k ≠ b; omega)).trans (h.block k hk hne)⟩
theorem Sx.other {W : World} {g : Nat} {s : ByteArray} {p e : Int} {v : Value} (h : Sx W g s p v e) {b : Nat} (hb : g ≠ b) (j : Nat) (u : Value) : Sx (W.setCell ⟨b, j, none⟩ u) g s p v e :=
  (Below.heap_setCell W _ u g (by show g ≠ b; exact hb)).trans h
def UnitPost (g : Nat) (s : ByteArray) (v : Value) (r : Int × Nat × Int) (w : World) (en : Ending) (w' : World) : Prop :=
  en = .returned (.int .i64 r.1) ∧ Sx w' g s (r.2.1 : Int) v r.2.2 ∧ Only g w w'

set_option maxHeartbeats 2000000 in
set_option maxRecDepth 100000 in
theorem unit_any (g : Nat) (s : ByteArray) (p : Nat) (v : Value) (e : Int) (low : Bool) (w : World) (h : Sx w g s p v e) (hp : p ≤ s.size) (hz : s.size ≤ 4611686018427387904) :
    Calls Try.prog 70 #[.pointer (some ⟨g, 0, none⟩), .bool low] w (UnitPost g s v (unitF s low p e) w) := by
  have hg := h.lt
  go_enter Try.func70, Try.ntmps70
  go_wp2
  go_loopw [8] (fun i wr => ∃ (k : Nat) (u : Int) (q : Nat) (f : Int), k ≤ 4 ∧ i = .int .i64 k ∧ Hid (unitF s low p e = unitL s low (4 - k) k u q f) ∧ 0 ≤ u ∧ u < 16 ^ k ∧ q ≤ s.size ∧ Sx wr g s q v f ∧ Boxed wr w.heap.size 4 (.bool low) ∧ Boxed wr (w.heap.size + 1) 3 (.int .i64 u) ∧ Only g w wr ∧ w.heap.size + 2 ≤ wr.heap.size) (fun i _ => 4 - (intOf i).toNat)
  case atStart =>
    have hl := (Boxed.new w 4 (.bool low)).alloc (.cells #[.int .i64 0] 3)
    have hu := Boxed.new (w.alloc (.cells #[.bool low] 4)) 3 (.int .i64 0)
    rw [World.size_alloc] at hu
    exact ⟨0, 0, p, e, by omega, rfl, rfl, by omega, by decide, hp, (h.alloc _).alloc _, hl, hu, ((Only.of (Below.refl _ _)).alloc _).alloc _, by simp⟩
  case round =>
    obtain ⟨k, u, q, f, hk, rfl, hc, hu0, hu1, hq, hI, hl, hu, ho, hw⟩ := hrel
    by_cases hlt : k < 4
    · have hpw : (16 : Int) ^ k ≤ 16 ^ 3 := by exact_mod_cast Nat.pow_le_pow_right (n := 16) (by decide) (by omega : k ≤ 3)
      have hu2 : u < 4096 := by omega
      have hpw2 : (16 : Int) ^ (k + 1) = 16 ^ k * 16 := Int.pow_succ ..
      obtain ⟨r, hr⟩ : ∃ r, nx s (unitIs low k u) q f = r := ⟨_, rfl⟩
      have hr1 := nx_byte s (unitIs low k u) q f
      have hr2 := nx_at s (unitIs low k u) q f hq
      rw [hr] at hr1 hr2
      have hstep : Hid (unitF s low p e = unitL s low (4 - (k + 1)) ((k + 1 : Nat) : Int) (u * 16 + max (dig r.1) 0) r.2.1 r.2.2) := by
        show unitF s low p e = _
        rw [hc.out, show 4 - k = (4 - (k + 1)) + 1 from by omega]
        simp only [unitL]
        rw [hr]
        rfl
      have HR := Lib.hid hr
      have hlA := hl.alloc (.cells #[.int .i64 k] 3)
      have hiA := Boxed.new wr 3 (.int .i64 k)
      have huA := hu.alloc (.cells #[.int .i64 k] 3)
      have hT := is79 g w.heap.size wr.heap.size (w.heap.size + 1) low k u _ hlA.cell hiA.cell huA.cell (by omega) (by omega) (by omega)
      go_wp2_with (fail)
      refine (next_any g s q v f 79 _ _ _ (hI.alloc _) hq hz cf79 hT).mono ?_
      rw [hr]
      obtain ⟨c, q2, f2⟩ := r
      dsimp only at hr1 hr2 hstep
      rintro en w2 ⟨rfl, hI2, ho2⟩
      dsimp only at hI2
      clear hr hT
      have hl2 := hlA.kept ho2 (by simp; omega)
      have hu2' := huA.kept ho2 (by simp; omega)
      have ho3 := World.grownBy.trans (ho.alloc _) ho2
      have hw2 := ho2.size
      have hm := dig_le c
      obtain ⟨d, hd⟩ : ∃ d, dig c = d := ⟨_, rfl⟩
      have hD := Lib.hid (dig_any c w2.drew hr1.1 hr1.2)
      rw [hd] at hD hm hstep
      have cu := hu2'.cell
      have fu := hu2'.frozen
      obtain ⟨m, hmx⟩ : ∃ m, (if d < 0 then 0 else d) = m := ⟨_, rfl⟩
      have hm2 : max d 0 = m := by rw [← hmx]; split <;> omega
      rw [hm2] at hstep
      have hm3 : 0 ≤ m ∧ m ≤ 15 := by omega
      have o1 : bits .or .i64 (u * 16) m = u * 16 + m := or4 _ _ (by omega) (by omega) (by omega) (by omega) (by omega)
      have o2 : IntKind.i64.wrap (u * 16) = u * 16 := wraps_i64 _ (by omega) (by omega)
      clear hd hm2
      go_wp2_with (fail)
      go_still_tail 6, (by kernel_rfl)
      still_call hD.out
      repeat still_step
      refine wpStill_nil ?_
      change wpList _ _ _ _ _ w2.drew
      have hI3 : Sx w2.drew g s q2 v f2 := hI2
      have hl3 : Boxed w2.drew w.heap.size 4 (.bool low) := hl2
      have hu3 : Boxed w2.drew (w.heap.size + 1) 3 (.int .i64 u) := hu2'
      have ho4 : Only g w w2.drew := Only.drew ho3
      have hw3 : wr.heap.size + 1 ≤ w2.drew.heap.size := by have : (wr.alloc (.cells #[.int .i64 k] 3)).heap.size ≤ w2.heap.size := hw2; simpa using this
      clear hI2 hl2 hu2' ho3 hw2 hD cu fu ho2
      generalize w2.drew = w3 at hI3 hl3 hu3 ho4 hw3 ⊢
      have cu := hu3.cell
      have fu := hu3.frozen
      go_wp2
      go_roundw
      case rel => exact ⟨k + 1, u * 16 + m, q2, f2, by omega, by go_num, hstep, by omega, by omega, hr2, hI3.other (by omega) 0 _, hl3.kept (grownBy_setCell' _ (w.heap.size + 1) _) (by simp), hu3.set _, Only.setNew ho4 (by omega) 0 _, by simp; omega⟩
      case measure => simp [intOf]; omega
    · obtain rfl : k = 4 := by omega
      have cu := hu.cell
      go_wp2
      go_ret
      unfold UnitPost
      rw [hc.out]
      exact ⟨rfl, hI, ho⟩
end Go.Proofs.Ytlbokaekhjjabaa

-- Written by a program of this session (joint.sh) out of the translation. Not trusted: Lean checks it.
namespace Go.Proofs.Ytlbokaekhjjabaa.U
open Go.RowKit Go.Proofs.YtlbokaekhjjabaaW.PrintWords Go.Proofs.YtlbokaekhjjabaaW.PrintLast Go.Proofs.YtlbokaekhjjabaaW.PrintMore
attribute [local go_sem] max2_int min2_int max_two min_two max_three min_three max_four min_four   -- for this text's walks alone
set_option linter.unusedVariables false
set_option linter.unusedSimpArgs false



def errW : Option Int → Value
  | none => .nilIface
  | some c => .iface 0 (.int .i64 c)
theorem errW_none : errW none = .nilIface := rfl
theorem errW_some (c : Int) : errW (some c) = .iface 0 (.int .i64 c) := rfl

theorem info5 : (Try.prog.info? 5).map (fun i => (i.zero, i.size, i.bytes)) = some (some (.int .u8 0), 1, 1) := by kernel_rfl
theorem info9 : (Try.prog.info? 9).map (fun i => (i.zero, i.size, i.bytes)) = some (some (.string ⟨#[]⟩), 1, 16) := by kernel_rfl
-- the values' own types

end Go.Proofs.Ytlbokaekhjjabaa.U

-- Written by a program of this session (joint.sh) out of the translation. Not trusted: Lean checks it.
namespace Go.Proofs.Ytlbokaekhjjabaa.U
open Go.RowKit Go.Proofs.YtlbokaekhjjabaaW.PrintWords Go.Proofs.YtlbokaekhjjabaaW.PrintLast Go.Proofs.YtlbokaekhjjabaaW.PrintMore
attribute [local go_sem] max2_int min2_int max_two min_two max_three min_three max_four min_four   -- for this text's walks alone
set_option linter.unusedVariables false
set_option linter.unusedSimpArgs false

/-! ### glossatorref02_need: function 48 -/
mutual
def glossatorref02_need.j0 : Nat → Int → Bool → Option (Int)
  | 0, _, _ => none
  | k + 1, x0, x6 => if x6 = true then (some 2) else (if x0 ≥ 224 then (glossatorref02_need.j1 k x0 (decide (x0 ≤ 239))) else (glossatorref02_need.j1 k x0 false))
def glossatorref02_need.j1 : Nat → Int → Bool → Option (Int)
  | 0, _, _ => none
  | k + 1, x0, x13 => if x13 = true then (some 3) else (if x0 ≥ 240 then (if x0 ≤ 244 then (some 4) else (some 0)) else (some 0))
end
def glossatorref02_need.f (k : Nat) (a0 : Int) : Option (Int) := if a0 < 128 then (some 1) else (if a0 ≥ 194 then (glossatorref02_need.j0 k a0 (decide (a0 ≤ 223))) else (glossatorref02_need.j0 k a0 false))
theorem glossatorref02_need.mono_l : ∀ k, (∀ y0 y1, LeO (glossatorref02_need.j0 k y0 y1) (glossatorref02_need.j0 (k + 1) y0 y1)) ∧ (∀ y0 y1, LeO (glossatorref02_need.j1 k y0 y1) (glossatorref02_need.j1 (k + 1) y0 y1))
  | 0 => ⟨fun _ _ r h => by simp [glossatorref02_need.j0] at h, fun _ _ r h => by simp [glossatorref02_need.j1] at h⟩
  | k + 1 => by
    obtain ⟨ih0, ih1⟩ := glossatorref02_need.mono_l k
    refine ⟨?_, ?_⟩
    · intro y0 y1
      unfold glossatorref02_need.j0
      repeat' first
      | (with_reducible exact ih0 _ _)
      | (with_reducible exact ih1 _ _)
      | (with_reducible exact LeO.refl _)
      | (with_reducible exact LeO.none _)
      | (with_reducible refine LeO.ite ?_ ?_)
      | (with_reducible refine LeO.bind ?_ (fun _ => ?_))
      | exact ih0 _ _
      | exact ih1 _ _
      | exact LeO.none _
      | refine LeO.ite ?_ ?_
      | refine LeO.bind ?_ (fun _ => ?_)
    · intro y0 y1
      unfold glossatorref02_need.j1
      repeat' first
      | (with_reducible exact ih0 _ _)
      | (with_reducible exact ih1 _ _)
      | (with_reducible exact LeO.refl _)
      | (with_reducible exact LeO.none _)
      | (with_reducible refine LeO.ite ?_ ?_)
      | (with_reducible refine LeO.bind ?_ (fun _ => ?_))
      | exact ih0 _ _
      | exact ih1 _ _
      | exact LeO.none _
      | refine LeO.ite ?_ ?_
      | refine LeO.bind ?_ (fun _ => ?_)
theorem glossatorref02_need.mono : ∀ a0 k, LeO (glossatorref02_need.f k a0) (glossatorref02_need.f (k + 1) a0) := by
  intro a0 k
  obtain ⟨ih0, ih1⟩ := glossatorref02_need.mono_l k
  unfold glossatorref02_need.f
  repeat' first
      | (with_reducible exact ih0 _ _)
      | (with_reducible exact ih1 _ _)
      | (with_reducible exact LeO.refl _)
      | (with_reducible exact LeO.none _)
      | (with_reducible refine LeO.ite ?_ ?_)
      | (with_reducible refine LeO.bind ?_ (fun _ => ?_))
      | exact ih0 _ _
      | exact ih1 _ _
      | exact LeO.none _
      | refine LeO.ite ?_ ?_
      | refine LeO.bind ?_ (fun _ => ?_)
set_option maxHeartbeats 8000000 in
set_option maxRecDepth 100000 in
theorem glossatorref02_need.calls (k : Nat) (a0 : Int) (r : Int) (w : World) (h : glossatorref02_need.f k a0 = some r) :
    Calls Try.prog 48 #[.int .u8 a0] w fun e w' => e = .returned (.int .i64 r) ∧ Drawn0 w w' := by
  have H : (if a0 < 128 then (some 1) else (if a0 ≥ 194 then (glossatorref02_need.j0 k a0 (decide (a0 ≤ 223))) else (glossatorref02_need.j0 k a0 false))) = some r := h
  clear h
  by_cases c2 : a0 < 128
  · rw [if_pos c2] at H
    have c2b0 : decide (a0 < 128) = true := decide_eq_true c2
    clear c2
    obtain rfl := Option.some.inj H
    go_enter Try.func48, Try.ntmps48
    go_wp2
    go_ret
    exact ⟨by first | rfl | (simp; done) | (simp [*]; done), by repeat (first | exact Drawn0.refl _ | apply Drawn0.step)⟩
  · rw [if_neg c2] at H
    have c2b0 : decide (a0 < 128) = false := decide_eq_false c2
    clear c2
    have HC3 := Aside0.mk H
    clear H
    go_enter Try.func48, Try.ntmps48
    go_upto_region 3 with (fail)
    go_cut [6] (fun v6 wc => ∃ (kq : Nat) (x6_2 : Bool), v6 = .bool x6_2 ∧ Aside0 (glossatorref02_need.j0 kq a0 x6_2 = some r) ∧ Aside0 (kq ≤ k) ∧ Drawn0 w wc)
    case first =>
      have H := HC3.out
      clear HC3
      by_cases c4 : a0 ≥ 194
      · rw [if_pos c4] at H
        have c4b0 : decide (194 ≤ a0) = true := decide_eq_true c4
        clear c4
        (first | rw [c4b0] | (simp only [i64_w, i32_w]; rw [c4b0]) | skip)
        have H' := Aside0.mk H
        clear H
        go_wp2
        go_meet
        case rel => exact ⟨_, (decide (a0 ≤ 223)), (by first | rfl | (simp; done) | (simp [*]; done)), H', ⟨by first | omega | exact Nat.le_refl _⟩, by repeat (first | exact Drawn0.refl _ | apply Drawn0.step)⟩
      · rw [if_neg c4] at H
        have c4b0 : decide (194 ≤ a0) = false := decide_eq_false c4
        clear c4
        (first | rw [c4b0] | (simp only [i64_w, i32_w]; rw [c4b0]) | skip)
        have H' := Aside0.mk H
        clear H
        go_wp2
        go_meet
        case rel => exact ⟨_, (false), (by first | rfl | (simp; done) | (simp [*]; done)), H', ⟨by first | omega | exact Nat.le_refl _⟩, by repeat (first | exact Drawn0.refl _ | apply Drawn0.step)⟩
    case rest =>
      clear HC3
      try clear c2
      try clear c2b0
      try clear p2
      try clear c4
      try clear c4b0
      obtain ⟨kq, x6_2, rfl, HA, HJ2, ⟨mc2, rfl⟩⟩ := hcut
      cases kq with
      | zero => exact absurd HA.out (by simp [glossatorref02_need.j0])
      | succ kj2 =>
        have H := HA.out
        clear HA
        simp only [glossatorref02_need.j0] at H
        by_cases c5 : x6_2 = true
        · subst c5
          have H1 : (some 2) = some r := by rw [if_pos rfl] at H; exact H
          clear H
          have H := H1
          clear H1
          obtain rfl := Option.some.inj H
          go_wp2
          go_ret
          exact ⟨by first | rfl | (simp; done) | (simp [*]; done), by repeat (first | exact Drawn0.refl _ | apply Drawn0.step)⟩
        · replace c5 := Bool.eq_false_iff.mpr c5
          subst c5
          have H1 : (if a0 ≥ 224 then (glossatorref02_need.j1 kj2 a0 (decide (a0 ≤ 239))) else (glossatorref02_need.j1 kj2 a0 false)) = some r := by rw [if_neg (show ¬ (false = true) by decide)] at H; exact H
          clear H
          have H := H1
          clear H1
          have HC6 := Aside0.mk H
          clear H
          go_upto_region 5 with (fail)
          go_cut [13] (fun v13 wc => ∃ (kq : Nat) (x13_5 : Bool), v13 = .bool x13_5 ∧ Aside0 (glossatorref02_need.j1 kq a0 x13_5 = some r) ∧ Aside0 (kq ≤ kj2) ∧ Drawn0 w wc)
          case first =>
            have H := HC6.out
            clear HC6
            by_cases c7 : a0 ≥ 224
            · rw [if_pos c7] at H
              have c7b0 : decide (224 ≤ a0) = true := decide_eq_true c7
              clear c7
              (first | rw [c7b0] | (simp only [i64_w, i32_w]; rw [c7b0]) | skip)
              have H' := Aside0.mk H
              clear H
              go_wp2
              go_meet
              case rel => exact ⟨_, (decide (a0 ≤ 239)), (by first | rfl | (simp; done) | (simp [*]; done)), H', ⟨by have := HJ2.out; first | omega | exact Nat.le_refl _⟩, by repeat (first | exact Drawn0.refl _ | apply Drawn0.step)⟩
            · rw [if_neg c7] at H
              have c7b0 : decide (224 ≤ a0) = false := decide_eq_false c7
              clear c7
              (first | rw [c7b0] | (simp only [i64_w, i32_w]; rw [c7b0]) | skip)
              have H' := Aside0.mk H
              clear H
              go_wp2
              go_meet
              case rel => exact ⟨_, (false), (by first | rfl | (simp; done) | (simp [*]; done)), H', ⟨by have := HJ2.out; first | omega | exact Nat.le_refl _⟩, by repeat (first | exact Drawn0.refl _ | apply Drawn0.step)⟩
          case rest =>
            clear HC6
            try clear c2
            try clear c2b0
            try clear p2
            try clear c4
            try clear c4b0
            try clear c5
            try clear c7
            try clear c7b0
            try clear p2
            obtain ⟨kq, x13_5, rfl, HA, HJ5, ⟨mc5, rfl⟩⟩ := hcut
            cases kq with
            | zero => exact absurd HA.out (by simp [glossatorref02_need.j1])
            | succ kj5 =>
              have H := HA.out
              clear HA
              simp only [glossatorref02_need.j1] at H
              by_cases c8 : x13_5 = true
              · subst c8
                have H1 : (some 3) = some r := by rw [if_pos rfl] at H; exact H
                clear H
                have H := H1
                clear H1
                obtain rfl := Option.some.inj H
                go_wp2
                go_ret
                exact ⟨by first | rfl | (simp; done) | (simp [*]; done), by repeat (first | exact Drawn0.refl _ | apply Drawn0.step)⟩
              · replace c8 := Bool.eq_false_iff.mpr c8
                subst c8
                have H1 : (if a0 ≥ 240 then (if a0 ≤ 244 then (some 4) else (some 0)) else (some 0)) = some r := by rw [if_neg (show ¬ (false = true) by decide)] at H; exact H
                clear H
                have H := H1
                clear H1
                by_cases c9 : a0 ≥ 240
                · rw [if_pos c9] at H
                  have c9b0 : decide (240 ≤ a0) = true := decide_eq_true c9
                  clear c9
                  by_cases c10 : a0 ≤ 244
                  · rw [if_pos c10] at H
                    have c10b0 : decide (a0 ≤ 244) = true := decide_eq_true c10
                    clear c10
                    obtain rfl := Option.some.inj H
                    go_wp2
                    go_ret
                    exact ⟨by first | rfl | (simp; done) | (simp [*]; done), by repeat (first | exact Drawn0.refl _ | apply Drawn0.step)⟩
                  · rw [if_neg c10] at H
                    have c10b0 : decide (a0 ≤ 244) = false := decide_eq_false c10
                    clear c10
                    obtain rfl := Option.some.inj H
                    go_wp2
                    go_ret
                    exact ⟨by first | rfl | (simp; done) | (simp [*]; done), by repeat (first | exact Drawn0.refl _ | apply Drawn0.step)⟩
                · rw [if_neg c9] at H
                  have c9b0 : decide (240 ≤ a0) = false := decide_eq_false c9
                  clear c9
                  obtain rfl := Option.some.inj H
                  go_wp2
                  go_ret
                  exact ⟨by first | rfl | (simp; done) | (simp [*]; done), by repeat (first | exact Drawn0.refl _ | apply Drawn0.step)⟩

end Go.Proofs.Ytlbokaekhjjabaa.U

-- Written by a program of this session (joint.sh) out of the translation. Not trusted: Lean checks it.
namespace Go.Proofs.Ytlbokaekhjjabaa.U
open Go.RowKit Go.Proofs.YtlbokaekhjjabaaW.PrintWords Go.Proofs.YtlbokaekhjjabaaW.PrintLast Go.Proofs.YtlbokaekhjjabaaW.PrintMore
attribute [local go_sem] max2_int min2_int max_two min_two max_three min_three max_four min_four   -- for this text's walks alone
set_option linter.unusedVariables false
set_option linter.unusedSimpArgs false

/-! ### glossatorref02_may: function 49 -/
def glossatorref02_may.f (a0 : Int) (a1 : Int) (a2 : Int) : Option (Bool) := if a1 = 1 then (if a0 = 224 then (if a2 ≥ 160 then (some (decide (a2 ≤ 191))) else (some false)) else (if a0 = 237 then (if a2 ≥ 128 then (some (decide (a2 ≤ 159))) else (some false)) else (if a0 = 240 then (if a2 ≥ 144 then (some (decide (a2 ≤ 191))) else (some false)) else (if a0 = 244 then (if a2 ≥ 128 then (some (decide (a2 ≤ 143))) else (some false)) else (if a2 ≥ 128 then (some (decide (a2 ≤ 191))) else (some false)))))) else (if a2 ≥ 128 then (some (decide (a2 ≤ 191))) else (some false))
set_option maxHeartbeats 8000000 in
set_option maxRecDepth 100000 in
theorem glossatorref02_may.calls (a0 : Int) (a1 : Int) (a2 : Int) (r : Bool) (w : World) (h : glossatorref02_may.f a0 a1 a2 = some r) :
    Calls Try.prog 49 #[.int .u8 a0, .int .i64 a1, .int .u8 a2] w fun e w' => e = .returned (.bool r) ∧ Drawn0 w w' := by
  have H : (if a1 = 1 then (if a0 = 224 then (if a2 ≥ 160 then (some (decide (a2 ≤ 191))) else (some false)) else (if a0 = 237 then (if a2 ≥ 128 then (some (decide (a2 ≤ 159))) else (some false)) else (if a0 = 240 then (if a2 ≥ 144 then (some (decide (a2 ≤ 191))) else (some false)) else (if a0 = 244 then (if a2 ≥ 128 then (some (decide (a2 ≤ 143))) else (some false)) else (if a2 ≥ 128 then (some (decide (a2 ≤ 191))) else (some false)))))) else (if a2 ≥ 128 then (some (decide (a2 ≤ 191))) else (some false))) = some r := h
  clear h
  by_cases c4 : a1 = 1
  · rw [if_pos c4] at H
    have c4b0 : (a1 == 1) = true := beq_iff_eq.mpr c4
    have c4b1 : (a1 != 1) = false := bne_eq_false_iff_eq.mpr c4
    clear c4
    by_cases c5 : a0 = 224
    · rw [if_pos c5] at H
      have c5b0 : (a0 == 224) = true := beq_iff_eq.mpr c5
      have c5b1 : (a0 != 224) = false := bne_eq_false_iff_eq.mpr c5
      clear c5
      by_cases c6 : a2 ≥ 160
      · rw [if_pos c6] at H
        have c6b0 : decide (160 ≤ a2) = true := decide_eq_true c6
        clear c6
        obtain rfl := Option.some.inj H
        go_enter Try.func49, Try.ntmps49
        go_wp2
        go_ret
        exact ⟨by first | rfl | (simp; done) | (simp [*]; done), by repeat (first | exact Drawn0.refl _ | apply Drawn0.step)⟩
      · rw [if_neg c6] at H
        have c6b0 : decide (160 ≤ a2) = false := decide_eq_false c6
        clear c6
        obtain rfl := Option.some.inj H
        go_enter Try.func49, Try.ntmps49
        go_wp2
        go_ret
        exact ⟨by first | rfl | (simp; done) | (simp [*]; done), by repeat (first | exact Drawn0.refl _ | apply Drawn0.step)⟩
    · rw [if_neg c5] at H
      have c5b0 : (a0 == 224) = false := beq_eq_false_iff_ne.mpr c5
      have c5b1 : (a0 != 224) = true := bne_iff_ne.mpr c5
      by_cases c7 : a0 = 237
      · rw [if_pos c7] at H
        have c7b0 : (a0 == 237) = true := beq_iff_eq.mpr c7
        have c7b1 : (a0 != 237) = false := bne_eq_false_iff_eq.mpr c7
        clear c7
        by_cases c8 : a2 ≥ 128
        · rw [if_pos c8] at H
          have c8b0 : decide (128 ≤ a2) = true := decide_eq_true c8
          clear c8
          obtain rfl := Option.some.inj H
          go_enter Try.func49, Try.ntmps49
          go_wp2
          go_ret
          exact ⟨by first | rfl | (simp; done) | (simp [*]; done), by repeat (first | exact Drawn0.refl _ | apply Drawn0.step)⟩
        · rw [if_neg c8] at H
          have c8b0 : decide (128 ≤ a2) = false := decide_eq_false c8
          clear c8
          obtain rfl := Option.some.inj H
          go_enter Try.func49, Try.ntmps49
          go_wp2
          go_ret
          exact ⟨by first | rfl | (simp; done) | (simp [*]; done), by repeat (first | exact Drawn0.refl _ | apply Drawn0.step)⟩
      · rw [if_neg c7] at H
        have c7b0 : (a0 == 237) = false := beq_eq_false_iff_ne.mpr c7
        have c7b1 : (a0 != 237) = true := bne_iff_ne.mpr c7
        by_cases c9 : a0 = 240
        · rw [if_pos c9] at H
          have c9b0 : (a0 == 240) = true := beq_iff_eq.mpr c9
          have c9b1 : (a0 != 240) = false := bne_eq_false_iff_eq.mpr c9
          clear c9
          by_cases c10 : a2 ≥ 144
          · rw [if_pos c10] at H
            have c10b0 : decide (144 ≤ a2) = true := decide_eq_true c10
            clear c10
            obtain rfl := Option.some.inj H
            go_enter Try.func49, Try.ntmps49
            go_wp2
            go_ret
            exact ⟨by first | rfl | (simp; done) | (simp [*]; done), by repeat (first | exact Drawn0.refl _ | apply Drawn0.step)⟩
          · rw [if_neg c10] at H
            have c10b0 : decide (144 ≤ a2) = false := decide_eq_false c10
            clear c10
            obtain rfl := Option.some.inj H
            go_enter Try.func49, Try.ntmps49
            go_wp2
            go_ret
            exact ⟨by first | rfl | (simp; done) | (simp [*]; done), by repeat (first | exact Drawn0.refl _ | apply Drawn0.step)⟩
        · rw [if_neg c9] at H
          have c9b0 : (a0 == 240) = false := beq_eq_false_iff_ne.mpr c9
          have c9b1 : (a0 != 240) = true := bne_iff_ne.mpr c9
          by_cases c11 : a0 = 244
          · rw [if_pos c11] at H
            have c11b0 : (a0 == 244) = true := beq_iff_eq.mpr c11
            have c11b1 : (a0 != 244) = false := bne_eq_false_iff_eq.mpr c11
            clear c11
            by_cases c12 : a2 ≥ 128
            · rw [if_pos c12] at H
              have c12b0 : decide (128 ≤ a2) = true := decide_eq_true c12
              clear c12
              obtain rfl := Option.some.inj H
              go_enter Try.func49, Try.ntmps49
              go_wp2
              go_ret
              exact ⟨by first | rfl | (simp; done) | (simp [*]; done), by repeat (first | exact Drawn0.refl _ | apply Drawn0.step)⟩
            · rw [if_neg c12] at H
              have c12b0 : decide (128 ≤ a2) = false := decide_eq_false c12
              clear c12
              obtain rfl := Option.some.inj H
              go_enter Try.func49, Try.ntmps49
              go_wp2
              go_ret
              exact ⟨by first | rfl | (simp; done) | (simp [*]; done), by repeat (first | exact Drawn0.refl _ | apply Drawn0.step)⟩
          · rw [if_neg c11] at H
            have c11b0 : (a0 == 244) = false := beq_eq_false_iff_ne.mpr c11
            have c11b1 : (a0 != 244) = true := bne_iff_ne.mpr c11
            by_cases c13 : a2 ≥ 128
            · rw [if_pos c13] at H
              have c13b0 : decide (128 ≤ a2) = true := decide_eq_true c13
              clear c13
              obtain rfl := Option.some.inj H
              go_enter Try.func49, Try.ntmps49
              go_wp2
              go_ret
              exact ⟨by first | rfl | (simp; done) | (simp [*]; done), by repeat (first | exact Drawn0.refl _ | apply Drawn0.step)⟩
            · rw [if_neg c13] at H
              have c13b0 : decide (128 ≤ a2) = false := decide_eq_false c13
              clear c13
              obtain rfl := Option.some.inj H
              go_enter Try.func49, Try.ntmps49
              go_wp2
              go_ret
              exact ⟨by first | rfl | (simp; done) | (simp [*]; done), by repeat (first | exact Drawn0.refl _ | apply Drawn0.step)⟩
  · rw [if_neg c4] at H
    have c4b0 : (a1 == 1) = false := beq_eq_false_iff_ne.mpr c4
    have c4b1 : (a1 != 1) = true := bne_iff_ne.mpr c4
    by_cases c14 : a2 ≥ 128
    · rw [if_pos c14] at H
      have c14b0 : decide (128 ≤ a2) = true := decide_eq_true c14
      clear c14
      obtain rfl := Option.some.inj H
      go_enter Try.func49, Try.ntmps49
      go_wp2
      go_ret
      exact ⟨by first | rfl | (simp; done) | (simp [*]; done), by repeat (first | exact Drawn0.refl _ | apply Drawn0.step)⟩
    · rw [if_neg c14] at H
      have c14b0 : decide (128 ≤ a2) = false := decide_eq_false c14
      clear c14
      obtain rfl := Option.some.inj H
      go_enter Try.func49, Try.ntmps49
      go_wp2
      go_ret
      exact ⟨by first | rfl | (simp; done) | (simp [*]; done), by repeat (first | exact Drawn0.refl _ | apply Drawn0.step)⟩

end Go.Proofs.Ytlbokaekhjjabaa.U

-- Written by a program of this session (joint.sh) out of the translation. Not trusted: Lean checks it.
namespace Go.Proofs.Ytlbokaekhjjabaa.U
open Go.RowKit Go.Proofs.YtlbokaekhjjabaaW.PrintWords Go.Proofs.YtlbokaekhjjabaaW.PrintLast Go.Proofs.YtlbokaekhjjabaaW.PrintMore
attribute [local go_sem] max2_int min2_int max_two min_two max_three min_three max_four min_four   -- for this text's walks alone
set_option linter.unusedVariables false
set_option linter.unusedSimpArgs false

/-! ### glossatorref02_Point: function 27 -/
mutual
def glossatorref02_Point.j0 : Nat → ByteArray → Int → Bool → Option (Int × Int)
  | 0, _, _, _ => none
  | k + 1, x0, x4, x19 => if x19 = true then (some (0, 0)) else (if x4 = 1 then (if 0 < (x0.size : Int) then (some (wrap64 (bt x0 0), 1)) else (none)) else (if 0 < (x0.size : Int) then (if 0 ≤ (wrap64 (x4 + 1)) then (glossatorref02_Point.l0 k x0 x4 (Go.bits .and .i64 (wrap64 (bt x0 0)) (shr .i64 255 (wrap64 (x4 + 1)))) 1) else (none)) else (none)))
def glossatorref02_Point.l0 : Nat → ByteArray → Int → Int → Int → Option (Int × Int)
  | 0, _, _, _, _ => none
  | k + 1, x0, x4, x5, x6 => if x6 < x4 then (if 0 < (x0.size : Int) then (if 0 ≤ x6 then (if x6 < (x0.size : Int) then ((glossatorref02_may.f (bt x0 0) x6 (bt x0 x6)).bind fun t120 => (if t120 = true then (glossatorref02_Point.l0 k x0 x4 (Go.bits .or .i64 (wrap64 (x5 * 64)) (Go.bits .and .i64 (wrap64 (bt x0 x6)) 63)) (wrap64 (x6 + 1))) else (some (0, 0)))) else (none)) else (none)) else (none)) else (some (x5, x4))
end
def glossatorref02_Point.f (k : Nat) (a0 : ByteArray) : Option (Int × Int) := if a0.toList = ([] : List UInt8) then (some (0, 0)) else (if 0 < (a0.size : Int) then ((glossatorref02_need.f k (bt a0 0)).bind fun t119 => (if t119 = 0 then (glossatorref02_Point.j0 k a0 t119 true) else (glossatorref02_Point.j0 k a0 t119 (decide (t119 > (a0.size : Int)))))) else (none))
theorem glossatorref02_Point.mono_l : ∀ k, (∀ y0 y1 y2, LeO (glossatorref02_Point.j0 k y0 y1 y2) (glossatorref02_Point.j0 (k + 1) y0 y1 y2)) ∧ (∀ y0 y1 y2 y3, LeO (glossatorref02_Point.l0 k y0 y1 y2 y3) (glossatorref02_Point.l0 (k + 1) y0 y1 y2 y3))
  | 0 => ⟨fun _ _ _ r h => by simp [glossatorref02_Point.j0] at h, fun _ _ _ _ r h => by simp [glossatorref02_Point.l0] at h⟩
  | k + 1 => by
    obtain ⟨ih0, ih1⟩ := glossatorref02_Point.mono_l k
    refine ⟨?_, ?_⟩
    · intro y0 y1 y2
      unfold glossatorref02_Point.j0
      repeat' first
      | (with_reducible exact ih0 _ _ _)
      | (with_reducible exact ih1 _ _ _ _)
      | (with_reducible exact glossatorref02_need.mono _ _)
      | (with_reducible exact LeO.refl _)
      | (with_reducible exact LeO.none _)
      | (with_reducible refine LeO.ite ?_ ?_)
      | (with_reducible refine LeO.bind ?_ (fun _ => ?_))
      | exact ih0 _ _ _
      | exact ih1 _ _ _ _
      | exact glossatorref02_need.mono _ _
      | exact LeO.none _
      | refine LeO.ite ?_ ?_
      | refine LeO.bind ?_ (fun _ => ?_)
    · intro y0 y1 y2 y3
      unfold glossatorref02_Point.l0
      repeat' first
      | (with_reducible exact ih0 _ _ _)
      | (with_reducible exact ih1 _ _ _ _)
      | (with_reducible exact glossatorref02_need.mono _ _)
      | (with_reducible exact LeO.refl _)
      | (with_reducible exact LeO.none _)
      | (with_reducible refine LeO.ite ?_ ?_)
      | (with_reducible refine LeO.bind ?_ (fun _ => ?_))
      | exact ih0 _ _ _
      | exact ih1 _ _ _ _
      | exact glossatorref02_need.mono _ _
      | exact LeO.none _
      | refine LeO.ite ?_ ?_
      | refine LeO.bind ?_ (fun _ => ?_)
theorem glossatorref02_Point.mono : ∀ a0 k, LeO (glossatorref02_Point.f k a0) (glossatorref02_Point.f (k + 1) a0) := by
  intro a0 k
  obtain ⟨ih0, ih1⟩ := glossatorref02_Point.mono_l k
  unfold glossatorref02_Point.f
  repeat' first
      | (with_reducible exact ih0 _ _ _)
      | (with_reducible exact ih1 _ _ _ _)
      | (with_reducible exact glossatorref02_need.mono _ _)
      | (with_reducible exact LeO.refl _)
      | (with_reducible exact LeO.none _)
      | (with_reducible refine LeO.ite ?_ ?_)
      | (with_reducible refine LeO.bind ?_ (fun _ => ?_))
      | exact ih0 _ _ _
      | exact ih1 _ _ _ _
      | exact glossatorref02_need.mono _ _
      | exact LeO.none _
      | refine LeO.ite ?_ ?_
      | refine LeO.bind ?_ (fun _ => ?_)
set_option maxHeartbeats 8000000 in
set_option maxRecDepth 100000 in
theorem glossatorref02_Point.calls (k : Nat) (a0 : ByteArray) (r1 : Int) (r2 : Int) (w : World) (h : glossatorref02_Point.f k a0 = some (r1, r2)) :
    Calls Try.prog 27 #[.string a0] w fun e w' => e = .returned (.tuple #[.int .i64 r1, .int .i64 r2]) ∧ Drawn0 w w' := by
  have H : (if a0.toList = ([] : List UInt8) then (some (0, 0)) else (if 0 < (a0.size : Int) then ((glossatorref02_need.f k (bt a0 0)).bind fun t119 => (if t119 = 0 then (glossatorref02_Point.j0 k a0 t119 true) else (glossatorref02_Point.j0 k a0 t119 (decide (t119 > (a0.size : Int)))))) else (none))) = some (r1, r2) := h
  clear h
  by_cases c2 : a0.toList = ([] : List UInt8)
  · rw [if_pos c2] at H
    have c2b0 : (a0.toList == ([] : List UInt8)) = true := beq_iff_eq.mpr c2
    have c2b1 : (a0.toList != ([] : List UInt8)) = false := bne_eq_false_iff_eq.mpr c2
    clear c2
    simp only [Option.some.injEq, Prod.mk.injEq] at H
    obtain ⟨rfl, rfl⟩ := H
    go_enter Try.func27, Try.ntmps27
    go_wp2
    repeat (go_quiet (fail); try go_wp2)
    go_ret2
    exact ⟨by first | rfl | (simp; done) | (simp [*]; done), by repeat (first | exact Drawn0.refl _ | apply Drawn0.step)⟩
  · rw [if_neg c2] at H
    have c2b0 : (a0.toList == ([] : List UInt8)) = false := beq_eq_false_iff_ne.mpr c2
    have c2b1 : (a0.toList != ([] : List UInt8)) = true := bne_iff_ne.mpr c2
    by_cases c3 : 0 < (a0.size : Int)
    · rw [if_pos c3] at H
      have c3b0 : decide (0 < (a0.size : Int)) = true := decide_eq_true c3
      have c3b1 : decide (0 < a0.size) = true := decide_eq_true (by omega)
      clear c3
      replace H := Option.bind_eq_some_iff.mp H
      obtain ⟨t119, A50, H⟩ := H
      replace H : (if t119 = 0 then (glossatorref02_Point.j0 k a0 t119 true) else (glossatorref02_Point.j0 k a0 t119 (decide (t119 > (a0.size : Int))))) = some (r1, r2) := H
      have A5 := Aside0.mk A50
      clear A50
      have HC6 := Aside0.mk H
      clear H
      have p4 : 0 ≤ (0 : Int) := (by omega)
      have q4 : 0 < a0.size := (by have : (0 : Int) < (a0.size : Int) := of_decide_eq_true (by first | (with_reducible assumption) | assumption); omega)
      have hx4 : ∀ h : 0 < a0.size, ((a0[0]'h).toNat : Int) = bt a0 0 := bt_at a0 0
      clear p4
      have qi4 : (0 < (a0.size : Int)) = True := eq_true (of_decide_eq_true (by first | (with_reducible assumption) | assumption))
      replace q4 := eq_true q4
      go_enter Try.func27, Try.ntmps27
      go_upto_region 4 with (first | (go_at_call 48; (with_reducible refine (glossatorref02_need.calls k (bt a0 0) t119 _ A5.out).mono ?_); rintro e w' ⟨rfl, ⟨nd, rfl⟩⟩; (try first | exact ⟨rfl, _, World.drewN_drewN _ _ _⟩ | exact ⟨rfl, _, Eq.trans (World.drewN_drewN _ _ _) (congrArg (World.drewN _) (Nat.add_assoc _ _ _))⟩)))
      repeat (go_quiet (first | (go_at_call 48; (with_reducible refine (glossatorref02_need.calls k (bt a0 0) t119 _ A5.out).mono ?_); rintro e w' ⟨rfl, ⟨nd, rfl⟩⟩; (try first | exact ⟨rfl, _, World.drewN_drewN _ _ _⟩ | exact ⟨rfl, _, Eq.trans (World.drewN_drewN _ _ _) (congrArg (World.drewN _) (Nat.add_assoc _ _ _))⟩))); go_upto_region 4 with (first | (go_at_call 48; (with_reducible refine (glossatorref02_need.calls k (bt a0 0) t119 _ A5.out).mono ?_); rintro e w' ⟨rfl, ⟨nd, rfl⟩⟩; (try first | exact ⟨rfl, _, World.drewN_drewN _ _ _⟩ | exact ⟨rfl, _, Eq.trans (World.drewN_drewN _ _ _) (congrArg (World.drewN _) (Nat.add_assoc _ _ _))⟩))))
      (try simp only [Act.put, List.setIfInBounds_toArray, List.set_cons_zero, List.set_cons_succ])
      go_cut [19] (fun v19 wc => ∃ (kq : Nat) (x19_5 : Bool), v19 = .bool x19_5 ∧ Aside0 (glossatorref02_Point.j0 kq a0 t119 x19_5 = some (r1, r2)) ∧ Aside0 (kq ≤ k) ∧ Drawn0 w wc)
      case first =>
        have H := HC6.out
        clear HC6
        by_cases c7 : t119 = 0
        · rw [if_pos c7] at H
          have c7b0 : (t119 == 0) = true := beq_iff_eq.mpr c7
          have c7b1 : (t119 != 0) = false := bne_eq_false_iff_eq.mpr c7
          clear c7
          (first | rw [c7b0] | (simp only [i64_w, i32_w]; rw [c7b0]) | skip)
          have H' := Aside0.mk H
          clear H
          go_wp2
          repeat (go_quiet (fail); try go_wp2)
          go_meet
          case rel => exact ⟨_, (true), (by first | rfl | (simp; done) | (simp [*]; done)), H', ⟨by first | omega | exact Nat.le_refl _⟩, by repeat (first | exact Drawn0.refl _ | apply Drawn0.step)⟩
        · rw [if_neg c7] at H
          have c7b0 : (t119 == 0) = false := beq_eq_false_iff_ne.mpr c7
          have c7b1 : (t119 != 0) = true := bne_iff_ne.mpr c7
          (first | rw [c7b0] | (simp only [i64_w, i32_w]; rw [c7b0]) | skip)
          have H' := Aside0.mk H
          clear H
          go_wp2
          repeat (go_quiet (fail); try go_wp2)
          go_meet
          case rel => exact ⟨_, (decide (t119 > (a0.size : Int))), (by first | rfl | (simp; done) | (simp [*]; done)), H', ⟨by first | omega | exact Nat.le_refl _⟩, by repeat (first | exact Drawn0.refl _ | apply Drawn0.step)⟩
      case rest =>
        clear HC6
        try clear c2
        try clear c2b0
        try clear c2b1
        try clear p2
        try clear c3
        try clear c3b0
        try clear c3b1
        try clear p4
        try clear q4
        try clear hx4
        try clear qi4
        try clear c7
        try clear c7b0
        try clear c7b1
        try clear p4
        try clear q4
        obtain ⟨kq, x19_5, rfl, HA, HJ5, ⟨mc5, rfl⟩⟩ := hcut
        cases kq with
        | zero => exact absurd HA.out (by simp [glossatorref02_Point.j0])
        | succ kj5 =>
          have H := HA.out
          clear HA
          simp only [glossatorref02_Point.j0] at H
          by_cases c8 : x19_5 = true
          · subst c8
            have H1 : (some (0, 0)) = some (r1, r2) := by rw [if_pos rfl] at H; exact H
            clear H
            have H := H1
            clear H1
            simp only [Option.some.injEq, Prod.mk.injEq] at H
            obtain ⟨rfl, rfl⟩ := H
            go_wp2
            repeat (go_quiet (fail); try go_wp2)
            go_ret2
            exact ⟨by first | rfl | (simp; done) | (simp [*]; done), by repeat (first | exact Drawn0.refl _ | apply Drawn0.step)⟩
          · replace c8 := Bool.eq_false_iff.mpr c8
            subst c8
            have H1 : (if t119 = 1 then (if 0 < (a0.size : Int) then (some (wrap64 (bt a0 0), 1)) else (none)) else (if 0 < (a0.size : Int) then (if 0 ≤ (wrap64 (t119 + 1)) then (glossatorref02_Point.l0 kj5 a0 t119 (Go.bits .and .i64 (wrap64 (bt a0 0)) (shr .i64 255 (wrap64 (t119 + 1)))) 1) else (none)) else (none))) = some (r1, r2) := by rw [if_neg (show ¬ (false = true) by decide)] at H; exact H
            clear H
            have H := H1
            clear H1
            by_cases c9 : t119 = 1
            · rw [if_pos c9] at H
              have c9b0 : (t119 == 1) = true := beq_iff_eq.mpr c9
              have c9b1 : (t119 != 1) = false := bne_eq_false_iff_eq.mpr c9
              clear c9
              by_cases c10 : 0 < (a0.size : Int)
              · rw [if_pos c10] at H
                have c10b0 : decide (0 < (a0.size : Int)) = true := decide_eq_true c10
                have c10b1 : decide (0 < a0.size) = true := decide_eq_true (by omega)
                clear c10
                simp only [Option.some.injEq, Prod.mk.injEq] at H
                obtain ⟨rfl, rfl⟩ := H
                have p11 : 0 ≤ (0 : Int) := (by omega)
                have q11 : 0 < a0.size := (by have : (0 : Int) < (a0.size : Int) := of_decide_eq_true (by first | (with_reducible assumption) | assumption); omega)
                have hx11 : ∀ h : 0 < a0.size, ((a0[0]'h).toNat : Int) = bt a0 0 := bt_at a0 0
                clear p11
                have qi11 : (0 < (a0.size : Int)) = True := eq_true (of_decide_eq_true (by first | (with_reducible assumption) | assumption))
                replace q11 := eq_true q11
                go_wp2
                repeat (go_quiet (fail); try go_wp2)
                go_ret2
                exact ⟨by first | rfl | (simp; done) | (simp [*]; done), by repeat (first | exact Drawn0.refl _ | apply Drawn0.step)⟩
              · rw [if_neg c10] at H
                exact absurd H (by simp)
            · rw [if_neg c9] at H
              have c9b0 : (t119 == 1) = false := beq_eq_false_iff_ne.mpr c9
              have c9b1 : (t119 != 1) = true := bne_iff_ne.mpr c9
              by_cases c12 : 0 < (a0.size : Int)
              · rw [if_pos c12] at H
                have c12b0 : decide (0 < (a0.size : Int)) = true := decide_eq_true c12
                have c12b1 : decide (0 < a0.size) = true := decide_eq_true (by omega)
                clear c12
                obtain ⟨ji14, hji14⟩ : ∃ j_ : Int, (wrap64 (t119 + 1)) = j_ := ⟨_, rfl⟩
                replace H : (if 0 ≤ (ji14) then (glossatorref02_Point.l0 kj5 a0 t119 (Go.bits .and .i64 (wrap64 (bt a0 0)) (shr .i64 255 (ji14))) 1) else (none)) = some (r1, r2) := by first | (rw [hji14] at H; exact H) | (simp only [hji14] at H ⊢; exact H)
                have hji14w : (IntKind.i64.wrap (t119 + 1)) = ji14 := (i64_w _).trans hji14
                by_cases c15 : 0 ≤ (ji14)
                · rw [if_pos c15] at H
                  have c15b0 := eq_true c15
                  have c15b1 : decide (0 ≤ (ji14)) = true := decide_eq_true c15
                  clear c15
                  obtain ⟨ji16, hji16⟩ : ∃ j_ : Int, (shr .i64 255 (ji14)) = j_ := ⟨_, rfl⟩
                  replace H : (glossatorref02_Point.l0 kj5 a0 t119 (Go.bits .and .i64 (wrap64 (bt a0 0)) (ji16)) 1) = some (r1, r2) := by first | (rw [hji16] at H; exact H) | (simp only [hji16] at H ⊢; exact H)
                  have hji16_ : (255 / 2 ^ min (ji14).toNat 64) = ji16 := hji16
                  have hji16z : (ji14) ≤ 64 → (255 / 2 ^ (ji14).toNat) = ji16 := shr_small hji16
                  have H' := Aside0.mk H
                  clear H
                  have p13 : 0 ≤ (0 : Int) := (by omega)
                  have q13 : 0 < a0.size := (by have : (0 : Int) < (a0.size : Int) := of_decide_eq_true (by first | (with_reducible assumption) | assumption); omega)
                  have hx13 : ∀ h : 0 < a0.size, ((a0[0]'h).toNat : Int) = bt a0 0 := bt_at a0 0
                  clear p13
                  have qi13 : (0 < (a0.size : Int)) = True := eq_true (of_decide_eq_true (by first | (with_reducible assumption) | assumption))
                  replace q13 := eq_true q13
                  go_wp2
                  repeat (go_quiet (fail); try go_wp2)
                  go_loopg [5, 6] kj5 (fun kq v5 v6 w' => ∃ (x5_2 : Int) (x6_2 : Int), v5 = .int .i64 x5_2 ∧ v6 = .int .i64 x6_2 ∧ Aside0 (glossatorref02_Point.l0 kq a0 t119 x5_2 x6_2 = some (r1, r2)) ∧ Aside0 (kq ≤ kj5) ∧ Drawn0 w w')
                  case atStart => exact ⟨(Go.bits .and .i64 (wrap64 (bt a0 0)) (ji16)), (1), (by first | rfl | (simp; done) | (simp only [← hji16] <;> (first | rfl | simp)) | (simp [*]; done)), (by first | rfl | (simp; done) | (simp [*]; done)), H', ⟨Nat.le_refl _⟩, by repeat (first | exact Drawn0.refl _ | apply Drawn0.step)⟩
                  case round =>
                    clear H'
                    try clear c1
                    try clear p1
                    try clear q1
                    try clear hx1
                    try clear qi1
                    try clear c2
                    try clear c2b0
                    try clear c2b1
                    try clear p2
                    try clear c3
                    try clear c3b0
                    try clear c3b1
                    try clear p4
                    try clear q4
                    try clear hx4
                    try clear qi4
                    try clear c5
                    try clear p6
                    try clear c7
                    try clear c7b0
                    try clear c7b1
                    try clear c8
                    try clear c9
                    try clear c9b0
                    try clear c9b1
                    try clear c10
                    try clear c10b0
                    try clear c10b1
                    try clear p11
                    try clear q11
                    try clear hx11
                    try clear qi11
                    try clear c12
                    try clear c12b0
                    try clear c12b1
                    try clear p13
                    try clear q13
                    try clear hx13
                    try clear qi13
                    try clear c15
                    try clear c15b0
                    try clear c15b1
                    try clear p11
                    try clear p13
                    try clear p2
                    try clear p4
                    try clear q11
                    try clear q13
                    try clear q4
                    obtain ⟨x5_2, x6_2, rfl, rfl, HA, HK2, ⟨m2, rfl⟩⟩ := hrel
                    cases gk with
                    | zero => exact absurd HA.out (by simp [glossatorref02_Point.l0])
                    | succ k2 =>
                      have H := HA.out
                      clear HA
                      simp only [glossatorref02_Point.l0] at H
                      by_cases c17 : x6_2 < t119
                      · rw [if_pos c17] at H
                        have c17b0 : decide (x6_2 < t119) = true := decide_eq_true c17
                        clear c17
                        by_cases c18 : 0 < (a0.size : Int)
                        · rw [if_pos c18] at H
                          have c18b0 : decide (0 < (a0.size : Int)) = true := decide_eq_true c18
                          have c18b1 : decide (0 < a0.size) = true := decide_eq_true (by omega)
                          clear c18
                          by_cases c20 : 0 ≤ x6_2
                          · rw [if_pos c20] at H
                            have c20b0 : decide (0 ≤ x6_2) = true := decide_eq_true c20
                            clear c20
                            by_cases c21 : x6_2 < (a0.size : Int)
                            · rw [if_pos c21] at H
                              have c21b0 : decide (x6_2 < (a0.size : Int)) = true := decide_eq_true c21
                              clear c21
                              replace H := Option.bind_eq_some_iff.mp H
                              obtain ⟨t120, A230, H⟩ := H
                              replace H : (if t120 = true then (glossatorref02_Point.l0 k2 a0 t119 (Go.bits .or .i64 (wrap64 (x5_2 * 64)) (Go.bits .and .i64 (wrap64 (bt a0 x6_2)) 63)) (wrap64 (x6_2 + 1))) else (some (0, 0))) = some (r1, r2) := H
                              have A23 := Aside0.mk A230
                              clear A230
                              by_cases c24 : t120 = true
                              · subst c24
                                have H1 : (glossatorref02_Point.l0 k2 a0 t119 (Go.bits .or .i64 (wrap64 (x5_2 * 64)) (Go.bits .and .i64 (wrap64 (bt a0 x6_2)) 63)) (wrap64 (x6_2 + 1))) = some (r1, r2) := by rw [if_pos rfl] at H; exact H
                                clear H
                                have H := H1
                                clear H1
                                have H' := Aside0.mk H
                                clear H
                                have p19 : 0 ≤ (0 : Int) := (by omega)
                                have q19 : 0 < a0.size := (by have : (0 : Int) < (a0.size : Int) := of_decide_eq_true (by first | (with_reducible assumption) | assumption); omega)
                                have hx19 : ∀ h : 0 < a0.size, ((a0[0]'h).toNat : Int) = bt a0 0 := bt_at a0 0
                                clear p19
                                have qi19 : (0 < (a0.size : Int)) = True := eq_true (of_decide_eq_true (by first | (with_reducible assumption) | assumption))
                                replace q19 := eq_true q19
                                have p22 : 0 ≤ (x6_2 : Int) := of_decide_eq_true (by first | (with_reducible assumption) | assumption)
                                have q22 : x6_2 < (a0.size : Int) := of_decide_eq_true (by first | (with_reducible assumption) | assumption)
                                have hx22 := bt_at a0 x6_2
                                replace p22 := eq_true p22
                                replace q22 := eq_true q22
                                go_wp2_with (first | (go_at_call 49; (with_reducible refine (glossatorref02_may.calls (bt a0 0) x6_2 (bt a0 x6_2) true _ A23.out).mono ?_); rintro e w' ⟨rfl, ⟨nd, rfl⟩⟩; (try first | exact ⟨rfl, _, World.drewN_drewN _ _ _⟩ | exact ⟨rfl, _, Eq.trans (World.drewN_drewN _ _ _) (congrArg (World.drewN _) (Nat.add_assoc _ _ _))⟩); have p25 : 0 ≤ (x6_2 : Int) := of_decide_eq_true (by first | (with_reducible assumption) | assumption); have q25 : x6_2 < (a0.size : Int) := of_decide_eq_true (by first | (with_reducible assumption) | assumption); have hx25 := bt_at a0 x6_2; replace p25 := eq_true p25; replace q25 := eq_true q25))
                                repeat (go_quiet (first | (go_at_call 49; (with_reducible refine (glossatorref02_may.calls (bt a0 0) x6_2 (bt a0 x6_2) true _ A23.out).mono ?_); rintro e w' ⟨rfl, ⟨nd, rfl⟩⟩; (try first | exact ⟨rfl, _, World.drewN_drewN _ _ _⟩ | exact ⟨rfl, _, Eq.trans (World.drewN_drewN _ _ _) (congrArg (World.drewN _) (Nat.add_assoc _ _ _))⟩); have p25 : 0 ≤ (x6_2 : Int) := of_decide_eq_true (by first | (with_reducible assumption) | assumption); have q25 : x6_2 < (a0.size : Int) := of_decide_eq_true (by first | (with_reducible assumption) | assumption); have hx25 := bt_at a0 x6_2; replace p25 := eq_true p25; replace q25 := eq_true q25)); try go_wp2_with (first | (go_at_call 49; (with_reducible refine (glossatorref02_may.calls (bt a0 0) x6_2 (bt a0 x6_2) true _ A23.out).mono ?_); rintro e w' ⟨rfl, ⟨nd, rfl⟩⟩; (try first | exact ⟨rfl, _, World.drewN_drewN _ _ _⟩ | exact ⟨rfl, _, Eq.trans (World.drewN_drewN _ _ _) (congrArg (World.drewN _) (Nat.add_assoc _ _ _))⟩); have p25 : 0 ≤ (x6_2 : Int) := of_decide_eq_true (by first | (with_reducible assumption) | assumption); have q25 : x6_2 < (a0.size : Int) := of_decide_eq_true (by first | (with_reducible assumption) | assumption); have hx25 := bt_at a0 x6_2; replace p25 := eq_true p25; replace q25 := eq_true q25)))
                                go_roundg k2
                                case measure => have := HJ5.out; have := HK2.out; omega
                                case rel => exact ⟨(Go.bits .or .i64 (wrap64 (x5_2 * 64)) (Go.bits .and .i64 (wrap64 (bt a0 x6_2)) 63)), (wrap64 (x6_2 + 1)), (by first | rfl | (simp; done) | (simp [*]; done)), (by first | rfl | (simp; done) | (simp [*]; done)), H', ⟨by have := HJ5.out; have := HK2.out; omega⟩, by repeat (first | exact Drawn0.refl _ | apply Drawn0.step)⟩
                              · replace c24 := Bool.eq_false_iff.mpr c24
                                subst c24
                                have H1 : (some (0, 0)) = some (r1, r2) := by rw [if_neg (show ¬ (false = true) by decide)] at H; exact H
                                clear H
                                have H := H1
                                clear H1
                                simp only [Option.some.injEq, Prod.mk.injEq] at H
                                obtain ⟨rfl, rfl⟩ := H
                                have p19 : 0 ≤ (0 : Int) := (by omega)
                                have q19 : 0 < a0.size := (by have : (0 : Int) < (a0.size : Int) := of_decide_eq_true (by first | (with_reducible assumption) | assumption); omega)
                                have hx19 : ∀ h : 0 < a0.size, ((a0[0]'h).toNat : Int) = bt a0 0 := bt_at a0 0
                                clear p19
                                have qi19 : (0 < (a0.size : Int)) = True := eq_true (of_decide_eq_true (by first | (with_reducible assumption) | assumption))
                                replace q19 := eq_true q19
                                have p22 : 0 ≤ (x6_2 : Int) := of_decide_eq_true (by first | (with_reducible assumption) | assumption)
                                have q22 : x6_2 < (a0.size : Int) := of_decide_eq_true (by first | (with_reducible assumption) | assumption)
                                have hx22 := bt_at a0 x6_2
                                replace p22 := eq_true p22
                                replace q22 := eq_true q22
                                go_wp2_with (first | (go_at_call 49; (with_reducible refine (glossatorref02_may.calls (bt a0 0) x6_2 (bt a0 x6_2) false _ A23.out).mono ?_); rintro e w' ⟨rfl, ⟨nd, rfl⟩⟩; (try first | exact ⟨rfl, _, World.drewN_drewN _ _ _⟩ | exact ⟨rfl, _, Eq.trans (World.drewN_drewN _ _ _) (congrArg (World.drewN _) (Nat.add_assoc _ _ _))⟩)))
                                repeat (go_quiet (first | (go_at_call 49; (with_reducible refine (glossatorref02_may.calls (bt a0 0) x6_2 (bt a0 x6_2) false _ A23.out).mono ?_); rintro e w' ⟨rfl, ⟨nd, rfl⟩⟩; (try first | exact ⟨rfl, _, World.drewN_drewN _ _ _⟩ | exact ⟨rfl, _, Eq.trans (World.drewN_drewN _ _ _) (congrArg (World.drewN _) (Nat.add_assoc _ _ _))⟩))); try go_wp2_with (first | (go_at_call 49; (with_reducible refine (glossatorref02_may.calls (bt a0 0) x6_2 (bt a0 x6_2) false _ A23.out).mono ?_); rintro e w' ⟨rfl, ⟨nd, rfl⟩⟩; (try first | exact ⟨rfl, _, World.drewN_drewN _ _ _⟩ | exact ⟨rfl, _, Eq.trans (World.drewN_drewN _ _ _) (congrArg (World.drewN _) (Nat.add_assoc _ _ _))⟩))))
                                go_ret2
                                exact ⟨by first | rfl | (simp; done) | (simp only [← hji14, ← hji16] <;> (first | rfl | simp)) | (simp [*]; done), by repeat (first | exact Drawn0.refl _ | apply Drawn0.step)⟩
                            · rw [if_neg c21] at H
                              exact absurd H (by simp)
                          · rw [if_neg c20] at H
                            exact absurd H (by simp)
                        · rw [if_neg c18] at H
                          exact absurd H (by simp)
                      · rw [if_neg c17] at H
                        have c17b0 : decide (x6_2 < t119) = false := decide_eq_false c17
                        clear c17
                        simp only [Option.some.injEq, Prod.mk.injEq] at H
                        obtain ⟨rfl, rfl⟩ := H
                        go_wp2
                        repeat (go_quiet (fail); try go_wp2)
                        go_ret2
                        exact ⟨by first | rfl | (simp; done) | (simp only [← hji14, ← hji16] <;> (first | rfl | simp)) | (simp [*]; done), by repeat (first | exact Drawn0.refl _ | apply Drawn0.step)⟩
                · rw [if_neg c15] at H
                  exact absurd H (by simp)
              · rw [if_neg c12] at H
                exact absurd H (by simp)
    · rw [if_neg c3] at H
      exact absurd H (by simp)

end Go.Proofs.Ytlbokaekhjjabaa.U

-- Written by a program of this session (joint.sh) out of the translation. Not trusted: Lean checks it.
namespace Go.Proofs.Ytlbokaekhjjabaa.U
open Go.RowKit Go.Proofs.YtlbokaekhjjabaaW.PrintWords Go.Proofs.YtlbokaekhjjabaaW.PrintLast Go.Proofs.YtlbokaekhjjabaaW.PrintMore
attribute [local go_sem] max2_int min2_int max_two min_two max_three min_three max_four min_four   -- for this text's walks alone
set_option linter.unusedVariables false
set_option linter.unusedSimpArgs false

/-! ### utf_Encode: function 28 -/
mutual
def utf_Encode.j0 : Nat → Int → Bool → Option (ByteArray)
  | 0, _, _ => none
  | k + 1, x0, x6 => if x6 = true then (some (⟨#[]⟩ : ByteArray)) else (if x0 < 128 then (some (strOfNums (([(x0) % 256] : List Int)))) else (utf_Encode.l0 k x0 2))
def utf_Encode.j2 : Nat → Int → List Int → Int → Option (ByteArray)
  | 0, _, _, _ => none
  | k + 1, x0, x3, x4 => utf_Encode.l1 k x0 x3 x4 (wrap64 (x4 - 1))
def utf_Encode.l1 : Nat → Int → List Int → Int → Int → Option (ByteArray)
  | 0, _, _, _, _ => none
  | k + 1, x0, x3, x4, x5 => if x5 > 0 then ((some (([Go.bits .or .u8 128 ((Go.bits .and .i64 x0 63) % 256)] : List Int) : List Int)).bind fun y124 => (if y124.length + x3.length < 140737488355328 then (utf_Encode.l1 k (x0 / 64) (y124 ++ x3) x4 (wrap64 (x5 - 1))) else (none))) else (if 0 ≤ x4 then ((some (([Go.bits .or .u8 ((shr .i64 3840 x4) % 256) ((x0) % 256)] : List Int) : List Int)).bind fun y130 => (if y130.length + x3.length < 140737488355328 then (some (strOfNums (y130 ++ x3))) else (none))) else (none))
def utf_Encode.l0 : Nat → Int → Int → Option (ByteArray)
  | 0, _, _ => none
  | k + 1, x0, x4 => if x4 < 4 then (if 0 ≤ (wrap64 ((wrap64 (5 * x4)) + 1)) then (if (shr .i64 x0 (wrap64 ((wrap64 (5 * x4)) + 1))) > 0 then (utf_Encode.l0 k x0 (wrap64 (x4 + 1))) else (utf_Encode.j2 k x0 ([] : List Int) x4)) else (none)) else (utf_Encode.j2 k x0 ([] : List Int) x4)
end
def utf_Encode.f (k : Nat) (a0 : Int) : Option (ByteArray) := if a0 < 0 then (utf_Encode.j0 k a0 true) else (if a0 > 1114111 then (utf_Encode.j0 k a0 true) else (utf_Encode.j0 k a0 ((a0 / 2048) == 27)))
theorem utf_Encode.mono_l : ∀ k, (∀ y0 y1, LeO (utf_Encode.j0 k y0 y1) (utf_Encode.j0 (k + 1) y0 y1)) ∧ (∀ y0 y1 y2, LeO (utf_Encode.j2 k y0 y1 y2) (utf_Encode.j2 (k + 1) y0 y1 y2)) ∧ (∀ y0 y1 y2 y3, LeO (utf_Encode.l1 k y0 y1 y2 y3) (utf_Encode.l1 (k + 1) y0 y1 y2 y3)) ∧ (∀ y0 y1, LeO (utf_Encode.l0 k y0 y1) (utf_Encode.l0 (k + 1) y0 y1))
  | 0 => ⟨fun _ _ r h => by simp [utf_Encode.j0] at h, fun _ _ _ r h => by simp [utf_Encode.j2] at h, fun _ _ _ _ r h => by simp [utf_Encode.l1] at h, fun _ _ r h => by simp [utf_Encode.l0] at h⟩
  | k + 1 => by
    obtain ⟨ih0, ih1, ih2, ih3⟩ := utf_Encode.mono_l k
    refine ⟨?_, ?_, ?_, ?_⟩
    · intro y0 y1
      unfold utf_Encode.j0
      repeat' first
      | (with_reducible exact ih0 _ _)
      | (with_reducible exact ih1 _ _ _)
      | (with_reducible exact ih2 _ _ _ _)
      | (with_reducible exact ih3 _ _)
      | (with_reducible exact LeO.refl _)
      | (with_reducible exact LeO.none _)
      | (with_reducible refine LeO.ite ?_ ?_)
      | (with_reducible refine LeO.bind ?_ (fun _ => ?_))
      | exact ih0 _ _
      | exact ih1 _ _ _
      | exact ih2 _ _ _ _
      | exact ih3 _ _
      | exact LeO.none _
      | refine LeO.ite ?_ ?_
      | refine LeO.bind ?_ (fun _ => ?_)
    · intro y0 y1 y2
      unfold utf_Encode.j2
      repeat' first
      | (with_reducible exact ih0 _ _)
      | (with_reducible exact ih1 _ _ _)
      | (with_reducible exact ih2 _ _ _ _)
      | (with_reducible exact ih3 _ _)
      | (with_reducible exact LeO.refl _)
      | (with_reducible exact LeO.none _)
      | (with_reducible refine LeO.ite ?_ ?_)
      | (with_reducible refine LeO.bind ?_ (fun _ => ?_))
      | exact ih0 _ _
      | exact ih1 _ _ _
      | exact ih2 _ _ _ _
      | exact ih3 _ _
      | exact LeO.none _
      | refine LeO.ite ?_ ?_
      | refine LeO.bind ?_ (fun _ => ?_)
    · intro y0 y1 y2 y3
      unfold utf_Encode.l1
      repeat' first
      | (with_reducible exact ih0 _ _)
      | (with_reducible exact ih1 _ _ _)
      | (with_reducible exact ih2 _ _ _ _)
      | (with_reducible exact ih3 _ _)
      | (with_reducible exact LeO.refl _)
      | (with_reducible exact LeO.none _)
      | (with_reducible refine LeO.ite ?_ ?_)
      | (with_reducible refine LeO.bind ?_ (fun _ => ?_))
      | exact ih0 _ _
      | exact ih1 _ _ _
      | exact ih2 _ _ _ _
      | exact ih3 _ _
      | exact LeO.none _
      | refine LeO.ite ?_ ?_
      | refine LeO.bind ?_ (fun _ => ?_)
    · intro y0 y1
      unfold utf_Encode.l0
      repeat' first
      | (with_reducible exact ih0 _ _)
      | (with_reducible exact ih1 _ _ _)
      | (with_reducible exact ih2 _ _ _ _)
      | (with_reducible exact ih3 _ _)
      | (with_reducible exact LeO.refl _)
      | (with_reducible exact LeO.none _)
      | (with_reducible refine LeO.ite ?_ ?_)
      | (with_reducible refine LeO.bind ?_ (fun _ => ?_))
      | exact ih0 _ _
      | exact ih1 _ _ _
      | exact ih2 _ _ _ _
      | exact ih3 _ _
      | exact LeO.none _
      | refine LeO.ite ?_ ?_
      | refine LeO.bind ?_ (fun _ => ?_)
theorem utf_Encode.mono : ∀ a0 k, LeO (utf_Encode.f k a0) (utf_Encode.f (k + 1) a0) := by
  intro a0 k
  obtain ⟨ih0, ih1, ih2, ih3⟩ := utf_Encode.mono_l k
  unfold utf_Encode.f
  repeat' first
      | (with_reducible exact ih0 _ _)
      | (with_reducible exact ih1 _ _ _)
      | (with_reducible exact ih2 _ _ _ _)
      | (with_reducible exact ih3 _ _)
      | (with_reducible exact LeO.refl _)
      | (with_reducible exact LeO.none _)
      | (with_reducible refine LeO.ite ?_ ?_)
      | (with_reducible refine LeO.bind ?_ (fun _ => ?_))
      | exact ih0 _ _
      | exact ih1 _ _ _
      | exact ih2 _ _ _ _
      | exact ih3 _ _
      | exact LeO.none _
      | refine LeO.ite ?_ ?_
      | refine LeO.bind ?_ (fun _ => ?_)
set_option maxHeartbeats 8000000 in
set_option maxRecDepth 100000 in
theorem utf_Encode.calls (k : Nat) (a0 : Int) (r : ByteArray) (w : World) (h : utf_Encode.f k a0 = some r) :
    Calls Try.prog 28 #[.int .i64 a0] w fun e w' => e = .returned (.string r) ∧ Below w.heap.size w w' := by
  have HB := Aside0.mk (Below.refl w.heap.size w)
  have H : (if a0 < 0 then (utf_Encode.j0 k a0 true) else (if a0 > 1114111 then (utf_Encode.j0 k a0 true) else (utf_Encode.j0 k a0 ((a0 / 2048) == 27)))) = some r := h
  clear h
  have HC2 := Aside0.mk H
  clear H
  go_enter Try.func28, Try.ntmps28
  go_upto_region 1 with (fail)
  go_cut [6] (fun v6 wc => ∃ (kq : Nat) (x6_1 : Bool), v6 = .bool x6_1 ∧ Aside0 (utf_Encode.j0 kq a0 x6_1 = some r) ∧ Aside0 (kq ≤ k) ∧ Aside0 (Below w.heap.size w wc))
  case first =>
    have H := HC2.out
    clear HC2
    by_cases c3 : a0 < 0
    · rw [if_pos c3] at H
      have c3b0 : decide (a0 < 0) = true := decide_eq_true c3
      clear c3
      (first | rw [c3b0] | (simp only [i64_w, i32_w]; rw [c3b0]) | skip)
      have H' := Aside0.mk H
      clear H
      go_wp2
      go_meet
      case rel => exact ⟨_, (true), (by first | rfl | (simp; done) | (simp [*]; done)), H', ⟨by first | omega | exact Nat.le_refl _⟩, ⟨by repeat (first | (with_reducible first | exact HB.out | apply below_alloc | apply pw_below_drewN | apply below_drew1) | exact HB.out)⟩⟩
    · rw [if_neg c3] at H
      have c3b0 : decide (a0 < 0) = false := decide_eq_false c3
      clear c3
      (first | rw [c3b0] | (simp only [i64_w, i32_w]; rw [c3b0]) | skip)
      by_cases c4 : a0 > 1114111
      · rw [if_pos c4] at H
        have c4b0 : decide (1114111 < a0) = true := decide_eq_true c4
        clear c4
        have H' := Aside0.mk H
        clear H
        go_wp2
        go_meet
        case rel => exact ⟨_, (true), (by first | rfl | (simp; done) | (simp [*]; done)), H', ⟨by first | omega | exact Nat.le_refl _⟩, ⟨by repeat (first | (with_reducible first | exact HB.out | apply below_alloc | apply pw_below_drewN | apply below_drew1) | exact HB.out)⟩⟩
      · rw [if_neg c4] at H
        have c4b0 : decide (1114111 < a0) = false := decide_eq_false c4
        clear c4
        have H' := Aside0.mk H
        clear H
        go_wp2
        go_meet
        case rel => exact ⟨_, (((a0 / 2048) == 27)), (by first | rfl | (simp; done) | (simp [*]; done)), H', ⟨by first | omega | exact Nat.le_refl _⟩, ⟨by repeat (first | (with_reducible first | exact HB.out | apply below_alloc | apply pw_below_drewN | apply below_drew1) | exact HB.out)⟩⟩
  case rest =>
    clear HC2
    try clear c2
    try clear p2
    try clear c3
    try clear c3b0
    try clear c4
    try clear c4b0
    obtain ⟨kq, x6_1, rfl, HA, HJ1, HB⟩ := hcut
    cases kq with
    | zero => exact absurd HA.out (by simp [utf_Encode.j0])
    | succ kj1 =>
      have H := HA.out
      clear HA
      simp only [utf_Encode.j0] at H
      by_cases c5 : x6_1 = true
      · subst c5
        have H1 : (some (⟨#[]⟩ : ByteArray)) = some r := by rw [if_pos rfl] at H; exact H
        clear H
        have H := H1
        clear H1
        obtain rfl := Option.some.inj H
        go_wp2
        go_ret
        exact ⟨by first | rfl | (simp [errW_none, errW_some] <;> rfl) | (simp [*, errW_none, errW_some] <;> rfl), by repeat (first | (with_reducible first | exact HB.out | apply below_alloc | apply pw_below_drewN | apply below_drew1) | exact HB.out)⟩
      · replace c5 := Bool.eq_false_iff.mpr c5
        subst c5
        have H1 : (if a0 < 128 then (some (strOfNums (([(a0) % 256] : List Int)))) else (utf_Encode.l0 kj1 a0 2)) = some r := by rw [if_neg (show ¬ (false = true) by decide)] at H; exact H
        clear H
        have H := H1
        clear H1
        by_cases c6 : a0 < 128
        · rw [if_pos c6] at H
          have c6b0 : decide (a0 < 128) = true := decide_eq_true c6
          clear c6
          obtain ⟨y121, hy121⟩ : ∃ y_ : List Int, y_ = (([(a0) % 256] : List Int)) := ⟨_, rfl⟩
          replace H : (some (strOfNums y121)) = some r := by first | (rw [hy121]; with_reducible exact H) | (have H2_ := (Option.bind_some _ _).symm.trans H; rw [hy121]; with_reducible exact H2_) | (have H2_ := (Option.bind_some _ _).symm.trans H; with_reducible exact H2_) | with_reducible exact H | (rw [hy121]; exact H) | exact H
          have Ny121 := Aside0.mk hy121
          clear hy121
          obtain rfl := Option.some.inj H
          go_wp2_with (first | ((with_reducible refine gate_dst (N := 23) rfl ?_); refine Kd.R_lit (Kd.int .u8) _ 5 ?hg (N := 23) ?hd (xs := ([(a0) % 256] : List Int)) (inner := [.int .u8 ((a0) % 256)]) (ok := fun _ => True) (okp := fun _ => True) ?hr ?hp (fun _ hk => hk) trivial (Below.refl _ _) (Nat.le_refl _) (by simp) ?_; (case hd => rfl); (case hg => rfl); (case hr => first | (go_simp; done) | (go_simp; rfl)); (case hp => exact (Reps.one (show Kd.M (Kd.int .u8) _ _ _ ((a0) % 256) [.int .u8 ((a0) % 256)] from rfl) (Reps.none _ _))); intro v122 w7 ho8 hb hg_ hnew_; clear hg_ hnew_; (first | rw [← Ny121.out] at ho8 | (simp only [Int.reduceToNat] at ho8; rw [← Ny121.out] at ho8)); have n0_ := Aside0.mk (Kd.R_lower ho8 (below_size (by repeat (first | (with_reducible first | exact HB.out | apply below_alloc | apply pw_below_drewN | apply below_drew1) | exact HB.out)))); have n1_ := Aside0.mk (below_step (by repeat (first | (with_reducible first | exact HB.out | apply below_alloc | apply pw_below_drewN | apply below_drew1) | exact HB.out)) hb); clear HB; have HO123 := n0_; have HB := n1_; clear n0_ n1_; clear hb ho8; have hcv9 := own_string (P := Try.prog) Try.underlying28 Try.underlying5 Try.underlying9 (Kd.own_of_R HO123.out)))
          go_ret
          exact ⟨by first | rfl | (simp [errW_none, errW_some] <;> rfl) | (simp [*, errW_none, errW_some] <;> rfl), by repeat (first | (with_reducible first | exact HB.out | apply below_alloc | apply pw_below_drewN | apply below_drew1) | exact HB.out)⟩
        · rw [if_neg c6] at H
          have c6b0 : decide (a0 < 128) = false := decide_eq_false c6
          clear c6
          have HC10 := Aside0.mk H
          clear H
          go_upto_block 1 with (fail)
          go_cut [4] (fun v4 wc => ∃ (kq : Nat) (x4_9 : Int), v4 = .int .i64 x4_9 ∧ Aside0 (utf_Encode.j2 kq a0 ([] : List Int) x4_9 = some r) ∧ Aside0 (kq ≤ kj1) ∧ Aside0 (Kd.R (Kd.int .u8) 5 wc w.heap.size (fun _ => True) (.slice none 0 0) ([] : List Int)) ∧ Aside0 (Below w.heap.size w wc))
          case first =>
            have H := HC10.out
            clear HC10
            have H' := Aside0.mk H
            clear H
            go_wp2
            go_loopg [4] kj1 (fun kq v4 w' => ∃ (x4_2 : Int), v4 = .int .i64 x4_2 ∧ Aside0 (utf_Encode.l0 kq a0 x4_2 = some r) ∧ Aside0 (kq ≤ kj1) ∧ Aside0 (Below w.heap.size w w'))
            case atStart => exact ⟨(2), (by first | rfl | (simp; done) | (simp [*]; done)), H', ⟨Nat.le_refl _⟩, ⟨by repeat (first | (with_reducible first | exact HB.out | apply below_alloc | apply pw_below_drewN | apply below_drew1) | exact HB.out)⟩⟩
            case round =>
              clear H'
              try clear c2
              try clear p2
              try clear c3
              try clear c3b0
              try clear c4
              try clear c4b0
              try clear c5
              try clear c6
              try clear c6b0
              try clear hcv9
              try clear p2
              obtain ⟨x4_2, rfl, HA, HK2, HB⟩ := hrel
              cases gk with
              | zero => exact absurd HA.out (by simp [utf_Encode.l0])
              | succ k2 =>
                have H := HA.out
                clear HA
                simp only [utf_Encode.l0] at H
                by_cases c11 : x4_2 < 4
                · rw [if_pos c11] at H
                  have c11b0 : decide (x4_2 < 4) = true := decide_eq_true c11
                  clear c11
                  (first | rw [c11b0] | (simp only [i64_w, i32_w]; rw [c11b0]) | skip)
                  obtain ⟨ji12, hji12⟩ : ∃ j_ : Int, (wrap64 ((wrap64 (5 * x4_2)) + 1)) = j_ := ⟨_, rfl⟩
                  replace H : (if 0 ≤ (ji12) then (if (shr .i64 a0 (ji12)) > 0 then (utf_Encode.l0 k2 a0 (wrap64 (x4_2 + 1))) else (utf_Encode.j2 k2 a0 ([] : List Int) x4_2)) else (none)) = some r := by first | (rw [hji12] at H; exact H) | (simp only [hji12] at H ⊢; exact H)
                  have hji12w : (IntKind.i64.wrap ((wrap64 (5 * x4_2)) + 1)) = ji12 := (i64_w _).trans hji12
                  by_cases c13 : 0 ≤ (ji12)
                  · rw [if_pos c13] at H
                    have c13b0 := eq_true c13
                    have c13b1 : decide (0 ≤ (ji12)) = true := decide_eq_true c13
                    clear c13
                    obtain ⟨ji14, hji14⟩ : ∃ j_ : Int, (shr .i64 a0 (ji12)) = j_ := ⟨_, rfl⟩
                    replace H : (if (ji14) > 0 then (utf_Encode.l0 k2 a0 (wrap64 (x4_2 + 1))) else (utf_Encode.j2 k2 a0 ([] : List Int) x4_2)) = some r := by first | (rw [hji14] at H; exact H) | (simp only [hji14] at H ⊢; exact H)
                    have hji14_ : (a0 / 2 ^ min (ji12).toNat 64) = ji14 := hji14
                    have hji14z : (ji12) ≤ 64 → (a0 / 2 ^ (ji12).toNat) = ji14 := shr_small hji14
                    by_cases c15 : (ji14) > 0
                    · rw [if_pos c15] at H
                      have c15b0 : decide (0 < (ji14)) = true := decide_eq_true c15
                      clear c15
                      have H' := Aside0.mk H
                      clear H
                      go_wp2
                      go_roundg k2
                      case measure => have := HJ1.out; have := HK2.out; omega
                      case rel => exact ⟨(wrap64 (x4_2 + 1)), (by first | rfl | (simp; done) | (simp [*]; done)), H', ⟨by have := HJ1.out; have := HK2.out; omega⟩, ⟨by repeat (first | (with_reducible first | exact HB.out | apply below_alloc | apply pw_below_drewN | apply below_drew1) | exact HB.out)⟩⟩
                    · rw [if_neg c15] at H
                      have c15b0 : decide (0 < (ji14)) = false := decide_eq_false c15
                      clear c15
                      have H' := Aside0.mk H
                      clear H
                      go_wp2
                      go_meet
                      case rel => exact ⟨_, (x4_2), (by first | rfl | (simp; done) | (simp [*]; done)), H', ⟨by have := HJ1.out; have := HK2.out; first | omega | exact Nat.le_refl _⟩, ⟨by first | exact Kd.R_nil _ _ _ _ _ | exact Kd.N_nil _ _ _ _ _ | exact Kd.V_nil _ _ _ _ _ | exact Kd.Q_nil _ _ _ _ _ | exact Kd.S_nil _ _ _ _ _⟩, ⟨by repeat (first | (with_reducible first | exact HB.out | apply below_alloc | apply pw_below_drewN | apply below_drew1) | exact HB.out)⟩⟩
                  · rw [if_neg c13] at H
                    exact absurd H (by simp)
                · rw [if_neg c11] at H
                  have c11b0 : decide (x4_2 < 4) = false := decide_eq_false c11
                  clear c11
                  (first | rw [c11b0] | (simp only [i64_w, i32_w]; rw [c11b0]) | skip)
                  have H' := Aside0.mk H
                  clear H
                  go_wp2
                  go_meet
                  case rel => exact ⟨_, (x4_2), (by first | rfl | (simp; done) | (simp [*]; done)), H', ⟨by have := HJ1.out; have := HK2.out; first | omega | exact Nat.le_refl _⟩, ⟨by first | exact Kd.R_nil _ _ _ _ _ | exact Kd.N_nil _ _ _ _ _ | exact Kd.V_nil _ _ _ _ _ | exact Kd.Q_nil _ _ _ _ _ | exact Kd.S_nil _ _ _ _ _⟩, ⟨by repeat (first | (with_reducible first | exact HB.out | apply below_alloc | apply pw_below_drewN | apply below_drew1) | exact HB.out)⟩⟩
          case rest =>
            clear HC10
            try clear c1
            try clear c2
            try clear p2
            try clear c3
            try clear c3b0
            try clear c4
            try clear c4b0
            try clear c5
            try clear c6
            try clear c6b0
            try clear p6
            try clear hcv9
            try clear c11
            try clear c11b0
            try clear c13
            try clear c13b0
            try clear c13b1
            try clear c15
            try clear c15b0
            try clear p2
            obtain ⟨kq, x4_9, rfl, HA, HJ9, HO_3, HB⟩ := hcut
            cases kq with
            | zero => exact absurd HA.out (by simp [utf_Encode.j2])
            | succ kj9 =>
              have H := HA.out
              clear HA
              simp only [utf_Encode.j2] at H
              have H' := Aside0.mk H
              clear H
              go_wp2
              go_loopg [0, 3, 5] kj9 (fun kq v0 v3 v5 w' => ∃ (x0_3 : Int) (x3_3 : List Int) (x5_3 : Int), v0 = .int .i64 x0_3 ∧ v5 = .int .i64 x5_3 ∧ Aside0 (utf_Encode.l1 kq x0_3 x3_3 x4_9 x5_3 = some r) ∧ Aside0 (kq ≤ kj9) ∧ Aside0 (Kd.R (Kd.int .u8) 5 w' w.heap.size (fun _ => True) v3 x3_3) ∧ Aside0 (Below w.heap.size w w'))
              case atStart => exact ⟨(a0), (([] : List Int)), (wrap64 (x4_9 - 1)), (by first | rfl | (simp; done) | (simp [*]; done)), (by first | rfl | (simp; done) | (simp [*]; done)), H', ⟨Nat.le_refl _⟩, ⟨by (with_reducible repeat (first | apply Kd.R_alloc | apply Kd.R_drewN | apply Kd.R_drew)); exact HO_3.out⟩, ⟨by repeat (first | (with_reducible first | exact HB.out | apply below_alloc | apply pw_below_drewN | apply below_drew1) | exact HB.out)⟩⟩
              case round =>
                clear H'
                try clear c1
                try clear c2
                try clear p2
                try clear c3
                try clear c3b0
                try clear c4
                try clear c4b0
                try clear c5
                try clear c6
                try clear c6b0
                try clear p6
                try clear hcv9
                try clear c11
                try clear c11b0
                try clear c13
                try clear c13b0
                try clear c13b1
                try clear c15
                try clear c15b0
                try clear p2
                try clear p6
                obtain ⟨x0_3, x3_3, x5_3, rfl, rfl, HA, HK3, HO_3, HB⟩ := hrel
                cases gk with
                | zero => exact absurd HA.out (by simp [utf_Encode.l1])
                | succ k3 =>
                  have H := HA.out
                  clear HA
                  simp only [utf_Encode.l1] at H
                  by_cases c16 : x5_3 > 0
                  · rw [if_pos c16] at H
                    have c16b0 : decide (0 < x5_3) = true := decide_eq_true c16
                    clear c16
                    obtain ⟨y124, hy124⟩ : ∃ y_ : List Int, y_ = (([Go.bits .or .u8 128 ((Go.bits .and .i64 x0_3 63) % 256)] : List Int)) := ⟨_, rfl⟩
                    replace H : (if y124.length + x3_3.length < 140737488355328 then (utf_Encode.l1 k3 (x0_3 / 64) (y124 ++ x3_3) x4_9 (wrap64 (x5_3 - 1))) else (none)) = some r := by first | (rw [hy124]; with_reducible exact H) | (have H2_ := (Option.bind_some _ _).symm.trans H; rw [hy124]; with_reducible exact H2_) | (have H2_ := (Option.bind_some _ _).symm.trans H; with_reducible exact H2_) | with_reducible exact H | (rw [hy124]; exact H) | exact H
                    have Ny124 := Aside0.mk hy124
                    clear hy124
                    by_cases c17 : y124.length + x3_3.length < 140737488355328
                    · rw [if_pos c17] at H
                      have LMc17 := Aside0.mk c17
                      clear c17
                      obtain ⟨y127, hy127⟩ : ∃ y_ : List Int, y_ = (y124 ++ x3_3) := ⟨_, rfl⟩
                      replace H : (utf_Encode.l1 k3 (x0_3 / 64) y127 x4_9 (wrap64 (x5_3 - 1))) = some r := by first | (rw [hy127]; with_reducible exact H) | (have H2_ := (Option.bind_some _ _).symm.trans H; rw [hy127]; with_reducible exact H2_) | (have H2_ := (Option.bind_some _ _).symm.trans H; with_reducible exact H2_) | with_reducible exact H | (rw [hy127]; exact H) | exact H
                      have Ny127 := Aside0.mk hy127
                      clear hy127
                      have H' := Aside0.mk H
                      clear H
                      go_wp2_with (first | ((with_reducible refine gate_dst (N := 47) rfl ?_); refine Kd.R_lit (Kd.int .u8) _ 5 ?hg (N := 47) ?hd (xs := ([Go.bits .or .u8 128 ((Go.bits .and .i64 x0_3 63) % 256)] : List Int)) (inner := [.int .u8 (Go.bits .or .u8 128 ((Go.bits .and .i64 x0_3 63) % 256))]) (ok := fun _ => True) (okp := fun _ => True) ?hr ?hp (fun _ hk => hk) trivial (Below.refl _ _) (Nat.le_refl _) (by simp) ?_; (case hd => rfl); (case hg => rfl); (case hr => first | (go_simp; done) | (go_simp; rfl)); (case hp => exact (Reps.one (show Kd.M (Kd.int .u8) _ _ _ (Go.bits .or .u8 128 ((Go.bits .and .i64 x0_3 63) % 256)) [.int .u8 (Go.bits .or .u8 128 ((Go.bits .and .i64 x0_3 63) % 256))] from rfl) (Reps.none _ _))); intro v125 w18 ho19 hb hg_ hnew_; clear hg_ hnew_; (first | rw [← Ny124.out] at ho19 | (simp only [Int.reduceToNat] at ho19; rw [← Ny124.out] at ho19)); have n0_ := Aside0.mk (Kd.R_elder' (by (with_reducible repeat (first | apply Kd.R_alloc | apply Kd.R_drewN | apply Kd.R_drew)); exact HO_3.out) (Kd.R_base ho19) hb); have n1_ := Aside0.mk (Kd.R_lower (Kd.R_new' ho19 (Kd.R_lt (by (with_reducible repeat (first | apply Kd.R_alloc | apply Kd.R_drewN | apply Kd.R_drew)); exact HO_3.out))) (below_size (by repeat (first | (with_reducible first | exact HB.out | apply below_alloc | apply pw_below_drewN | apply below_drew1) | exact HB.out)))); have n2_ := Aside0.mk (below_step (by repeat (first | (with_reducible first | exact HB.out | apply below_alloc | apply pw_below_drewN | apply below_drew1) | exact HB.out)) hb); clear HO_3; clear HB; have HO_3 := n0_; have HO126 := n1_; have HB := n2_; clear n0_ n1_ n2_; clear hb ho19; obtain ⟨Ao21, co21, eo21⟩ := Kd.R_slice HO_3.out; subst eo21) | ((with_reducible refine gate_builtin (b := .append) (xs := #[.tmp 47, .tmp 48]) rfl ?_); at_builtin; refine Kd.R_append_rows (Kd.int .u8) (w0 := w) w.heap.size rfl (.tmp 47) (.tmp 48) 28 5 (.int .u8 0) 1 rfl Try.underlying28 info5 rfl (by decide) (by omega) v125 y124 x3_3 _ _ _ (fun k_ => some k_ ≠ (.slice Ao21 x3_3.length co21 : Value).ownBlock) (fun _ => False) rfl rfl ?aO ?aR (fun _ _ h => h) (fun _ h => h.elim) ?aF ?aB ?aS ?aL ?_; (case aR => repeat (first | exact (Kd.R_reads' HO_3.out).2.2 | (with_reducible refine Kd.C_alloc ?_ _) | (with_reducible refine Kd.C_drewN ?_ _) | (with_reducible refine Kd.C_drew ?_))); (case aB => exact (by repeat (first | (with_reducible first | exact HB.out | apply below_alloc | apply pw_below_drewN | apply below_drew1) | exact HB.out))); (case aF => exact (fun k_ hk => Kd.fresh' (Kd.R_lt (by (with_reducible repeat (first | apply Kd.R_alloc | apply Kd.R_drewN | apply Kd.R_drew)); exact HO_3.out)) k_ hk)); (case aO => exact (by (with_reducible repeat (first | apply Kd.R_alloc | apply Kd.R_drewN | apply Kd.R_drew)); exact Kd.R_mono HO126.out (fun _ hk => hk.2))); (case aS => exact (below_size (by repeat (first | (with_reducible first | exact HB.out | apply below_alloc | apply pw_below_drewN | apply below_drew1) | exact HB.out)))); (case aL => have := LMc17.out; omega); intro v128 w20 ho hb hg hat; rw [← Ny127.out] at ho; have n0_ := Aside0.mk (Kd.R_after (ok := (fun _ => True)) (by (with_reducible repeat (first | apply Kd.R_alloc | apply Kd.R_drewN | apply Kd.R_drew)); exact HO_3.out) hg hat); have n1_ := Aside0.mk (hb); have n2_ := Aside0.mk (ho); clear HO_3; clear HB; clear HO126; have HO_3 := n0_; have HB := n1_; have HO129 := n2_; clear n0_ n1_ n2_; clear ho hb hg hat))
                      go_roundg k3
                      case measure => have := HJ1.out; have := HJ9.out; have := HK3.out; omega
                      case rel => exact ⟨(x0_3 / 64), (y127), (wrap64 (x5_3 - 1)), (by first | rfl | (simp; done) | (simp [*]; done)), (by first | rfl | (simp; done) | (simp [*]; done)), H', ⟨by have := HJ1.out; have := HJ9.out; have := HK3.out; omega⟩, ⟨by (with_reducible repeat (first | apply Kd.R_alloc | apply Kd.R_drewN | apply Kd.R_drew)); exact Kd.R_mono HO129.out (fun _ hk => trivial)⟩, ⟨by repeat (first | (with_reducible first | exact HB.out | apply below_alloc | apply pw_below_drewN | apply below_drew1) | exact HB.out)⟩⟩
                    · rw [if_neg c17] at H
                      exact absurd H (by simp)
                  · rw [if_neg c16] at H
                    have c16b0 : decide (0 < x5_3) = false := decide_eq_false c16
                    clear c16
                    by_cases c22 : 0 ≤ x4_9
                    · rw [if_pos c22] at H
                      have c22b0 := eq_true c22
                      have c22b1 : decide (0 ≤ x4_9) = true := decide_eq_true c22
                      clear c22
                      obtain ⟨ji23, hji23⟩ : ∃ j_ : Int, (shr .i64 3840 x4_9) = j_ := ⟨_, rfl⟩
                      replace H : ((some (([Go.bits .or .u8 ((ji23) % 256) ((x0_3) % 256)] : List Int) : List Int)).bind fun y130 => (if y130.length + x3_3.length < 140737488355328 then (some (strOfNums (y130 ++ x3_3))) else (none))) = some r := by first | (rw [hji23] at H; exact H) | (simp only [hji23] at H ⊢; exact H)
                      have hji23_ : (3840 / 2 ^ min x4_9.toNat 64) = ji23 := hji23
                      have hji23z : x4_9 ≤ 64 → (3840 / 2 ^ x4_9.toNat) = ji23 := shr_small hji23
                      obtain ⟨y130, hy130⟩ : ∃ y_ : List Int, y_ = (([Go.bits .or .u8 ((ji23) % 256) ((x0_3) % 256)] : List Int)) := ⟨_, rfl⟩
                      replace H : (if y130.length + x3_3.length < 140737488355328 then (some (strOfNums (y130 ++ x3_3))) else (none)) = some r := by first | (rw [hy130]; with_reducible exact H) | (have H2_ := (Option.bind_some _ _).symm.trans H; rw [hy130]; with_reducible exact H2_) | (have H2_ := (Option.bind_some _ _).symm.trans H; with_reducible exact H2_) | with_reducible exact H | (rw [hy130]; exact H) | exact H
                      have Ny130 := Aside0.mk hy130
                      clear hy130
                      by_cases c24 : y130.length + x3_3.length < 140737488355328
                      · rw [if_pos c24] at H
                        have LMc24 := Aside0.mk c24
                        clear c24
                        obtain ⟨y133, hy133⟩ : ∃ y_ : List Int, y_ = (y130 ++ x3_3) := ⟨_, rfl⟩
                        replace H : (some (strOfNums y133)) = some r := by first | (rw [hy133]; with_reducible exact H) | (have H2_ := (Option.bind_some _ _).symm.trans H; rw [hy133]; with_reducible exact H2_) | (have H2_ := (Option.bind_some _ _).symm.trans H; with_reducible exact H2_) | with_reducible exact H | (rw [hy133]; exact H) | exact H
                        have Ny133 := Aside0.mk hy133
                        clear hy133
                        obtain rfl := Option.some.inj H
                        go_wp2_with (first | ((with_reducible refine gate_dst (N := 58) rfl ?_); refine Kd.R_lit (Kd.int .u8) _ 5 ?hg (N := 58) ?hd (xs := ([Go.bits .or .u8 ((ji23) % 256) ((x0_3) % 256)] : List Int)) (inner := [.int .u8 (Go.bits .or .u8 ((ji23) % 256) ((x0_3) % 256))]) (ok := fun _ => True) (okp := fun _ => True) ?hr ?hp (fun _ hk => hk) trivial (Below.refl _ _) (Nat.le_refl _) (by simp) ?_; (case hd => rfl); (case hg => rfl); (case hr => first | (go_simp; done) | (go_simp; rfl)); (case hp => exact (Reps.one (show Kd.M (Kd.int .u8) _ _ _ (Go.bits .or .u8 ((ji23) % 256) ((x0_3) % 256)) [.int .u8 (Go.bits .or .u8 ((ji23) % 256) ((x0_3) % 256))] from rfl) (Reps.none _ _))); intro v131 w25 ho26 hb hg_ hnew_; clear hg_ hnew_; (first | rw [← Ny130.out] at ho26 | (simp only [Int.reduceToNat] at ho26; rw [← Ny130.out] at ho26)); have n0_ := Aside0.mk (Kd.R_elder' (by (with_reducible repeat (first | apply Kd.R_alloc | apply Kd.R_drewN | apply Kd.R_drew)); exact HO_3.out) (Kd.R_base ho26) hb); have n1_ := Aside0.mk (Kd.R_lower (Kd.R_new' ho26 (Kd.R_lt (by (with_reducible repeat (first | apply Kd.R_alloc | apply Kd.R_drewN | apply Kd.R_drew)); exact HO_3.out))) (below_size (by repeat (first | (with_reducible first | exact HB.out | apply below_alloc | apply pw_below_drewN | apply below_drew1) | exact HB.out)))); have n2_ := Aside0.mk (below_step (by repeat (first | (with_reducible first | exact HB.out | apply below_alloc | apply pw_below_drewN | apply below_drew1) | exact HB.out)) hb); clear HO_3; clear HB; have HO_3 := n0_; have HO132 := n1_; have HB := n2_; clear n0_ n1_ n2_; clear hb ho26; obtain ⟨Ao28, co28, eo28⟩ := Kd.R_slice HO_3.out; subst eo28) | ((with_reducible refine gate_builtin (b := .append) (xs := #[.tmp 58, .tmp 59]) rfl ?_); at_builtin; refine Kd.R_append_rows (Kd.int .u8) (w0 := w) w.heap.size rfl (.tmp 58) (.tmp 59) 28 5 (.int .u8 0) 1 rfl Try.underlying28 info5 rfl (by decide) (by omega) v131 y130 x3_3 _ _ _ (fun k_ => some k_ ≠ (.slice Ao28 x3_3.length co28 : Value).ownBlock) (fun _ => False) rfl rfl ?aO ?aR (fun _ _ h => h) (fun _ h => h.elim) ?aF ?aB ?aS ?aL ?_; (case aR => repeat (first | exact (Kd.R_reads' HO_3.out).2.2 | (with_reducible refine Kd.C_alloc ?_ _) | (with_reducible refine Kd.C_drewN ?_ _) | (with_reducible refine Kd.C_drew ?_))); (case aB => exact (by repeat (first | (with_reducible first | exact HB.out | apply below_alloc | apply pw_below_drewN | apply below_drew1) | exact HB.out))); (case aF => exact (fun k_ hk => Kd.fresh' (Kd.R_lt (by (with_reducible repeat (first | apply Kd.R_alloc | apply Kd.R_drewN | apply Kd.R_drew)); exact HO_3.out)) k_ hk)); (case aO => exact (by (with_reducible repeat (first | apply Kd.R_alloc | apply Kd.R_drewN | apply Kd.R_drew)); exact Kd.R_mono HO132.out (fun _ hk => hk.2))); (case aS => exact (below_size (by repeat (first | (with_reducible first | exact HB.out | apply below_alloc | apply pw_below_drewN | apply below_drew1) | exact HB.out)))); (case aL => have := LMc24.out; omega); intro v134 w27 ho hb hg hat; rw [← Ny133.out] at ho; have n0_ := Aside0.mk (Kd.R_after (ok := (fun _ => True)) (by (with_reducible repeat (first | apply Kd.R_alloc | apply Kd.R_drewN | apply Kd.R_drew)); exact HO_3.out) hg hat); have n1_ := Aside0.mk (hb); have n2_ := Aside0.mk (ho); clear HO_3; clear HB; clear HO132; have HO_3 := n0_; have HB := n1_; have HO135 := n2_; clear n0_ n1_ n2_; clear ho hb hg hat; have hcv29 := own_string (P := Try.prog) Try.underlying28 Try.underlying5 Try.underlying9 (Kd.own_of_R HO135.out)))
                        go_ret
                        exact ⟨by first | rfl | (simp [errW_none, errW_some] <;> rfl) | (simp only [← hji23]; first | rfl | (simp [errW_none, errW_some] <;> rfl)) | (simp [*, errW_none, errW_some] <;> rfl), by repeat (first | (with_reducible first | exact HB.out | apply below_alloc | apply pw_below_drewN | apply below_drew1) | exact HB.out)⟩
                      · rw [if_neg c24] at H
                        exact absurd H (by simp)
                    · rw [if_neg c22] at H
                      exact absurd H (by simp)

end Go.Proofs.Ytlbokaekhjjabaa.U
