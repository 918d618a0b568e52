import Derived.Test.YtlbokaekhjjabaaProg
import Derived.WalkKit
import Derived.WalkSpells
import Derived.WalkLawsBesides
import Derived.KernelRfl
import Derived.Deep.WholeRow
import Derived.Lib.Hide
import Derived.Laws.CopyOwn
namespace Go.Proofs.Ytlbokaekhjjabaa
open Go.RowKit

/-- The rows of first bytes, cell by cell. -/
def leadCells : Array Value := #[.int .u8 0, .int .u8 127, .int .i64 1, .int .u8 0, .int .u8 0,
  .int .u8 194, .int .u8 223, .int .i64 2, .int .u8 128, .int .u8 191,
  .int .u8 224, .int .u8 224, .int .i64 3, .int .u8 160, .int .u8 191,
  .int .u8 225, .int .u8 236, .int .i64 3, .int .u8 128, .int .u8 191,
  .int .u8 237, .int .u8 237, .int .i64 3, .int .u8 128, .int .u8 159,
  .int .u8 238, .int .u8 239, .int .i64 3, .int .u8 128, .int .u8 191,
  .int .u8 240, .int .u8 240, .int .i64 4, .int .u8 144, .int .u8 191,
  .int .u8 241, .int .u8 243, .int .i64 4, .int .u8 128, .int .u8 191,
  .int .u8 244, .int .u8 244, .int .i64 4, .int .u8 128, .int .u8 143]

set_option maxHeartbeats 400000 in
set_option maxRecDepth 100000 in
theorem leads_any (w : World) :
    Calls Try.prog 68 #[] w fun e w' => e = .returned (.agg leadCells) ∧ w' = w.alloc (.cells leadCells 98) := by
  go_enter Try.func68, Try.ntmps68
  go_wp2_with (refine wpList_store_row rfl 98 (.tmp 0) (.tmp 10) rfl w.heap.size leadCells rfl rfl 98 _ (heap_alloc_last w _) (by kernel_rfl) (by kernel_rfl) (by kernel_rfl) ?_)
  rw [World.setRow_alloc_new]
  exact bodyPost_ret (v := .agg leadCells) (results_cell_row (p := 0) (ty := 98) rfl _ _ w.heap.size 98 leadCells (0, 0) _ rfl (heap_alloc_last w _) Try.underlying98 rfl (by kernel_rfl)) rfl ⟨rfl, rfl⟩


/-- The rows as numbers: first, last, how many bytes, least and most of the second. -/
def leadRows : List (Int × Int × Int × Int × Int) := [(0, 127, 1, 0, 0), (194, 223, 2, 128, 191), (224, 224, 3, 160, 191), (225, 236, 3, 128, 191), (237, 237, 3, 128, 159), (238, 239, 3, 128, 191), (240, 240, 4, 144, 191), (241, 243, 4, 128, 191), (244, 244, 4, 128, 143)]
/-- The row of a byte. -/
def rowOf : List (Int × Int × Int × Int × Int) → Int → Int × Int × Int × Int × Int
  | [], _ => (0, 0, 0, 0, 0)
  | r :: t, c => if r.1 ≤ c ∧ c ≤ r.2.1 then r else rowOf t c
def aggOf (r : Int × Int × Int × Int × Int) : Array Value := #[.int .u8 r.1, .int .u8 r.2.1, .int .i64 r.2.2.1, .int .u8 r.2.2.2.1, .int .u8 r.2.2.2.2]
theorem drop_hit {l : List (Int × Int × Int × Int × Int)} {r : Int × Int × Int × Int × Int} {t : List (Int × Int × Int × Int × Int)} {c : Int} (h : l = r :: t) (h1 : r.1 ≤ c) (h2 : c ≤ r.2.1) : rowOf l c = r := by
  subst h; simp [rowOf, h1, h2]
theorem drop_miss {l : List (Int × Int × Int × Int × Int)} {r : Int × Int × Int × Int × Int} {t : List (Int × Int × Int × Int × Int)} {c : Int} (h : l = r :: t) (h1 : ¬ (r.1 ≤ c ∧ c ≤ r.2.1)) : rowOf l c = rowOf t c := by
  subst h; simp [rowOf, h1]
def Row (c : Int) (w : World) (e : Ending) (w' : World) : Prop := e = .returned (.agg (aggOf (rowOf leadRows c))) ∧ Below w.heap.size w w'

theorem lead_size : (Try.prog.info? 77).map (·.size) = some 5 := by kernel_rfl
theorem agg_one (r : Int × Int × Int × Int × Int) : (aggOf r).all (·.oneCell') = true := by simp [aggOf, Value.oneCell']
theorem drop_lead {k : Nat} (hk : k < 9) {r : Int × Int × Int × Int × Int} (h : leadRows.getD k (0,0,0,0,0) = r) : leadRows.drop k = r :: leadRows.drop (k + 1) := by
  subst h
  match k, hk with
  | 0, _ => rfl
  | 1, _ => rfl
  | 2, _ => rfl
  | 3, _ => rfl
  | 4, _ => rfl
  | 5, _ => rfl
  | 6, _ => rfl
  | 7, _ => rfl
  | 8, _ => rfl

set_option maxRecDepth 100000 in
theorem index_lead (k : Nat) (hk : k < 9) (W : World) : (Instr.index 98 (.agg leadCells) (.int .i64 (k : Int))).run Try.prog W = .ok (.agg (aggOf (leadRows.getD k (0,0,0,0,0)))) W := by
  match k, hk with
  | 0, _ => exact (by kernel_rfl : (Instr.index 98 (.agg leadCells) (.int .i64 0)).run Try.prog W = .ok (.agg (aggOf (leadRows.getD 0 (0,0,0,0,0)))) W)
  | 1, _ => exact (by kernel_rfl : (Instr.index 98 (.agg leadCells) (.int .i64 1)).run Try.prog W = .ok (.agg (aggOf (leadRows.getD 1 (0,0,0,0,0)))) W)
  | 2, _ => exact (by kernel_rfl : (Instr.index 98 (.agg leadCells) (.int .i64 2)).run Try.prog W = .ok (.agg (aggOf (leadRows.getD 2 (0,0,0,0,0)))) W)
  | 3, _ => exact (by kernel_rfl : (Instr.index 98 (.agg leadCells) (.int .i64 3)).run Try.prog W = .ok (.agg (aggOf (leadRows.getD 3 (0,0,0,0,0)))) W)
  | 4, _ => exact (by kernel_rfl : (Instr.index 98 (.agg leadCells) (.int .i64 4)).run Try.prog W = .ok (.agg (aggOf (leadRows.getD 4 (0,0,0,0,0)))) W)
  | 5, _ => exact (by kernel_rfl : (Instr.index 98 (.agg leadCells) (.int .i64 5)).run Try.prog W = .ok (.agg (aggOf (leadRows.getD 5 (0,0,0,0,0)))) W)
  | 6, _ => exact (by kernel_rfl : (Instr.index 98 (.agg leadCells) (.int .i64 6)).run Try.prog W = .ok (.agg (aggOf (leadRows.getD 6 (0,0,0,0,0)))) W)
  | 7, _ => exact (by kernel_rfl : (Instr.index 98 (.agg leadCells) (.int .i64 7)).run Try.prog W = .ok (.agg (aggOf (leadRows.getD 7 (0,0,0,0,0)))) W)
  | 8, _ => exact (by kernel_rfl : (Instr.index 98 (.agg leadCells) (.int .i64 8)).run Try.prog W = .ok (.agg (aggOf (leadRows.getD 8 (0,0,0,0,0)))) W)

set_option maxHeartbeats 1000000 in
set_option maxRecDepth 100000 in
theorem row_any (c : Int) (w : World) :
    Calls Try.prog 47 #[.int .u8 c] w (Row c w) := by
  go_enter Try.func47, Try.ntmps47
  go_wp2_with (go_at_call 68; refine (leads_any _).mono ?_; rintro e w' ⟨rfl, rfl⟩)
  go_loopw [6] (fun i wr => ∃ k : Nat, k ≤ 9 ∧ i = .int .i64 k ∧ Hid (rowOf leadRows c = rowOf (leadRows.drop k) c) ∧ wr.heap[w.heap.size]? = some (.cells (aggOf (0,0,0,0,0)) 77 (0, 0)) ∧ Below w.heap.size w wr) (fun i _ => 9 - (intOf i).toNat)
  case atStart => exact ⟨0, by omega, rfl, rfl, (Below.heap_alloc _ _ _ (by simp)).trans (heap_alloc_new _ _), ((Below.refl _ _).alloc (by simp) _).alloc (by simp) _⟩
  case round =>
    obtain ⟨k, hk, rfl, hrow, hcell, hb⟩ := hrel
    by_cases hlt : k < 9
    · have i0 := index_lead k hlt
      obtain ⟨a, b, n, l, m, hr⟩ : ∃ a b n l m, leadRows.getD k (0,0,0,0,0) = (a, b, n, l, m) := ⟨_, _, _, _, _, rfl⟩
      have hd := drop_lead hlt hr
      rw [hr] at i0
      have H2 := Lib.hid hd
      clear hr hd
      simp only [aggOf] at i0
      have hcell' : ∀ o, (wr.alloc o).heap[w.heap.size]? = some (.cells (aggOf (0,0,0,0,0)) 77 (0, 0)) := fun o => (Below.heap_alloc _ _ _ (block_lt_of_cell (cell_of_row _ _ 0 _ _ _ hcell))).trans hcell
      by_cases ha : a ≤ c
      · by_cases hc : c ≤ b
        · go_wp2_with ((refine wpList_store_row rfl 77 (.tmp 2) (.tmp 19) rfl w.heap.size #[.int .u8 a, .int .u8 b, .int .i64 n, .int .u8 l, .int .u8 m] rfl rfl 77 _ (hcell' _) lead_size rfl (agg_one (a, b, n, l, m)) ?_))
          have hf := (hrow.out.trans (drop_hit H2.out ha hc)).symm
          refine bodyPost_ret (v := .agg #[.int .u8 a, .int .u8 b, .int .i64 n, .int .u8 l, .int .u8 m]) (results_cell_row (p := 2) (ty := 77) rfl _ _ w.heap.size 77 #[.int .u8 a, .int .u8 b, .int .i64 n, .int .u8 l, .int .u8 m] (0, 0) _ rfl (setRow_heap _ _ _ _ _ _ (hcell' _)) Try.underlying77 rfl lead_size) rfl ⟨?_, below_setRow (hb.alloc hb.size _) (Nat.le_refl _) _⟩
          rw [← hf]; rfl
        · go_wp2
          go_roundw
          case rel => exact ⟨k + 1, by omega, by go_num, hrow.out.trans (drop_miss H2.out (fun h => hc h.2)), hcell' _, hb.alloc hb.size _⟩
          case measure => simp [intOf]; omega
      · go_wp2
        go_roundw
        case rel => exact ⟨k + 1, by omega, by go_num, hrow.out.trans (drop_miss H2.out (fun h => ha h.1)), hcell' _, hb.alloc hb.size _⟩
        case measure => simp [intOf]; omega
    · obtain rfl : k = 9 := by omega
      go_wp2_with (refine wpList_store_row rfl 77 (.tmp 2) (.tmp 21) rfl w.heap.size #[.int .u8 0, .int .u8 0, .int .i64 0, .int .u8 0, .int .u8 0] rfl rfl 77 _ hcell lead_size rfl (agg_one (0, 0, 0, 0, 0)) ?_)
      have hf : rowOf leadRows c = (0, 0, 0, 0, 0) := hrow.out
      refine bodyPost_ret (v := .agg #[.int .u8 0, .int .u8 0, .int .i64 0, .int .u8 0, .int .u8 0]) (results_cell_row (p := 2) (ty := 77) rfl _ _ w.heap.size 77 #[.int .u8 0, .int .u8 0, .int .i64 0, .int .u8 0, .int .u8 0] (0, 0) _ rfl (setRow_heap _ _ _ _ _ _ hcell) Try.underlying77 rfl lead_size) rfl ⟨?_, below_setRow hb (Nat.le_refl _) _⟩
      rw [hf]; rfl
end Go.Proofs.Ytlbokaekhjjabaa
