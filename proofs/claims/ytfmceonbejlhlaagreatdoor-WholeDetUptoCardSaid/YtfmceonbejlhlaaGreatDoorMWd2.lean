import Derived.Sort.Lot0
import Derived.Test.YtfmceonbejlhlaaGreatDoorChecked
import Derived.Lib.Strings
import Derived.Lib.Slices
import Derived.Lib.Walk
import Derived.Lib.Bytealg
/-
  The stable sort in plain Lean: what slices.stableCmpFunc and its fellows do to an array.
-/
namespace Go.Proofs.YtfmceonbejlhlaaGreatDoor
open Go.Sort
set_option linter.unusedVariables false
variable {α : Type} [Inhabited α]

/-- Two rows of n elements change places, from i on. -/
def swapFrom (a b n i : Nat) (d : Array α) : Array α := if i < n then swapFrom a b n (i + 1) (swp d (a + i) (b + i)) else d
termination_by n - i
def swapRange (d : Array α) (a b n : Nat) : Array α := swapFrom a b n 0 d
/-- The rotation's loop. -/
def rotLoop (m i j : Nat) (d : Array α) : Array α :=
  if i = j ∨ i = 0 ∨ j = 0 then swapRange d (m - i) m i
  else if j < i then rotLoop m (i - j) j (swapRange d (m - i) m j)
  else rotLoop m i (j - i) (swapRange d (m - i) (m + j - i) i)
termination_by i + j
decreasing_by all_goals omega
def rotate (d : Array α) (a m b : Nat) : Array α := rotLoop m (m - a) (b - m) d
/-- A search by halves. -/
def half (test : Nat → Bool) (i j : Nat) : Nat := if i < j then (if test ((i + j) / 2) then half test ((i + j) / 2 + 1) j else half test i ((i + j) / 2)) else i
termination_by j - i
decreasing_by all_goals omega
/-- An element goes up. -/
def upTo (e k : Nat) (d : Array α) : Array α := if k < e then upTo e (k + 1) (swp d k (k + 1)) else d
termination_by e - k
/-- An element goes down. -/
def downTo (i : Nat) : Nat → Array α → Array α
  | 0, d => d
  | k + 1, d => if i < k + 1 then downTo i k (swp d (k + 1) k) else d
section
variable (lt : α → α → Bool)
/-- The merge in place. -/
def symF : Nat → Array α → Nat → Nat → Nat → Array α
  | 0, d, _, _, _ => d
  | f + 1, d, a, m, b =>
    if m - a = 1 then upTo (half (fun h => lt d[h]! d[a]!) m b - 1) a d
    else if b - m = 1 then downTo (half (fun h => !lt d[m]! d[h]!) a m) m d
    else
      let mid := (a + b) / 2
      let n := mid + m
      let start := half (fun c => !lt d[n - 1 - c]! d[c]!) (if mid < m then n - b else a) (if mid < m then mid else m)
      let d1 := if start < m ∧ m < n - start then rotate d start m (n - start) else d
      let d2 := if a < start ∧ start < mid then symF f d1 a start mid else d1
      if mid < n - start ∧ n - start < b then symF f d2 mid (n - start) b else d2
def insBlocks (n a : Nat) (d : Array α) : Array α := if a + 20 ≤ n then insBlocks n (a + 20) (insertionSort lt d a (a + 20)) else insertionSort lt d a n
termination_by n - a
decreasing_by all_goals omega
def symBlocks (s n a : Nat) (d : Array α) : Array α := if a + 2 * s ≤ n ∧ 0 < s then symBlocks s n (a + 2 * s) (symF lt (n + 1) d a (a + s) (a + 2 * s)) else if a + s < n then symF lt (n + 1) d a (a + s) n else d
termination_by n - a
decreasing_by all_goals omega
def stableLoop (n s : Nat) (d : Array α) : Array α := if s < n ∧ 0 < s then stableLoop n (s * 2) (symBlocks lt s n 0 d) else d
termination_by n - s
decreasing_by all_goals omega
def stable (d : Array α) (n : Nat) : Array α := stableLoop lt n 20 (insBlocks lt n 0 d)
end

theorem size_swapFrom (a b n i : Nat) (d : Array α) : (swapFrom a b n i d).size = d.size := by
  fun_induction swapFrom a b n i d with
  | case1 i d h ih => rw [ih, size_swp]
  | case2 => rfl
theorem size_swapRange (d : Array α) (a b n : Nat) : (swapRange d a b n).size = d.size := size_swapFrom _ _ _ _ _
theorem size_rotLoop (m i j : Nat) (d : Array α) : (rotLoop m i j d).size = d.size := by
  fun_induction rotLoop m i j d with
  | case1 => exact size_swapRange _ _ _ _
  | case2 _ _ _ _ _ ih => rw [ih, size_swapRange]
  | case3 _ _ _ _ _ ih => rw [ih, size_swapRange]
theorem size_rotate (d : Array α) (a m b : Nat) : (rotate d a m b).size = d.size := size_rotLoop _ _ _ _
theorem size_upTo (e k : Nat) (d : Array α) : (upTo e k d).size = d.size := by
  fun_induction upTo e k d with
  | case1 i d h ih => rw [ih, size_swp]
  | case2 => rfl
theorem size_downTo (i k : Nat) (d : Array α) : (downTo i k d).size = d.size := by
  induction k generalizing d with
  | zero => rfl
  | succ k ih =>
    unfold downTo
    split
    · rw [ih, size_swp]
    · rfl
theorem half_le (test : Nat → Bool) (i j : Nat) (h : i ≤ j) : i ≤ half test i j ∧ half test i j ≤ j := by
  fun_induction half test i j with
  | case1 i j h1 h2 ih => have := ih (by omega); omega
  | case2 i j h1 h2 ih => have := ih (by omega); omega
  | case3 => omega
section
variable (lt : α → α → Bool)
theorem size_symF (f : Nat) (d : Array α) (a m b : Nat) : (symF lt f d a m b).size = d.size := by
  induction f generalizing d a m b with
  | zero => rfl
  | succ f ih =>
    unfold symF
    split
    · exact size_upTo _ _ _
    split
    · exact size_downTo _ _ _
    simp only [apply_ite Array.size, ih, size_rotate, ite_self]
theorem size_insInner (a j : Nat) (d : Array α) : (insInner lt a j d).size = d.size := by
  induction j generalizing d with
  | zero => rfl
  | succ j ih =>
    unfold insInner
    split
    · rw [ih, size_swp]
    · rfl
theorem size_insOuter (a b i : Nat) (d : Array α) : (insOuter lt a b i d).size = d.size := by
  fun_induction insOuter lt a b i d with
  | case1 i d h ih => rw [ih, size_insInner]
  | case2 => rfl
theorem size_insertionSort (d : Array α) (a b : Nat) : (insertionSort lt d a b).size = d.size := size_insOuter lt _ _ _ _
theorem size_insBlocks (n a : Nat) (d : Array α) : (insBlocks lt n a d).size = d.size := by
  fun_induction insBlocks lt n a d with
  | case1 i d h ih => rw [ih, size_insertionSort]
  | case2 => exact size_insertionSort lt _ _ _
theorem size_symBlocks (s n a : Nat) (d : Array α) : (symBlocks lt s n a d).size = d.size := by
  fun_induction symBlocks lt s n a d with
  | case1 i d h ih => rw [ih, size_symF]
  | case2 => exact size_symF lt _ _ _ _ _
  | case3 => rfl
theorem size_stableLoop (n s : Nat) (d : Array α) : (stableLoop lt n s d).size = d.size := by
  fun_induction stableLoop lt n s d with
  | case1 i d h ih => rw [ih, size_symBlocks]
  | case2 => rfl
theorem size_stable (d : Array α) (n : Nat) : (stable lt d n).size = d.size := by
  unfold stable; rw [size_stableLoop, size_insBlocks]
end
end Go.Proofs.YtfmceonbejlhlaaGreatDoor

/-
  DERIVED: LAID BY THE SHELF's contract.sh OFF ITS TEMPLATE 'internal/bytealg.CompareString' FOR THE PROGRAM 'Tryz' (the function's number there: 173). THE LIBRARY's OWN TEXT IS WALKED: nothing is assumed of it; where it calls a function without a Go body (internal/bytealg), THE MODEL's OWN ENTRY stands in, by its law (Derived/Lib/Bytealg.lean). Behind the contract: ONE FALSE NEIGHBOUR, a contract that says a little too much, REFUTED. (The template: the authors, an AI agent; Sun.)
-/
namespace Go.Proofs.YtfmceonbejlhlaaGreatDoor

set_option maxHeartbeats 1000000 in
set_option maxRecDepth 100000 in
/-- internal/bytealg.CompareString (what strings.Compare calls): IT RETURNS 'Lib.compareBytes a b'; the world is as it was. -/
theorem bytealg_CompareString (a b : ByteArray) (w : World) :
    Calls Tryz.prog 173 #[.string a, .string b] w fun e w' => e = .returned (.int .i64 (Lib.compareBytes a.data.toList b.data.toList)) ∧ w' = w := by
  go_enter Tryz.func173, Tryz.ntmps173
  go_wp2
  rw [run_callFunc_extern Tryz.func192 (by kernel_rfl) (by kernel_rfl) (by kernel_rfl) (e := Extern.BytealgCompare.compare) (by kernel_rfl), Lib.run_compareString]
  simp only [Result.andThen]
  rw [Oper.upon_value]
  go_wp2
  go_ret
  exact ⟨rfl, rfl⟩

end Go.Proofs.YtfmceonbejlhlaaGreatDoor

/-
  DERIVED: LAID BY THE SHELF's contract.sh OFF ITS TEMPLATE 'strings.Compare' FOR THE PROGRAM 'Tryz' (the function's number there: 152). THE LIBRARY's OWN TEXT IS WALKED: nothing is assumed of it; where it calls a function without a Go body (internal/bytealg), THE MODEL's OWN ENTRY stands in, by its law (Derived/Lib/Bytealg.lean). Behind the contract: ONE FALSE NEIGHBOUR, a contract that says a little too much, REFUTED. (The template: the authors, an AI agent; Sun.)
-/
namespace Go.Proofs.YtfmceonbejlhlaaGreatDoor

set_option maxHeartbeats 1000000 in
/-- strings.Compare: "Compare returns an integer comparing two strings lexicographically. The result will be 0 if a == b, -1 if a < b, and +1 if a > b.": IT RETURNS 'Lib.compareBytes a b'; the world is as it was. -/
theorem strings_Compare (a b : ByteArray) (w : World) :
    Calls Tryz.prog 152 #[.string a, .string b] w fun e w' => e = .returned (.int .i64 (Lib.compareBytes a.data.toList b.data.toList)) ∧ w' = w := by
  go_enter Tryz.func152, Tryz.ntmps152
  go_wp2_with (go_at_call 173; refine (bytealg_CompareString _ _ _).mono ?_; rintro e w' ⟨rfl, rfl⟩)
  go_ret
  exact ⟨rfl, rfl⟩

end Go.Proofs.YtfmceonbejlhlaaGreatDoor
