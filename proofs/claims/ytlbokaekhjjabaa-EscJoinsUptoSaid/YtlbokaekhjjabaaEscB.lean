/-
  The walk of esc.Quote: a text that is not right: ErrForm; else its bytes within quotes.
-/
import Derived.Test.YtlbokaekhjjabaaEscA
import Derived.Laws.BytesArg
import Derived.Laws.MakeOwn
namespace Go.Proofs.Ytlbokaekhjjabaa
open Go.RowKit Go.Proofs.YtlbokaekhjjabaaW.PrintWords Go.Proofs.YtlbokaekhjjabaaW.PrintLast Go.Proofs.YtlbokaekhjjabaaW.PrintMore

/-- A text's bytes within quotes, without the last quote. -/
def quoteL : List UInt8 → List Int
  | [] => []
  | c :: t => escB c.toNat ++ quoteL t
theorem quoteL_append (a b : List UInt8) : quoteL (a ++ b) = quoteL a ++ quoteL b := by
  induction a with
  | nil => rfl
  | cons c t ih => simp [quoteL, ih]
theorem escB_len (c : Int) : 1 ≤ (escB c).length ∧ (escB c).length ≤ 6 := by
  unfold escB; split
  · simp
  · split
    · simp
    · split <;> simp
theorem quoteL_len (s : List UInt8) : s.length ≤ (quoteL s).length ∧ (quoteL s).length ≤ 6 * s.length := by
  induction s with
  | nil => simp [quoteL]
  | cons c t ih =>
    have := escB_len c.toNat
    simp only [quoteL, List.length_append, List.length_cons]
    omega
theorem quoteL_take (s : ByteArray) (k : Nat) (h : k < s.size) : quoteL (s.data.toList.take (k + 1)) = quoteL (s.data.toList.take k) ++ escB s[k].toNat := by
  have : s.data.toList.take (k + 1) = s.data.toList.take k ++ [s[k]] := by
    rw [List.take_succ_eq_append_getElem (by simpa using h)]; rfl
  rw [this, quoteL_append]
  simp [quoteL]

/-- A text within quotes. -/
def quo (s : ByteArray) : ByteArray := strOfNums ([34] ++ quoteL s.data.toList ++ [34])

def StrErr (s : ByteArray) (e : Int) (w : World) (en : Ending) (w' : World) : Prop := en = .returned (.tuple #[.string s, .int .i64 e]) ∧ Below w.heap.size w w'

theorem conv_own {W : World} {base n b cap : Nat} {xs : List Int} (h : W.ownsRow base 5 1 (.slice (some ⟨b, 0, none⟩) n cap) n (xs.map (Value.int .u8))) :
    (convert 28 9 (.slice (some ⟨b, 0, none⟩) n cap)).run Try.prog W = .ok (.string (strOfNums xs)) W := by
  have hl := ownsRow_len h
  refine run_convert_bytes_arg W 28 5 Try.underlying28 Try.underlying5 b 0 n cap xs hl.symm (fun i hi => ?_) 9 Try.underlying9
  have := h.cellAt i (by omega)
  rw [Nat.zero_add, this, List.getElem?_map, List.getElem?_eq_getElem (by omega), List.getD_eq_getElem?_getD, List.getElem?_eq_getElem (by omega)]
  rfl

set_option maxHeartbeats 1000000 in
set_option maxRecDepth 100000 in
theorem quote_err (s : ByteArray) (w : World) (hs : s.size ≤ 9223372036854775807) (h : (chk s).2 ≠ 0) :
    Calls Try.prog 30 #[.string s] w (StrErr ⟨#[]⟩ 4 w) := by
  obtain ⟨n, e, hc⟩ : ∃ n e, chk s = (n, e) := ⟨_, _, rfl⟩
  rw [hc] at h
  have hne : (e != 0) = true := by simpa using h
  have HC := Lib.hid hc
  clear hc h
  go_enter Try.func30, Try.ntmps30
  go_wp2_with (go_at_call 20; refine (check_any s _ hs).mono ?_; rintro en w1 ⟨rfl, hb1⟩; rw [HC.out]; dsimp only)
  go_ret2
  exact ⟨rfl, hb1⟩

set_option maxHeartbeats 4000000 in
set_option maxRecDepth 100000 in
theorem quote_ok (s : ByteArray) (w : World) (hs : s.size ≤ 8796093022208) (h : (chk s).2 = 0) :
    Calls Try.prog 30 #[.string s] w (StrErr (quo s) 0 w) := by
  obtain ⟨n, e, hc⟩ : ∃ n e, chk s = (n, e) := ⟨_, _, rfl⟩
  rw [hc] at h
  obtain rfl : e = 0 := h
  have HC := Lib.hid hc
  clear hc
  obtain ⟨i0, hi, hz0, hz1, hz2⟩ := info_parts info5
  obtain ⟨A, hA⟩ : ∃ A, A = madeCells #[.int .u8 0] (s.size + 2) := ⟨_, rfl⟩
  have hmk : ∀ W, (Instr.makeSlice 28 (.int .i64 1) (.int .i64 ((s.size : Int) + 2))).run Try.prog W = .ok (.slice (some ⟨W.heap.size, 0, none⟩) 1 (s.size + 2)) (W.alloc (.cells A 5)) := by
    intro W
    have := run_make (P := Try.prog) W 28 5 i0 (.int .u8 0) Try.underlying28 hi hz0 .i64 .i64 1 ((s.size : Int) + 2) (by decide) (by omega) (by rw [hz2]; omega) (by omega)
    rw [this, hz1]
    have e1 : ((s.size : Int) + 2).toNat = s.size + 2 := by omega
    rw [e1, Nat.mul_one, hA]
    rfl
  have hAs : A.size = s.size + 2 := by rw [hA]; exact size_madeCells _ _
  have hAl : A.toList = List.replicate (s.size + 2) (.int .u8 0) := by rw [hA]; exact toList_madeCells_one _ _
  have hA0 : A[0]? = some (.int .u8 0) := by
    rw [← Array.getElem?_toList, hAl]; simp
  have hAS : Hid (A.size = s.size + 2) := hAs
  have hAL : Hid (A.toList = List.replicate (s.size + 2) (.int .u8 0)) := hAl
  clear hA hAs hAl hi hz0 hz1 hz2
  go_enter Try.func30, Try.ntmps30
  go_wp2_with (go_at_call 20; refine (check_any s _ (by omega)).mono ?_; rintro en w1 ⟨rfl, hb1⟩; rw [HC.out]; dsimp only)
  go_loopw [25] (fun i wr => ∃ k : Nat, k ≤ s.size ∧ i = .int .i64 k ∧ OutIs wr w.heap.size (w1.heap.size + 1) ([34] ++ quoteL (s.data.toList.take k)) ∧ Below w.heap.size w wr) (fun i _ => s.size - (intOf i).toNat)
  case atStart =>
    refine ⟨0, by omega, rfl, ⟨.slice (some ⟨w1.heap.size, 0, none⟩) 1 (s.size + 2), ?_, ?_, ?_⟩, ?_⟩
    · have := Boxed.new (w1.alloc (.cells (A.setIfInBounds 0 (.int .u8 34)) 5)) 28 (.slice (some ⟨w1.heap.size, 0, none⟩) 1 (s.size + 2))
      rw [World.size_alloc] at this
      exact this
    · refine ⟨rfl, .inr ⟨w1.heap.size, s.size + 2, A.setIfInBounds 0 (.int .u8 34), rfl, hb1.size, ?_, (show 1 ≤ s.size + 2 by omega), by unfold maxLen; omega, by simp; exact hAS.out, ?_⟩⟩
      · exact (Below.heap_alloc _ _ _ (by simp)).trans (heap_alloc_new _ _)
      · rw [Array.toList_setIfInBounds, hAL.out]
        simp [List.replicate_succ]
        rfl
    · have := hb1.size; omega
    · exact (hb1.alloc hb1.size _).alloc (by have := hb1.size; simp; omega) _
  case round =>
    obtain ⟨k, hk, rfl, ho, hb⟩ := hrel
    have hq := quoteL_len (s.data.toList.take k)
    have hbs := hb.size
    by_cases hlt : k < s.size
    · have hu := s[k].toNat_lt
      have hlen : ([34] ++ quoteL (s.data.toList.take k)).length ≤ 70368744177664 := by
        have : (s.data.toList.take k).length ≤ k := List.length_take_le _ _
        simp only [List.length_append, List.length_cons, List.length_nil]
        omega
      have hpos : 0 < ([34] ++ quoteL (s.data.toList.take k)).length := by simp
      have HL := Lib.hid hlen
      clear hlen hq
      go_wp2_with (go_at_call 50; refine (put_any s[k].toNat (by omega) (by omega) w.heap.size (w1.heap.size + 1) ([34] ++ quoteL (s.data.toList.take k)) _ hbs ho hpos HL.out).mono ?_; rintro en w' ⟨rfl, ho', hb'⟩)
      go_roundw
      case rel => exact ⟨k + 1, by omega, by go_num, by rw [quoteL_take s k hlt, ← List.append_assoc]; exact ho', hb.trans hb'⟩
      case measure => simp [intOf]; omega
    · obtain rfl : k = s.size := by omega
      rw [List.take_of_length_le (by rw [data_length]; omega)] at ho hq
      obtain ⟨v, hv, hrow, hg⟩ := ho
      have hlen : ([34] ++ quoteL s.data.toList).length ≤ 70368744177664 := by
        have : s.data.toList.length = s.size := data_length s
        simp only [List.length_append, List.length_cons, List.length_nil]
        omega
      obtain ⟨n1, hn1⟩ : ∃ n1, n1 = ([34] ++ quoteL s.data.toList).length := ⟨_, rfl⟩
      rw [← hn1] at hrow hlen
      obtain ⟨b, cap, rfl⟩ := ownsRow_at hrow (by rw [hn1]; simp)
      have hcv := hv.cell
      clear hn1 hq
      go_wp2_with (at_builtin; (refine wpList_append_bytes rfl (.tmp 34) (.tmp 35) rfl w.heap.size _ n1 ([34] ++ quoteL s.data.toList) [34] 1 rfl wr.heap.size rfl rfl hrow (show n1 + 1 ≤ 140737488355328 by omega) hbs ?_); intro v2 n2 w2 hn2 hown2 hgrow2; replace hn2 : n2 = n1 + 1 := hn2; obtain ⟨b2, cap2, rfl⟩ := ownsRow_at hown2 (by omega); have hcon := conv_own hown2; clear hn2)
      go_ret2
      refine ⟨rfl, ?_⟩
      refine ((hb.alloc hbs _).grown hgrow2 (by simp; omega) fun j ej => ?_)
      have := (hrow.lt j ej).1
      exact this
end Go.Proofs.Ytlbokaekhjjabaa
