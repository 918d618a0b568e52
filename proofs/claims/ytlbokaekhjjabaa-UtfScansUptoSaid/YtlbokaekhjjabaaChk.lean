/-
  The walks of utf.Check and utf.Within: what they compute is 'chk', 'wth'.
-/
import Derived.Test.YtlbokaekhjjabaaStep
import Derived.Test.YtlbokaekhjjabaaWMore
namespace Go.Proofs.Ytlbokaekhjjabaa
open Go.RowKit Go.Proofs.YtlbokaekhjjabaaW.PrintWords Go.Proofs.YtlbokaekhjjabaaW.PrintLast Go.Proofs.YtlbokaekhjjabaaW.PrintMore

/-- A block of its own that holds a state. -/
def Holds (W : World) (g : Nat) (st : St) : Prop := W.heap[g]? = some (.cells #[.int .i64 st.1, .int .u8 st.2.1, .int .u8 st.2.2] 31 (0, 0))

section
variable {W : World} {g : Nat} {st : St} (h : Holds W g st)
include h
theorem Holds.c0 : W.cell? ⟨g, 0, none⟩ = some (.int .i64 st.1) := cell_of_row W g 0 _ _ _ h
theorem Holds.c1 : W.cell? ⟨g, 1, none⟩ = some (.int .u8 st.2.1) := cell_of_row W g 1 _ _ _ h
theorem Holds.c2 : W.cell? ⟨g, 2, none⟩ = some (.int .u8 st.2.2) := cell_of_row W g 2 _ _ _ h
theorem Holds.fz (j : Nat) : W.frozen? ⟨g, j, none⟩ = false := frozen_of_row W g j _ _ h
theorem Holds.lt : g < W.heap.size := block_lt_of_cell h.c0
theorem Holds.below {W1 : World} (hb : Below W.heap.size W W1) : Holds W1 g st := (hb.block g h.lt).trans h
end

theorem Holds.turned {W W1 : World} {g : Nat} {st st' : St} (h : Holds W g st) (ht : Turned g 0 st' W W1) : Holds W1 g st' := by
  obtain ⟨w1, hb, rfl⟩ := ht
  have h1 : w1.heap[g]? = _ := h.below hb
  have h2 := heap_setCell_same w1 g 0 _ _ (.int .i64 st'.1) h1
  have h3 := heap_setCell_same _ g (0 + 1) _ _ (.int .u8 st'.2.1) h2
  have h4 := heap_setCell_same _ g (0 + 2) _ _ (.int .u8 st'.2.2) h3
  exact h4

theorem Turned.below {W W1 : World} {g o : Nat} {st : St} (ht : Turned g o st W W1) {B : Nat} {w : World} (hg : B ≤ g) (hB : B ≤ W.heap.size) (hb : Below B w W) : Below B w W1 := by
  obtain ⟨w1, hb1, rfl⟩ := ht
  exact (((hb.trans (hb1.mono hB)).setCell (p := ⟨g, o, none⟩) hg _).setCell (p := ⟨g, o + 1, none⟩) hg _).setCell (p := ⟨g, o + 2, none⟩) hg _

def Pair (r : Int × Int) (w : World) (e : Ending) (w' : World) : Prop := e = .returned (.tuple #[.int .i64 r.1, .int .i64 r.2]) ∧ Below w.heap.size w w'

theorem data_drop (s : ByteArray) (k : Nat) (h : k < s.size) : s.data.toList.drop k = s[k] :: s.data.toList.drop (k + 1) := by
  rw [List.drop_eq_getElem_cons (by simpa using h)]; rfl
theorem data_drop_all (s : ByteArray) : s.data.toList.drop s.size = [] := List.drop_eq_nil_of_le (by simp)

set_option maxHeartbeats 1000000 in
set_option maxRecDepth 100000 in
theorem check_any (s : ByteArray) (w : World) (hs : s.size ≤ 9223372036854775807) :
    Calls Try.prog 20 #[.string s] w (Pair (chk s) w) := by
  go_enter Try.func20, Try.ntmps20
  go_wp2
  go_loopw [8] (fun i wr => ∃ (k : Nat) (st : St), k ≤ s.size ∧ i = .int .i64 k ∧ Hid (chk s = chkL (s.data.toList.drop k) st k) ∧ (0 ≤ st.1 ∧ st.1 ≤ 3) ∧ Holds wr w.heap.size st ∧ Below w.heap.size w wr) (fun i _ => s.size - (intOf i).toNat)
  case atStart => exact ⟨0, st0, by omega, rfl, rfl, by decide, heap_alloc_new _ _, (Below.refl _ _).alloc (Nat.le_refl _) _⟩
  case round =>
    obtain ⟨k, st, hk, rfl, hc, h0, hI, hb⟩ := hrel
    by_cases hlt : k < s.size
    · have hd := Lib.hid (data_drop s k hlt)
      cases hst : stp st s[k].toNat (-1) with
      | none =>
        have hf : Hid (chk s = ((k : Int), 4)) := by
          show chk s = _
          rw [hc.out, hd.out]; simp only [chkL, hst]
        have HS := Lib.hid hst
        clear hst
        go_wp2_with (go_at_call 45; refine (step_no w.heap.size 0 st s[k].toNat (-1) _ hI.c0 hI.c1 hI.c2 HS.out).mono ?_; rintro e w' ⟨rfl, hb'⟩)
        go_ret2
        exact ⟨by rw [hf.out]; rfl, hb.trans (hb'.mono hb.size)⟩
      | some st' =>
        have hf : Hid (chk s = chkL (s.data.toList.drop (k + 1)) st' ((k + 1 : Nat) : Int)) := by
          show chk s = _
          rw [hc.out, hd.out]; simp only [chkL, hst]; rfl
        have h0' := stp_left hst h0
        have HS := Lib.hid hst
        clear hst
        go_wp2_with (go_at_call 45; refine (step_ok w.heap.size 0 st st' s[k].toNat (-1) _ h0 hI.c0 hI.c1 hI.c2 (hI.fz _) (hI.fz _) (hI.fz _) HS.out).mono ?_; rintro e w' ⟨rfl, hb'⟩)
        go_roundw
        case rel => exact ⟨k + 1, st', by omega, by go_num, hf, h0', hI.turned hb', hb'.below (Nat.le_refl _) hb.size hb⟩
        case measure => simp [intOf]; omega
    · obtain rfl : k = s.size := by omega
      have c0 := hI.c0
      by_cases hl : 0 < st.1
      · have hf : Hid (chk s = ((s.size : Int), 3)) := by
          show chk s = _
          rw [hc.out, data_drop_all]; simp only [chkL]; rw [if_pos hl]
        clear hc
        go_wp2
        go_ret2
        exact ⟨by rw [hf.out]; rfl, hb⟩
      · have hf : Hid (chk s = ((s.size : Int), 0)) := by
          show chk s = _
          rw [hc.out, data_drop_all]; simp only [chkL]; rw [if_neg hl]
        clear hc
        go_wp2
        go_ret2
        exact ⟨by rw [hf.out]; rfl, hb⟩

set_option maxHeartbeats 1000000 in
set_option maxRecDepth 100000 in
theorem within_any (s : ByteArray) (n : Int) (w : World) (hs : s.size ≤ 9223372036854775807) (hn : n ≤ 9223372036854775807) :
    Calls Try.prog 34 #[.string s, .int .i64 n] w (Pair (wth s n) w) := by
  obtain ⟨m, hm⟩ : ∃ m, (if n < 0 then 0 else n) = m := ⟨_, rfl⟩
  obtain ⟨b, hb⟩ : ∃ b, (if m < (s.size : Int) then m else (s.size : Int)) = b := ⟨_, rfl⟩
  have hm0 : 0 ≤ m ∧ m ≤ 9223372036854775807 := by split at hm <;> omega
  have hb0 : b = m ∧ m < s.size ∨ b = s.size ∧ (s.size : Int) ≤ m := by split at hb <;> omega
  have hw : wth s n = wthL m s.data.toList st0 0 := by
    unfold wth; rw [show max n 0 = m from by rw [← hm]; split <;> omega]
  have HW := Lib.hid hw
  have HB := Lib.hid hb0
  have hb1 : 0 ≤ b ∧ b ≤ s.size ∧ b ≤ m := by omega
  obtain ⟨hm0, hm1⟩ := hm0
  obtain ⟨hb1, hb2, hb3⟩ := hb1
  clear hw hb0
  go_enter Try.func34, Try.ntmps34
  go_wp2
  clear hm hb
  go_loopw [14] (fun i wr => ∃ (k : Nat) (st : St), (k : Int) ≤ b ∧ i = .int .i64 k ∧ Hid (wth s n = wthL m (s.data.toList.drop k) st k) ∧ (0 ≤ st.1 ∧ st.1 ≤ 3) ∧ Holds wr w.heap.size st ∧ Below w.heap.size w wr) (fun i _ => s.size - (intOf i).toNat)
  case atStart => exact ⟨0, st0, by omega, rfl, HW, by decide, heap_alloc_new _ _, (Below.refl _ _).alloc (Nat.le_refl _) _⟩
  case round =>
    obtain ⟨k, st, hk, rfl, hc, h0, hI, hb⟩ := hrel
    by_cases hlt : (k : Int) < b
    · have hlt' : k < s.size := by omega
      have hltm : (k : Int) < m := by omega
      have hd := Lib.hid (data_drop s k hlt')
      cases hst : stp st s[k].toNat (m - 1 - k) with
      | none =>
        have hf : Hid (wth s n = ((k : Int), 4)) := by
          show wth s n = _
          rw [hc.out, hd.out]; simp only [wthL, hst]; rw [if_pos hltm]
        have HS := Lib.hid hst
        clear hst
        go_wp2_with (go_at_call 45; refine (step_no w.heap.size 0 st s[k].toNat (m - 1 - k) _ hI.c0 hI.c1 hI.c2 HS.out).mono ?_; rintro e w' ⟨rfl, hb'⟩)
        go_ret2
        exact ⟨by rw [hf.out]; rfl, hb.trans (hb'.mono hb.size)⟩
      | some st' =>
        have hf : Hid (wth s n = wthL m (s.data.toList.drop (k + 1)) st' ((k + 1 : Nat) : Int)) := by
          show wth s n = _
          rw [hc.out, hd.out]; simp only [wthL, hst]; rw [if_pos hltm]; rfl
        have h0' := stp_left hst h0
        have HS := Lib.hid hst
        clear hst
        go_wp2_with (go_at_call 45; refine (step_ok w.heap.size 0 st st' s[k].toNat (m - 1 - k) _ h0 hI.c0 hI.c1 hI.c2 (hI.fz _) (hI.fz _) (hI.fz _) HS.out).mono ?_; rintro e w' ⟨rfl, hb'⟩)
        go_roundw
        case rel => exact ⟨k + 1, st', by omega, by go_num, hf, h0', hI.turned hb', hb'.below (Nat.le_refl _) hb.size hb⟩
        case measure => simp [intOf]; omega
    · by_cases hl : (s.size : Int) < m
      · have hkk : k = s.size := by have := HB.out; omega
        have hf : Hid (wth s n = ((s.size : Int), 3)) := by
          show wth s n = _
          rw [hc.out, hkk, data_drop_all]; simp only [wthL]; rw [if_pos hl]
        clear hc
        go_wp2
        go_ret2
        exact ⟨by rw [hf.out]; rfl, hb⟩
      · have hkk : (k : Int) = m := by have := HB.out; omega
        have hf : Hid (wth s n = (m, 0)) := by
          show wth s n = _
          rw [hc.out]
          by_cases hz : k < s.size
          · rw [data_drop s k hz]; simp only [wthL]; rw [if_neg (by omega)]
          · rw [show k = s.size by omega, data_drop_all]; simp only [wthL]; rw [if_neg (by omega)]
        clear hc hkk
        go_wp2
        go_ret2
        exact ⟨by rw [hf.out]; rfl, hb⟩
end Go.Proofs.Ytlbokaekhjjabaa
