/-
  The walks of a utf.Scan that New made: New, Feed, Close.
-/
import Derived.Test.YtlbokaekhjjabaaChk
import Derived.Test.YtlbokaekhjjabaaZero
namespace Go.Proofs.Ytlbokaekhjjabaa
open Go.RowKit Go.Proofs.YtlbokaekhjjabaaW.PrintWords Go.Proofs.YtlbokaekhjjabaaW.PrintLast Go.Proofs.YtlbokaekhjjabaaW.PrintMore
set_option linter.unusedVariables false

/-- A block of its own that holds a scan. -/
def Sc (W : World) (g : Nat) (how : Int) (st : St) (at' : Int) : Prop := W.heap[g]? = some (.cells #[.int .i64 how, .int .i64 st.1, .int .u8 st.2.1, .int .u8 st.2.2, .int .i64 at'] 33 (0, 0))

section
variable {W : World} {g : Nat} {how at' : Int} {st : St} (h : Sc W g how st at')
include h
theorem Sc.c0 : W.cell? ⟨g, 0, none⟩ = some (.int .i64 how) := cell_of_row W g 0 _ _ _ h
theorem Sc.c1 : W.cell? ⟨g, 1, none⟩ = some (.int .i64 st.1) := cell_of_row W g 1 _ _ _ h
theorem Sc.c2 : W.cell? ⟨g, 2, none⟩ = some (.int .u8 st.2.1) := cell_of_row W g 2 _ _ _ h
theorem Sc.c3 : W.cell? ⟨g, 3, none⟩ = some (.int .u8 st.2.2) := cell_of_row W g 3 _ _ _ h
theorem Sc.c4 : W.cell? ⟨g, 4, none⟩ = some (.int .i64 at') := cell_of_row W g 4 _ _ _ h
theorem Sc.fz (j : Nat) : W.frozen? ⟨g, j, none⟩ = false := frozen_of_row W g j _ _ h
theorem Sc.lt : g < W.heap.size := block_lt_of_cell h.c0
theorem Sc.below {W1 : World} (hb : Below W.heap.size W W1) : Sc W1 g how st at' := (hb.block g h.lt).trans h
theorem Sc.how' (x : Int) : Sc (W.setCell ⟨g, 0, none⟩ (.int .i64 x)) g x st at' := heap_setCell_same W g 0 _ _ (.int .i64 x) h
theorem Sc.at'' (x : Int) : Sc (W.setCell ⟨g, 4, none⟩ (.int .i64 x)) g how st x := heap_setCell_same W g 4 _ _ (.int .i64 x) h
end
theorem Sc.turned {W W1 : World} {g : Nat} {how at' : Int} {st st' : St} (h : Sc W g how st at') (ht : Turned g 1 st' W W1) : Sc W1 g how st' at' := by
  obtain ⟨w1, hb, rfl⟩ := ht
  have h1 : w1.heap[g]? = _ := h.below hb
  have h2 := heap_setCell_same w1 g 1 _ _ (.int .i64 st'.1) h1
  have h3 := heap_setCell_same _ g (1 + 1) _ _ (.int .u8 st'.2.1) h2
  have h4 := heap_setCell_same _ g (1 + 2) _ _ (.int .u8 st'.2.2) h3
  exact h4

/-- Bytes from a state on: the state behind them, if none errs; the place. -/
def runB : List UInt8 → St → Int → Option St × Int
  | [], st, i => (some st, i)
  | c :: t, st, i => match stp st c.toNat (-1) with
    | none => (none, i)
    | some st' => runB t st' (i + 1)

/-- A slice of bytes, read in a world below a mark. -/
def BytesIn (W : World) (B : Nat) (v : Value) (cs : List UInt8) : Prop :=
  ∃ a cap, v = .slice a cs.length cap ∧ ∀ j (h : j < cs.length), ∃ b off, a = some ⟨b, off, none⟩ ∧ b < B ∧ W.cell? ⟨b, off + j, none⟩ = some (.int .u8 cs[j].toNat)

theorem may_open (g : Nat) (w : World) (h : w.cell? ⟨g, 0, none⟩ = some (.int .i64 1)) : Calls Try.prog 46 #[.pointer (some ⟨g, 0, none⟩)] w (Say (.int .i64 0) w) := by
  go_enter Try.func46, Try.ntmps46
  go_wp2
  go_ret
  exact ⟨rfl, Below.refl _ _⟩
theorem may_state (g : Nat) (x : Int) (w : World) (h : w.cell? ⟨g, 0, none⟩ = some (.int .i64 x)) (h0 : (x == 0) = false) (h1 : (x != 1) = true) : Calls Try.prog 46 #[.pointer (some ⟨g, 0, none⟩)] w (Say (.int .i64 5) w) := by
  go_enter Try.func46, Try.ntmps46
  go_wp2
  go_ret
  exact ⟨rfl, Below.refl _ _⟩
theorem feed_state (g : Nat) (x : Int) (v : Value) (w : World) (h : w.cell? ⟨g, 0, none⟩ = some (.int .i64 x)) (h0 : (x == 0) = false) (h1 : (x != 1) = true) : Calls Try.prog 23 #[.pointer (some ⟨g, 0, none⟩), v] w (Say (.int .i64 5) w) := by
  go_enter Try.func23, Try.ntmps23
  go_wp2_with (go_at_call 46; refine (may_state g x _ h h0 h1).mono ?_; rintro en w1 ⟨rfl, hb⟩)
  go_ret
  exact ⟨rfl, hb⟩
theorem close_state (g : Nat) (x : Int) (w : World) (h : w.cell? ⟨g, 0, none⟩ = some (.int .i64 x)) (h0 : (x == 0) = false) (h1 : (x != 1) = true) : Calls Try.prog 24 #[.pointer (some ⟨g, 0, none⟩)] w (Say (.int .i64 5) w) := by
  go_enter Try.func24, Try.ntmps24
  go_wp2_with (go_at_call 46; refine (may_state g x _ h h0 h1).mono ?_; rintro en w1 ⟨rfl, hb⟩)
  go_ret
  exact ⟨rfl, hb⟩

/-- A scan's word: it holds what is told, and of what was there nothing else has turned. -/
def Told (B g : Nat) (e how : Int) (st : St) (at' : Int) (w : World) (en : Ending) (w' : World) : Prop := en = .returned (.int .i64 e) ∧ Sc w' g how st at' ∧ Below B w w'

theorem close_short (B g : Nat) (st : St) (n : Int) (w : World) (hg : B ≤ g) (hB : B ≤ w.heap.size) (h : Sc w g 1 st n) (hl : 0 < st.1) :
    Calls Try.prog 24 #[.pointer (some ⟨g, 0, none⟩)] w (Told B g 3 2 st n w) := by
  have c0 := h.c0
  go_enter Try.func24, Try.ntmps24
  go_wp2_with (go_at_call 46; refine (may_open g _ h.c0).mono ?_; rintro en w1 ⟨rfl, hb⟩; have h1 := h.below hb; have c0 := h1.c0; have f0 := h1.fz 0; have h2 := h1.how' 3; have c1 := h2.c1; have f2 := h2.fz 0)
  go_ret
  exact ⟨rfl, h2.how' 2, (((Below.mono hb hB)).setCell (p := ⟨g, 0, none⟩) hg _).setCell (p := ⟨g, 0, none⟩) hg _⟩
theorem close_right (B g : Nat) (st : St) (n : Int) (w : World) (hg : B ≤ g) (hB : B ≤ w.heap.size) (h : Sc w g 1 st n) (hl : ¬ 0 < st.1) :
    Calls Try.prog 24 #[.pointer (some ⟨g, 0, none⟩)] w (Told B g 0 3 st n w) := by
  have c0 := h.c0
  go_enter Try.func24, Try.ntmps24
  go_wp2_with (go_at_call 46; refine (may_open g _ h.c0).mono ?_; rintro en w1 ⟨rfl, hb⟩; have h1 := h.below hb; have c0 := h1.c0; have f0 := h1.fz 0; have h2 := h1.how' 3; have c1 := h2.c1; have f2 := h2.fz 0)
  go_ret
  exact ⟨rfl, h2, (Below.mono hb hB).setCell (p := ⟨g, 0, none⟩) hg _⟩

theorem new_any (w : World) : Calls Try.prog 36 #[] w fun en w' => en = .returned (.pointer (some ⟨w.heap.size, 0, none⟩)) ∧ Sc w' w.heap.size 1 st0 0 ∧ Below w.heap.size w w' := by
  go_enter Try.func36, Try.ntmps36
  go_wp2
  go_ret
  exact ⟨rfl, heap_alloc_new _ _, (Below.refl _ _).alloc (Nat.le_refl _) _⟩


theorem cs_drop (cs : List UInt8) (k : Nat) (h : k < cs.length) : cs.drop k = cs[k] :: cs.drop (k + 1) := List.drop_eq_getElem_cons h


def FeedPost (B g : Nat) (r : Option St × Int) (w : World) (en : Ending) (w' : World) : Prop :=
  match r with
  | (some st', m) => Told B g 0 1 st' m w en w'
  | (none, m) => ∃ st', Told B g 4 2 st' m w en w'

set_option maxHeartbeats 2000000 in
set_option maxRecDepth 100000 in
theorem feed_any (B g : Nat) (v : Value) (cs : List UInt8) (st : St) (n : Int) (w0 w : World) (hg : B ≤ g) (hB : B ≤ w.heap.size) (hv : BytesIn w0 B v cs) (hold : Below B w0 w)
    (h : Sc w g 1 st n) (h0 : 0 ≤ st.1 ∧ st.1 ≤ 3) (hn : 0 ≤ n) (hm : n + cs.length ≤ 4611686018427387904) :
    Calls Try.prog 23 #[.pointer (some ⟨g, 0, none⟩), v] w (FeedPost B g (runB cs st n) w) := by
  obtain ⟨a, cap, rfl, hcell⟩ := hv
  have HC := Lib.hid hcell
  clear hcell
  go_enter Try.func23, Try.ntmps23
  go_wp2_with (go_at_call 46; refine (may_open g _ h.c0).mono ?_; rintro en w1 ⟨rfl, hb⟩)
  have h1 := h.below hb
  have hB1 : B ≤ w1.heap.size := Nat.le_trans hB hb.size
  have hb1 : Below B w w1 := hb.mono hB
  clear hb
  go_loopw [15] (fun i wr => ∃ (k : Nat) (sk : St), k ≤ cs.length ∧ i = .int .i64 k ∧ Hid (runB cs st n = runB (cs.drop k) sk (n + k)) ∧ (0 ≤ sk.1 ∧ sk.1 ≤ 3) ∧ Sc wr g 1 sk (n + k) ∧ Below B w wr) (fun i _ => cs.length - (intOf i).toNat)
  case atStart => exact ⟨0, st, by omega, rfl, by show runB cs st n = _; simp, h0, by simpa using h1, hb1⟩
  case round =>
    obtain ⟨k, sk, hk, rfl, hc, h0, hI, hb⟩ := hrel
    by_cases hlt : k < cs.length
    · have hd := Lib.hid (cs_drop cs k hlt)
      obtain ⟨b, off, rfl, hbB, hck⟩ := HC.out k hlt
      have hck' : wr.cell? ⟨b, off + k, none⟩ = some (.int .u8 cs[k].toNat) := ((hold.trans hb).cell (p := ⟨b, off + k, none⟩) hbB).trans hck
      clear hck
      cases hst : stp sk cs[k].toNat (-1) with
      | none =>
        have hf : Hid (runB cs st n = (none, n + k)) := by
          show runB cs st n = _
          rw [hc.out, hd.out]; simp only [runB, hst]
        have HS := Lib.hid hst
        clear hst
        go_wp2_with (go_at_call 45; refine (step_no g 1 sk cs[k].toNat (-1) _ hI.c1 hI.c2 hI.c3 HS.out).mono ?_; rintro e w' ⟨rfl, hb'⟩; have h' := hI.below hb'; have c0 := h'.c0; have f0 := h'.fz 0)
        go_ret
        unfold FeedPost
        rw [hf.out]
        exact ⟨sk, rfl, h'.how' 2, (hb.trans (hb'.mono (Nat.le_trans hB hb.size))).setCell (p := ⟨g, 0, none⟩) hg _⟩
      | some st' =>
        have hf : Hid (runB cs st n = runB (cs.drop (k + 1)) st' (n + ((k + 1 : Nat) : Int))) := by
          show runB cs st n = _
          rw [hc.out, hd.out]; simp only [runB, hst]; rw [show n + (k : Int) + 1 = n + ((k + 1 : Nat) : Int) from by omega]
        have h0' := stp_left hst h0
        have HS := Lib.hid hst
        clear hst
        go_wp2_with (go_at_call 45; refine (step_ok g 1 sk st' cs[k].toNat (-1) _ h0 hI.c1 hI.c2 hI.c3 (hI.fz _) (hI.fz _) (hI.fz _) HS.out).mono ?_; rintro e w' ⟨rfl, hb'⟩; have h' := hI.turned hb'; have c4 := h'.c4; have f4 := h'.fz 4)
        go_roundw
        case rel => exact ⟨k + 1, st', by omega, by go_num, hf, h0', by rw [show n + ((k + 1 : Nat) : Int) = n + (k : Int) + 1 from by omega]; exact h'.at'' _, (hb'.below hg (Nat.le_trans hB hb.size) hb).setCell (p := ⟨g, 4, none⟩) hg _⟩
        case measure => simp [intOf]; omega
    · obtain rfl : k = cs.length := by omega
      have hf : Hid (runB cs st n = (some sk, n + cs.length)) := by
        show runB cs st n = _
        rw [hc.out, List.drop_length]; rfl
      clear hc
      go_wp2
      go_ret
      unfold FeedPost
      rw [hf.out]
      exact ⟨rfl, hI, hb⟩
end Go.Proofs.Ytlbokaekhjjabaa
