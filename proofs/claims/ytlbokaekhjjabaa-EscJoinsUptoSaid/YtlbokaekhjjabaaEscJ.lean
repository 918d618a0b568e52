/-
  The walk of the law EscJoins: it returns true.
-/
import Derived.Test.YtlbokaekhjjabaaEscD
import Derived.StillTailTactics
namespace Go.Proofs.Ytlbokaekhjjabaa
open Go.RowKit Go.Proofs.YtlbokaekhjjabaaW.PrintWords Go.Proofs.YtlbokaekhjjabaaW.PrintLast Go.Proofs.YtlbokaekhjjabaaW.PrintMore

set_option linter.unusedVariables false
theorem awake3_any (w : World) : Calls Try.prog 32 #[] w fun e w' => e = .returned (.bool true) ∧ Below w.heap.size w w' :=
  F.glossatorlaw03_awake.calls true w PureF.awake3_fv
/-- What Quote tells. -/
def qS (s : ByteArray) : ByteArray := if (chk s).2 = 0 then quo s else ⟨#[]⟩
def qE (s : ByteArray) : Int := if (chk s).2 = 0 then 0 else 4
theorem quote_any (s : ByteArray) (w : World) (hs : s.size ≤ 8796093022208) : Calls Try.prog 30 #[.string s] w fun e w' => e = .returned (.tuple #[.string (qS s), .int .i64 (qE s)]) ∧ Below w.heap.size w w' := by
  unfold qS qE
  by_cases h : (chk s).2 = 0
  · rw [if_pos h, if_pos h]; exact quote_ok s w hs h
  · rw [if_neg h, if_neg h]; exact quote_err s w (by omega) h
def AllTrue (w : World) (e : Ending) (w' : World) : Prop := e = .returned (.bool true) ∧ Below w.heap.size w w'

theorem below3 {w w1 w2 : World} (h1 : Below w.heap.size w w1) (h2 : Below w1.heap.size w1 w2) : Below w.heap.size w w2 := h1.trans (h2.mono h1.size)

/-- A call of Quote, its text and its error as letters. -/
theorem quote_at (s A : ByteArray) (e : Int) (hA : Hid (qS s = A)) (hE : Hid (qE s = e)) (w : World) (hs : s.size ≤ 8796093022208) : Calls Try.prog 30 #[.string s] w fun en w' => en = .returned (.tuple #[.string A, .int .i64 e]) ∧ Below w.heap.size w w' := by
  rw [← hA.out, ← hE.out]; exact quote_any s w hs

set_option maxHeartbeats 4000000 in
set_option maxRecDepth 100000 in
theorem joins_001 (a b A B C : ByteArray) (e f g : Int) (H1 : Hid (qS a = A)) (H2 : Hid (qS b = B)) (H3 : Hid (qS (a ++ b) = C)) (H4 : Hid (qE a = e)) (H5 : Hid (qE b = f)) (H6 : Hid (qE (a ++ b) = g))
    (ha : a.size ≤ 1048576) (hb : b.size ≤ 1048576) (HZ : Hid ((a ++ b).size ≤ 8796093022208)) (w : World)
    (p0 : (e != 0) = false) (q0 : (e == 0) = true) (p1 : (f != 0) = false) (q1 : (f == 0) = true) (p2 : (g != 0) = true) (q2 : (g == 0) = false) (s2 : C.toList = []) (u2 : C.toList.isEmpty = true) :
    Calls Try.prog 8 #[.string a, .string b] w (AllTrue w) := by
  go_enter Try.func8, Try.ntmps8
  go_wp2_with (fail)
  refine (quote_at a A e H1 H4 _ (by omega)).mono ?_
  rintro en w1 ⟨rfl, hb1⟩
  go_wp2_with (fail)
  refine (quote_at b B f H2 H5 _ (by omega)).mono ?_
  rintro en w2 ⟨rfl, hb2⟩
  go_wp2_with (fail)
  refine (quote_at (a ++ b) C g H3 H6 _ HZ.out).mono ?_
  rintro en w3 ⟨rfl, hb3⟩
  go_wp2_with (go_at_call 32; refine (awake3_any _).mono ?_; rintro en w4 ⟨rfl, hb4⟩)
  go_ret
  exact ⟨rfl, below3 (below3 (below3 hb1 hb2) hb3) hb4⟩

set_option maxHeartbeats 4000000 in
set_option maxRecDepth 100000 in
theorem joins_010 (a b A B C : ByteArray) (e f g : Int) (H1 : Hid (qS a = A)) (H2 : Hid (qS b = B)) (H3 : Hid (qS (a ++ b) = C)) (H4 : Hid (qE a = e)) (H5 : Hid (qE b = f)) (H6 : Hid (qE (a ++ b) = g))
    (ha : a.size ≤ 1048576) (hb : b.size ≤ 1048576) (HZ : Hid ((a ++ b).size ≤ 8796093022208)) (w : World)
    (p0 : (e != 0) = false) (q0 : (e == 0) = true) (p1 : (f != 0) = true) (q1 : (f == 0) = false) (s1 : B.toList = []) (u1 : B.toList.isEmpty = true) (p2 : (g != 0) = false) (q2 : (g == 0) = true) :
    Calls Try.prog 8 #[.string a, .string b] w (AllTrue w) := by
  go_enter Try.func8, Try.ntmps8
  go_wp2_with (fail)
  refine (quote_at a A e H1 H4 _ (by omega)).mono ?_
  rintro en w1 ⟨rfl, hb1⟩
  go_wp2_with (fail)
  refine (quote_at b B f H2 H5 _ (by omega)).mono ?_
  rintro en w2 ⟨rfl, hb2⟩
  go_wp2_with (fail)
  refine (quote_at (a ++ b) C g H3 H6 _ HZ.out).mono ?_
  rintro en w3 ⟨rfl, hb3⟩
  go_wp2_with (go_at_call 32; refine (awake3_any _).mono ?_; rintro en w4 ⟨rfl, hb4⟩)
  go_ret
  exact ⟨rfl, below3 (below3 (below3 hb1 hb2) hb3) hb4⟩

set_option maxHeartbeats 4000000 in
set_option maxRecDepth 100000 in
theorem joins_011 (a b A B C : ByteArray) (e f g : Int) (H1 : Hid (qS a = A)) (H2 : Hid (qS b = B)) (H3 : Hid (qS (a ++ b) = C)) (H4 : Hid (qE a = e)) (H5 : Hid (qE b = f)) (H6 : Hid (qE (a ++ b) = g))
    (ha : a.size ≤ 1048576) (hb : b.size ≤ 1048576) (HZ : Hid ((a ++ b).size ≤ 8796093022208)) (w : World)
    (p0 : (e != 0) = false) (q0 : (e == 0) = true) (p1 : (f != 0) = true) (q1 : (f == 0) = false) (s1 : B.toList = []) (u1 : B.toList.isEmpty = true) (p2 : (g != 0) = true) (q2 : (g == 0) = false) (s2 : C.toList = []) (u2 : C.toList.isEmpty = true) :
    Calls Try.prog 8 #[.string a, .string b] w (AllTrue w) := by
  go_enter Try.func8, Try.ntmps8
  go_wp2_with (fail)
  refine (quote_at a A e H1 H4 _ (by omega)).mono ?_
  rintro en w1 ⟨rfl, hb1⟩
  go_wp2_with (fail)
  refine (quote_at b B f H2 H5 _ (by omega)).mono ?_
  rintro en w2 ⟨rfl, hb2⟩
  go_wp2_with (fail)
  refine (quote_at (a ++ b) C g H3 H6 _ HZ.out).mono ?_
  rintro en w3 ⟨rfl, hb3⟩
  go_wp2_with (go_at_call 32; refine (awake3_any _).mono ?_; rintro en w4 ⟨rfl, hb4⟩)
  go_ret
  exact ⟨rfl, below3 (below3 (below3 hb1 hb2) hb3) hb4⟩

set_option maxHeartbeats 4000000 in
set_option maxRecDepth 100000 in
theorem joins_100 (a b A B C : ByteArray) (e f g : Int) (H1 : Hid (qS a = A)) (H2 : Hid (qS b = B)) (H3 : Hid (qS (a ++ b) = C)) (H4 : Hid (qE a = e)) (H5 : Hid (qE b = f)) (H6 : Hid (qE (a ++ b) = g))
    (ha : a.size ≤ 1048576) (hb : b.size ≤ 1048576) (HZ : Hid ((a ++ b).size ≤ 8796093022208)) (w : World)
    (p0 : (e != 0) = true) (q0 : (e == 0) = false) (s0 : A.toList = []) (u0 : A.toList.isEmpty = true) (p1 : (f != 0) = false) (q1 : (f == 0) = true) (p2 : (g != 0) = false) (q2 : (g == 0) = true) :
    Calls Try.prog 8 #[.string a, .string b] w (AllTrue w) := by
  go_enter Try.func8, Try.ntmps8
  go_wp2_with (fail)
  refine (quote_at a A e H1 H4 _ (by omega)).mono ?_
  rintro en w1 ⟨rfl, hb1⟩
  go_wp2_with (fail)
  refine (quote_at b B f H2 H5 _ (by omega)).mono ?_
  rintro en w2 ⟨rfl, hb2⟩
  go_wp2_with (fail)
  refine (quote_at (a ++ b) C g H3 H6 _ HZ.out).mono ?_
  rintro en w3 ⟨rfl, hb3⟩
  go_wp2_with (go_at_call 32; refine (awake3_any _).mono ?_; rintro en w4 ⟨rfl, hb4⟩)
  go_ret
  exact ⟨rfl, below3 (below3 (below3 hb1 hb2) hb3) hb4⟩

set_option maxHeartbeats 4000000 in
set_option maxRecDepth 100000 in
theorem joins_101 (a b A B C : ByteArray) (e f g : Int) (H1 : Hid (qS a = A)) (H2 : Hid (qS b = B)) (H3 : Hid (qS (a ++ b) = C)) (H4 : Hid (qE a = e)) (H5 : Hid (qE b = f)) (H6 : Hid (qE (a ++ b) = g))
    (ha : a.size ≤ 1048576) (hb : b.size ≤ 1048576) (HZ : Hid ((a ++ b).size ≤ 8796093022208)) (w : World)
    (p0 : (e != 0) = true) (q0 : (e == 0) = false) (s0 : A.toList = []) (u0 : A.toList.isEmpty = true) (p1 : (f != 0) = false) (q1 : (f == 0) = true) (p2 : (g != 0) = true) (q2 : (g == 0) = false) (s2 : C.toList = []) (u2 : C.toList.isEmpty = true) :
    Calls Try.prog 8 #[.string a, .string b] w (AllTrue w) := by
  go_enter Try.func8, Try.ntmps8
  go_wp2_with (fail)
  refine (quote_at a A e H1 H4 _ (by omega)).mono ?_
  rintro en w1 ⟨rfl, hb1⟩
  go_wp2_with (fail)
  refine (quote_at b B f H2 H5 _ (by omega)).mono ?_
  rintro en w2 ⟨rfl, hb2⟩
  go_wp2_with (fail)
  refine (quote_at (a ++ b) C g H3 H6 _ HZ.out).mono ?_
  rintro en w3 ⟨rfl, hb3⟩
  go_wp2_with (go_at_call 32; refine (awake3_any _).mono ?_; rintro en w4 ⟨rfl, hb4⟩)
  go_ret
  exact ⟨rfl, below3 (below3 (below3 hb1 hb2) hb3) hb4⟩

set_option maxHeartbeats 4000000 in
set_option maxRecDepth 100000 in
theorem joins_110 (a b A B C : ByteArray) (e f g : Int) (H1 : Hid (qS a = A)) (H2 : Hid (qS b = B)) (H3 : Hid (qS (a ++ b) = C)) (H4 : Hid (qE a = e)) (H5 : Hid (qE b = f)) (H6 : Hid (qE (a ++ b) = g))
    (ha : a.size ≤ 1048576) (hb : b.size ≤ 1048576) (HZ : Hid ((a ++ b).size ≤ 8796093022208)) (w : World)
    (p0 : (e != 0) = true) (q0 : (e == 0) = false) (s0 : A.toList = []) (u0 : A.toList.isEmpty = true) (p1 : (f != 0) = true) (q1 : (f == 0) = false) (s1 : B.toList = []) (u1 : B.toList.isEmpty = true) (p2 : (g != 0) = false) (q2 : (g == 0) = true) :
    Calls Try.prog 8 #[.string a, .string b] w (AllTrue w) := by
  go_enter Try.func8, Try.ntmps8
  go_wp2_with (fail)
  refine (quote_at a A e H1 H4 _ (by omega)).mono ?_
  rintro en w1 ⟨rfl, hb1⟩
  go_wp2_with (fail)
  refine (quote_at b B f H2 H5 _ (by omega)).mono ?_
  rintro en w2 ⟨rfl, hb2⟩
  go_wp2_with (fail)
  refine (quote_at (a ++ b) C g H3 H6 _ HZ.out).mono ?_
  rintro en w3 ⟨rfl, hb3⟩
  go_wp2_with (go_at_call 32; refine (awake3_any _).mono ?_; rintro en w4 ⟨rfl, hb4⟩)
  go_ret
  exact ⟨rfl, below3 (below3 (below3 hb1 hb2) hb3) hb4⟩

set_option maxHeartbeats 4000000 in
set_option maxRecDepth 100000 in
theorem joins_111 (a b A B C : ByteArray) (e f g : Int) (H1 : Hid (qS a = A)) (H2 : Hid (qS b = B)) (H3 : Hid (qS (a ++ b) = C)) (H4 : Hid (qE a = e)) (H5 : Hid (qE b = f)) (H6 : Hid (qE (a ++ b) = g))
    (ha : a.size ≤ 1048576) (hb : b.size ≤ 1048576) (HZ : Hid ((a ++ b).size ≤ 8796093022208)) (w : World)
    (p0 : (e != 0) = true) (q0 : (e == 0) = false) (s0 : A.toList = []) (u0 : A.toList.isEmpty = true) (p1 : (f != 0) = true) (q1 : (f == 0) = false) (s1 : B.toList = []) (u1 : B.toList.isEmpty = true) (p2 : (g != 0) = true) (q2 : (g == 0) = false) (s2 : C.toList = []) (u2 : C.toList.isEmpty = true) :
    Calls Try.prog 8 #[.string a, .string b] w (AllTrue w) := by
  go_enter Try.func8, Try.ntmps8
  go_wp2_with (fail)
  refine (quote_at a A e H1 H4 _ (by omega)).mono ?_
  rintro en w1 ⟨rfl, hb1⟩
  go_wp2_with (fail)
  refine (quote_at b B f H2 H5 _ (by omega)).mono ?_
  rintro en w2 ⟨rfl, hb2⟩
  go_wp2_with (fail)
  refine (quote_at (a ++ b) C g H3 H6 _ HZ.out).mono ?_
  rintro en w3 ⟨rfl, hb3⟩
  go_wp2_with (go_at_call 32; refine (awake3_any _).mono ?_; rintro en w4 ⟨rfl, hb4⟩)
  go_ret
  exact ⟨rfl, below3 (below3 (below3 hb1 hb2) hb3) hb4⟩
end Go.Proofs.Ytlbokaekhjjabaa
