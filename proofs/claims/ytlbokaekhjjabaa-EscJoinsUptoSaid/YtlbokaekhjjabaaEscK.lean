/-
  EscJoins where all three texts are right; and all cases met.
-/
import Derived.Test.YtlbokaekhjjabaaEscJ
import Derived.StillTailTactics
namespace Go.Proofs.Ytlbokaekhjjabaa
open Go.RowKit Go.Proofs.YtlbokaekhjjabaaW.PrintWords Go.Proofs.YtlbokaekhjjabaaW.PrintLast Go.Proofs.YtlbokaekhjjabaaW.PrintMore PureF
set_option linter.unusedVariables false

theorem qE_cases (s : ByteArray) : (qE s = 0 ∧ qS s = quo s) ∨ (qE s = 4 ∧ qS s = ⟨#[]⟩) := by
  unfold qE qS
  by_cases h : (chk s).2 = 0
  · rw [if_pos h, if_pos h]; exact .inl ⟨rfl, rfl⟩
  · rw [if_neg h, if_neg h]; exact .inr ⟨rfl, rfl⟩
theorem quo_le (s : ByteArray) (h : s.size ≤ 2097152) : 2 ≤ (quo s).size ∧ (quo s).size ≤ 16777216 := by
  have h1 := quo_size s
  have h2 := quoteL_len s.data.toList
  have h3 : s.data.toList.length = s.size := by rw [Array.length_toList]; rfl
  omega
theorem ex_data (s : ByteArray) (i j : Nat) : (s.extract i j).data.toList = (s.data.toList.take j).drop i := by
  simp [ByteArray.data_extract, List.extract, List.drop_take]
theorem map_mid {α β : Type} (f : α → β) (x : α) (l : List α) (y : α) : ([x] ++ l ++ [y]).map f = f x :: (l.map f ++ [f y]) := by simp
theorem drop_last' {α : Type} (x y : α) (l : List α) (n : Nat) (h : n = l.length + 1) : (x :: (l ++ [y])).take n = x :: l := by subst h; simp
theorem quo_join (s t : ByteArray) : (quo (s ++ t)).data.toList = ((quo s).extract 0 ((quo s).size - 1) ++ (quo t).extract 1 (quo t).size).data.toList := by
  have h1 := quo_size s
  have h2 := quo_size t
  rw [app_d, ex_data, ex_data, quo_data, quo_data, quo_data, app_d, quoteL_append, map_mid, map_mid, map_mid, List.map_append]
  rw [drop_last' _ _ _ _ (by rw [List.length_map]; omega)]
  rw [List.take_of_length_le (by simp only [List.length_cons, List.length_append, List.length_map, List.length_nil]; omega)]
  simp
theorem beq_of_data (x y : ByteArray) (h : x.data.toList = y.data.toList) : (x.toList == y.toList) = true := by
  have : x = y := by
    cases x; cases y
    exact congrArg ByteArray.mk (Array.toList_inj.1 h)
  subst this; exact beq_self_eq_true _

set_option maxHeartbeats 4000000 in
set_option maxRecDepth 100000 in
theorem joins_000 (a b A B C : ByteArray) (e f g : Int) (H1 : Hid (qS a = A)) (H2 : Hid (qS b = B)) (H3 : Hid (qS (a ++ b) = C)) (H4 : Hid (qE a = e)) (H5 : Hid (qE b = f)) (H6 : Hid (qE (a ++ b) = g))
    (ha : a.size ≤ 1048576) (hb : b.size ≤ 1048576) (HZ : Hid ((a ++ b).size ≤ 8796093022208)) (w : World)
    (p0 : (e != 0) = false) (p1 : (f != 0) = false) (p2 : (g != 0) = false) (hA2 : 2 ≤ A.size) (hB2 : 2 ≤ B.size) (hA3 : A.size ≤ 16777216) (hB3 : B.size ≤ 16777216)
    (hC : (C.toList == (A.extract 0 (A.size - 1) ++ B.extract 1 B.size).toList) = true) :
    Calls Try.prog 8 #[.string a, .string b] w (AllTrue w) := by
  have hza : (A.extract 0 (A.size - 1)).size = A.size - 1 := by simp [ByteArray.size_extract]
  have hzb : (B.extract 1 B.size).size = B.size - 1 := by simp [ByteArray.size_extract]
  have d1 : decide ((2 : Int) ≤ (A.size : Int)) = true := decide_eq_true (by omega)
  have d2 : decide ((2 : Int) ≤ (B.size : Int)) = true := decide_eq_true (by omega)
  go_enter Try.func8, Try.ntmps8
  go_wp2_with (fail)
  refine (quote_at a A e H1 H4 _ (by omega)).mono ?_
  rintro en w1 ⟨rfl, hb1⟩
  go_wp2_with (fail)
  refine (quote_at b B f H2 H5 _ (by omega)).mono ?_
  rintro en w2 ⟨rfl, hb2⟩
  go_wp2_with (fail)
  refine (quote_at (a ++ b) C g H3 H6 _ HZ.out).mono ?_
  rintro en w3 ⟨rfl, hb3⟩
  go_wp2_with (fail)
  have hw1 : IntKind.i64.wrap ((A.size : Int) - 1) = ((A.size - 1 : Nat) : Int) := by rw [IntKind.wrap_i64]; omega
  have hw2 : (0 ≤ ((A.size - 1 : Nat) : Int) ∧ ((A.size - 1 : Nat) : Int) ≤ (A.size : Int)) := ⟨by omega, by omega⟩
  have hw3 : (1 : Int) ≤ (B.size : Int) := by omega
  have hw4 : ¬ (9223372036854775807 < A.size - 1 + (B.size - 1)) := by omega
  go_still_tail 21, (by kernel_rfl)
  change wpList _ _ _ _ _ w3.drew
  have hb5 : Below w3.heap.size w3 w3.drew := (Below.refl _ _).drew
  generalize w3.drew = w5 at hb5 ⊢
  go_wp2_with (go_at_call 32; refine (awake3_any _).mono ?_; rintro en w4 ⟨rfl, hb4⟩)
  go_ret
  exact ⟨rfl, below3 (below3 (below3 (below3 hb1 hb2) hb3) hb5) hb4⟩

theorem b4a : ((4 : Int) != 0) = true := by decide
theorem b4b : ((4 : Int) == 0) = false := by decide
theorem b0a : ((0 : Int) != 0) = false := by decide
theorem b0b : ((0 : Int) == 0) = true := by decide
theorem emp : (⟨#[]⟩ : ByteArray).toList = [] := by decide +kernel
theorem empB : (⟨#[]⟩ : ByteArray).toList.isEmpty = true := by rw [emp]; rfl
theorem joins_any (a b : ByteArray) (w : World) (ha : a.size ≤ 1048576) (hb : b.size ≤ 1048576) : Calls Try.prog 8 #[.string a, .string b] w (AllTrue w) := by
  have hz : (a ++ b).size ≤ 2097152 := by rw [siz]; omega
  have HZ : Hid ((a ++ b).size ≤ 8796093022208) := show Hid _ from (show (a ++ b).size ≤ 8796093022208 by omega)
  rcases qE_cases a with ⟨e1, s1⟩ | ⟨e1, s1⟩ <;> rcases qE_cases b with ⟨e2, s2⟩ | ⟨e2, s2⟩ <;> rcases qE_cases (a ++ b) with ⟨e3, s3⟩ | ⟨e3, s3⟩
  · have h1 := quo_le a (by omega)
    have h2 := quo_le b (by omega)
    exact joins_000 a b _ _ _ _ _ _ s1 s2 s3 e1 e2 e3 ha hb HZ w b0a b0a b0a h1.1 h2.1 h1.2 h2.2 (beq_of_data _ _ (quo_join a b))
  · exact joins_001 a b _ _ _ _ _ _ s1 s2 s3 e1 e2 e3 ha hb HZ w b0a b0b b0a b0b b4a b4b emp empB
  · exact joins_010 a b _ _ _ _ _ _ s1 s2 s3 e1 e2 e3 ha hb HZ w b0a b0b b4a b4b emp empB b0a b0b
  · exact joins_011 a b _ _ _ _ _ _ s1 s2 s3 e1 e2 e3 ha hb HZ w b0a b0b b4a b4b emp empB b4a b4b emp empB
  · exact joins_100 a b _ _ _ _ _ _ s1 s2 s3 e1 e2 e3 ha hb HZ w b4a b4b emp empB b0a b0b b0a b0b
  · exact joins_101 a b _ _ _ _ _ _ s1 s2 s3 e1 e2 e3 ha hb HZ w b4a b4b emp empB b0a b0b b4a b4b emp empB
  · exact joins_110 a b _ _ _ _ _ _ s1 s2 s3 e1 e2 e3 ha hb HZ w b4a b4b emp empB b4a b4b emp empB b0a b0b
  · exact joins_111 a b _ _ _ _ _ _ s1 s2 s3 e1 e2 e3 ha hb HZ w b4a b4b emp empB b4a b4b emp empB b4a b4b emp empB
end Go.Proofs.Ytlbokaekhjjabaa
