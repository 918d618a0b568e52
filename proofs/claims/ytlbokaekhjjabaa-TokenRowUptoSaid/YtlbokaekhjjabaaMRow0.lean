import Derived.Test.YtlbokaekhjjabaaRows
import Derived.WalkKit
import Derived.ProofKit
import Derived.OpenShut
import Derived.ShutString
import Derived.ChangeOld
import Derived.Below
import Derived.SizedLaws
import Derived.JoinedCond
import Derived.BigQuiet
import Derived.Test.YtlbokaekhjjabaaMTk0
import Derived.Test.YtlbokaekhjjabaaMTk1
import Derived.Test.YtlbokaekhjjabaaMTk2
import Derived.Test.YtlbokaekhjjabaaMTk3
/-
  TokenRow, walked.
-/
namespace Go.Proofs.Ytlbokaekhjjabaa
open Go.RowKit Go.Proofs.YtlbokaekhjjabaaW.PrintWords
set_option linter.unusedVariables false

theorem blank_ways {c : Int} (h : blankB c = true) : ((c != 9) = false ∧ (c != 10) = true ∧ (c != 13) = true ∧ (c != 32) = true) ∨ ((c != 9) = true ∧ (c != 10) = false ∧ (c != 13) = true ∧ (c != 32) = true) ∨
    ((c != 9) = true ∧ (c != 10) = true ∧ (c != 13) = false ∧ (c != 32) = true) ∨ ((c != 9) = true ∧ (c != 10) = true ∧ (c != 13) = true ∧ (c != 32) = false) := by
  unfold blankB at h
  simp only [Bool.or_eq_true, beq_iff_eq] at h
  rcases h with rfl | rfl | rfl | rfl
  · exact .inl (by decide)
  · exact .inr (.inl (by decide))
  · exact .inr (.inr (.inl (by decide)))
  · exact .inr (.inr (.inr (by decide)))
set_option maxHeartbeats 4000000 in
set_option maxRecDepth 100000 in
theorem row_law (s : ByteArray) (hs : s.size ≤ 1099511627776) (w : World) : Calls Try.prog 18 #[.string s] w fun e w' => e = .returned (.bool true) ∧ Below w.heap.size w w' := by
  obtain ⟨L, n, er, hf⟩ : ∃ L n er, lstF s = (L, n, er) := ⟨_, _, _, rfl⟩
  have hways := list_ways s
  have hL := list_any s hs w
  unfold ListIs at hL
  rw [hf] at hways hL
  dsimp only at hways hL
  rcases hways with ⟨h1, rfl, h3⟩ | ⟨rfl, rfl, h3, h4⟩
  · have heb : (er != 0) = true := by simpa using h1
    have hle : decide ((n : Int) ≤ (s.size : Int)) = true := decide_eq_true (by omega)
    have hle2 : decide (n ≤ s.size) = true := decide_eq_true h3
    go_enter Try.func18, Try.ntmps18
    go_wp2_with (fail)
    refine hL.mono ?_
    rintro e w1 ⟨v, rfl, hrow, hnil, hb⟩
    obtain rfl : v = .slice none 0 0 := hnil.mpr (by first | rfl | trivial)
    go_wp2_with (fail)
    refine (awake14 _).mono ?_
    rintro e4 w4 ⟨rfl, hb4⟩
    go_wp2_with (fail)
    go_ret
    exact ⟨rfl, hb.trans (hb4.mono hb.size)⟩
  · have hLl : L.length ≤ 1099511627777 := by
      have h5 := itemsGo_len s (s.size + 1) 0
      have h6 : L = itemsGo s (s.size + 1) 0 := congrArg Prod.fst h4
      rw [← h6] at h5
      omega
    clear h4
    go_enter Try.func18, Try.ntmps18
    go_wp2_with (fail)
    refine hL.mono ?_
    rintro e w1 ⟨v, rfl, hrow, hnil, hb⟩
    obtain ⟨sa, sc, hv⟩ : ∃ a c, v = .slice a L.length c := by
      rcases hrow.2 with ⟨h, h2⟩ | ⟨g, cap, cur, h, _⟩
      · have : L = [] := hnil.mp h
        subst this
        exact ⟨_, _, h⟩
      · exact ⟨_, _, h⟩
    subst hv
    go_wp2_with (fail)
    go_loopw [6, 7] (fun t i wr => ∃ (q k : Nat), i = .int .i64 k ∧ t = .int .i64 q ∧ wr = w1 ∧ k ≤ L.length + 1 ∧ (k ≤ L.length → Hid (Chain s q (L.drop k)))) (fun _ i _ => L.length + 1 - (intOf i).toNat)
    case atStart => exact ⟨0, 0, rfl, rfl, rfl, by omega, fun _ => h3⟩
    case round =>
      obtain ⟨q, k, rfl, rfl, rfl, hk, hch⟩ := hrel
      by_cases hkl : k ≤ L.length
      · have g1 : decide (k ≤ L.length) = true := decide_eq_true hkl
        have hch := hch hkl
        by_cases hk2 : k < L.length
        · have g2 : decide (k < L.length) = true := decide_eq_true hk2
          obtain ⟨x, hx⟩ : ∃ x, L[k]? = some x := ⟨_, List.getElem?_eq_getElem hk2⟩
          have hd : L.drop k = x :: L.drop (k + 1) := by
            rw [List.drop_eq_getElem_cons hk2]
            rw [List.getElem?_eq_getElem hk2] at hx
            rw [Option.some.inj hx]
          have hc2 := hch.out
          rw [hd] at hc2
          obtain ⟨e1, e2, e3, e4, e5⟩ := hc2
          obtain ⟨g, rfl⟩ : ∃ g, sa = some ⟨g, 0, none⟩ := by
            rcases hrow.2 with ⟨h, _⟩ | ⟨g, cap, cur, h, _⟩
            · have h' := hnil.mp h
              rw [h'] at hk2
              exact absurd hk2 (by simp)
            · cases h; exact ⟨g, rfl⟩
          have cell : ∀ j, j < 4 → wr.cell? ⟨g, k * 4 + j, none⟩ = (tokCells x.1)[j]? := fun j hj => (hrow.cellAt _ (by omega)).trans (rows_get L k x hx j hj)
          have cf : wr.cell? ⟨g, k * 4 + 1, none⟩ = some (.int .i64 x.1.2.1) := (cell 1 (by omega)).trans rfl
          have ct : wr.cell? ⟨g, k * 4 + 2, none⟩ = some (.int .i64 x.1.2.2.1) := (cell 2 (by omega)).trans rfl
          clear cell
          obtain ⟨⟨tk, tf, tt, tx⟩, xe⟩ := x
          dsimp only at e1 e2 e3 e4 e5 cf ct
          have d1 : decide (tt ≤ tf) = false := decide_eq_false (by omega)
          have d2 : decide (tf < q) = false := decide_eq_false (by omega)
          have d3 : decide (s.size < tf) = false := decide_eq_false (by omega)
          have d4 : decide (tf > s.size) = false := decide_eq_false (by omega)
          have E4 := Lib.hid e4
          have E5 := Lib.hid e5
          clear e4 e5
          go_wp2_with (fail)
          go_loopw [9] (fun y' wr' => ∃ y : Nat, y' = .int .i64 y ∧ q ≤ y ∧ y ≤ tf ∧ wr' = wr) (fun y' _ => tf - (intOf y').toNat)
          case atStart => exact ⟨q, rfl, Nat.le_refl _, by omega, rfl⟩
          case round =>
            obtain ⟨y, rfl, hy1, hy2, rfl⟩ := hrel
            by_cases hy : y < tf
            · have y1 : decide (y < tf) = true := decide_eq_true hy
              have hys : y < s.size := by omega
              have hbl := blank_ways (E4.out y hy1 hy)
              rw [byteAt_get s y hys] at hbl
              obtain ⟨c, hc⟩ : ∃ c : Int, (s[y].toNat : Int) = c := ⟨_, rfl⟩
              rw [hc] at hbl
              rcases hbl with ⟨n1, n2, n3, n4⟩ | ⟨n1, n2, n3, n4⟩ | ⟨n1, n2, n3, n4⟩ | ⟨n1, n2, n3, n4⟩
              all_goals
                go_wp2_with (fail)
                go_roundw
                case rel => exact ⟨y + 1, rfl, by omega, by omega, by first | rfl | trivial⟩
                case measure => simp [intOf]; omega
            · have y1 : decide (y < tf) = false := decide_eq_false hy
              go_wp2_with (fail)
              go_roundw
              case rel => exact ⟨tt, k + 1, rfl, rfl, (by first | rfl | trivial), by omega, fun _ => E5⟩
              case measure => simp [intOf]; omega
        · have g2 : decide (k < L.length) = false := decide_eq_false hk2
          have hd : L.drop k = [] := List.drop_eq_nil_of_le (by omega)
          have hc2 := hch.out
          rw [hd] at hc2
          obtain ⟨e1, e2⟩ := hc2
          have d2 : decide (s.size < q) = false := decide_eq_false (by omega)
          have E4 := Lib.hid e2
          clear e2
          go_wp2_with (fail)
          go_loopw [9] (fun y' wr' => ∃ y : Nat, y' = .int .i64 y ∧ q ≤ y ∧ y ≤ s.size ∧ wr' = wr) (fun y' _ => s.size - (intOf y').toNat)
          case atStart => exact ⟨q, rfl, Nat.le_refl _, by omega, rfl⟩
          case round =>
            obtain ⟨y, rfl, hy1, hy2, rfl⟩ := hrel
            by_cases hy : y < s.size
            · have y1 : decide (y < s.size) = true := decide_eq_true hy
              have hys : y < s.size := by omega
              have hbl := blank_ways (E4.out y hy1 hy)
              rw [byteAt_get s y hys] at hbl
              obtain ⟨c, hc⟩ : ∃ c : Int, (s[y].toNat : Int) = c := ⟨_, rfl⟩
              rw [hc] at hbl
              rcases hbl with ⟨n1, n2, n3, n4⟩ | ⟨n1, n2, n3, n4⟩ | ⟨n1, n2, n3, n4⟩ | ⟨n1, n2, n3, n4⟩
              all_goals
                go_wp2_with (fail)
                go_roundw
                case rel => exact ⟨y + 1, rfl, by omega, by omega, by first | rfl | trivial⟩
                case measure => simp [intOf]; omega
            · have y1 : decide (y < s.size) = false := decide_eq_false hy
              go_wp2_with (fail)
              go_roundw
              case rel => exact ⟨q, k + 1, rfl, rfl, (by first | rfl | trivial), by omega, fun h => absurd h (by omega)⟩
              case measure => simp [intOf]; omega
      · have g1 : decide (k ≤ L.length) = false := decide_eq_false hkl
        go_wp2_with (fail)
        refine (awake14 _).mono ?_
        rintro e4 w4 ⟨rfl, hb4⟩
        go_wp2_with (fail)
        go_ret
        exact ⟨rfl, hb.trans (hb4.mono hb.size)⟩
theorem row_upto (s : ByteArray) (w : World) (hs : s.size ≤ 1048576) : Calls Try.prog 18 #[.string s] w fun e w' => e = .returned (.bool true) ∧ Below w.heap.size w w' := row_law s (by omega) w
end Go.Proofs.Ytlbokaekhjjabaa

/-
  The row of TokenRowUptoSaid: over the walk and the plain law.
-/
namespace Go.Proofs.Ytlbokaekhjjabaa.tokenRowUpto
open Go.ChangeShapes Go.WideShapes Go.ChangeAt Go.RowKit
open Go.ChangeMaps (open_string shut_string)
set_option linter.unusedVariables false
theorem own : ownKnob Try.prog.godebug = none := by kernel_rfl
theorem bulk_string {H : Type} (bytes : List UInt8) : Rows.uptoBulk (DataW.lit (H := H) (.string bytes)) = bytes.length + 1 := by simp [Rows.uptoBulk]
set_option maxRecDepth 100000 in
theorem contract (H : Type) (enc : TypeId × Value → H) (W : World) (base : Nat) (args : Array Value) (ds gs : List (DataW H)) (before : List MemPlace)
    (hval : ∀ (j : Nat) t v, Try.f18.params[j]? = some t → args[j]? = some v → Value.okWide Try.prog W .any base t v)
    (hW : DataW.Whole enc Try.prog Try.f18.params.toList Rows.tokenRowSpec.vars false W args.toList ds gs before) (hk : Rows.uptoSmall H (ds ++ gs) = true) :
    Calls Try.prog 18 args W fun e W' => ∃ v, e = .returned v ∧ Rows.tokenRowSpec.post enc Try.prog Try.f18 false true false false W args v W' := by
  have hW' := hW
  obtain ⟨p, q, hA0, hV, rfl, hfz, hnd⟩ := hW
  have hA : DataW.TrodAll enc Try.prog W 0 (fun _ => true) true Try.f18.params.toList args.toList ds p := hA0
  rw [Try.params18] at hA hval
  obtain ⟨v0, vs0, d0, ds0, p0, q0, hargs, rfl, rfl, h0, r0⟩ := trodAll_cons hA
  obtain ⟨rfl, rfl, rfl⟩ := trodAll_nil r0
  obtain rfl : args = #[v0] := by cases args; simp_all
  obtain ⟨rfl, rfl⟩ := trodVars_none hV
  obtain ⟨a0, rfl, rfl, rfl, y0⟩ := open_string Try.underlying9 (hval 0 9 v0 rfl rfl) h0
  have hb := of_decide_eq_true hk
  simp only [List.cons_append, List.nil_append, Rows.uptoBulkAll, bulk_string] at hb
  have w0 : a0.size ≤ 1048576 := by
    have hl : a0.data.toList.length = a0.size := by rw [Array.length_toList]; rfl
    omega
  clear hA0 hval hk hb
  refine (row_upto a0 W w0).mono fun e W' ⟨he, bel⟩ => ?_
  subst he
  exact ⟨_, rfl, _, _, _, [], _, [], hW', trodAll_mk1 (shut_bool Try.underlying4 _), (trodAll_cons_mk (shut_string Try.underlying9 y0) trodAll_mk0), rfl, bel.frame _, fun h => by cases h⟩
set_option maxRecDepth 100000 in
theorem lifted (os : Os) (started : os.Started) (H : Type) (enc : TypeId × Value → H) (F : Stop.Interp) :
    ReturnsInHanded {} Try.checked os 18 .any ((Rows.OpenSpec.upto Rows.tokenRowSpec).pre6 enc Try.prog Try.f18 Rows.tokenRowUptoRow.domain false) (((Rows.OpenSpec.upto Rows.tokenRowSpec).at F).post enc Try.prog Try.f18 false true false false) := by
  refine returnsInHanded_of_cond (C := Try.checked) (s := Rows.OpenSpec.upto Rows.tokenRowSpec) (k := Rows.uptoSmall) rfl own started (by kernel_rfl) Try.func18
    (OpenSpec.witness (enc := enc) (C := Try.checked) (s := Rows.OpenSpec.upto Rows.tokenRowSpec) (k := Rows.uptoSmall) rfl false ⟨#[], #[.string ByteArray.empty], []⟩ 8 (by kernel_rfl) (by kernel_rfl) (by kernel_rfl)
      (x := ([.lit (.string [])], [], [])) (by kernel_rfl) rfl (by kernel_rfl)) ?_
  intro W base args ds gs before hval hW _ hk _
  exact contract H enc W base args ds gs before hval hW hk
theorem over : Rows.tokenRowUptoRow.holds Try.pinned (Rows.OpenSpec.upto Rows.tokenRowSpec) :=
  OpenClaim.holds_of_cond 18 Try.f18 rfl rfl rfl rfl rfl rfl rfl ⟨rfl, rfl, rfl, rfl, rfl⟩ rfl rfl rfl rfl rfl (by kernel_rfl) Try.func18 (by kernel_rfl)
    (of_decide_eq_true (by kernel_rfl)) (by unfold Func.isWrapper; first | (rw [if_pos (by decide +kernel)]; kernel_rfl) | (rw [if_neg (by decide +kernel)]; exact ⟨rfl, rfl⟩))
    (fun os started H enc _ F => lifted os started H enc F)
theorem proved : Rows.TokenRowUptoSaid := over
#print axioms proved
end Go.Proofs.Ytlbokaekhjjabaa.tokenRowUpto
namespace Go.Proofs.Ytlbokaekhjjabaa
theorem tokenRowUpto_holds : Rows.TokenRowUptoSaid := tokenRowUpto.proved
end Go.Proofs.Ytlbokaekhjjabaa

/-
  Blanks ahead of a text move its tokens, and change nothing else. Without Go.
-/
namespace Go.Proofs.Ytlbokaekhjjabaa
open Go.RowKit
set_option linter.unusedVariables false

section
variable {b s : ByteArray} (hb : ∀ i, i < b.size → blankB (byteAt b i) = true)
theorem app_byte_r (b s : ByteArray) (i : Nat) : byteAt (b ++ s) (b.size + i) = byteAt s i := by
  unfold byteAt
  have e : (b ++ s).data.toList = b.data.toList ++ s.data.toList := by simp
  rw [e, List.getD_eq_getElem?_getD, List.getD_eq_getElem?_getD, List.getElem?_append_right (by rw [data_len]; omega), data_len, Nat.add_sub_cancel_left]
theorem app_byte_l (b s : ByteArray) (i : Nat) (h : i < b.size) : byteAt (b ++ s) i = byteAt b i := by
  unfold byteAt
  have e : (b ++ s).data.toList = b.data.toList ++ s.data.toList := by simp
  rw [e, List.getD_eq_getElem?_getD, List.getD_eq_getElem?_getD, List.getElem?_append_left (by rw [data_len]; omega)]
theorem app_size (b s : ByteArray) : (b ++ s).size = b.size + s.size := ByteArray.size_append
theorem app_sub (b s : ByteArray) (a : Nat) : sub (b ++ s) (b.size + a) = sub s a := by
  have h : (sub (b ++ s) (b.size + a)).data.toList = (sub s a).data.toList := by
    rw [sub_data, sub_data]
    have e : (b ++ s).data.toList = b.data.toList ++ s.data.toList := by simp
    rw [e, ← List.drop_drop]
    congr 1
    rw [← data_len b, List.drop_left]
  exact ByteArray.ext (Array.toList_inj.mp h)
theorem app_skip (b s : ByteArray) (m : Nat) : ∀ p, s.size - p < m → skipF (b ++ s) (b.size + p) = b.size + skipF s p := by
  induction m with
  | zero => intro p h; omega
  | succ m ih =>
    intro p h
    have u1 : skipF (b ++ s) (b.size + p) = if h : b.size + p < (b ++ s).size then (if blankB (byteAt (b ++ s) (b.size + p)) = true then skipF (b ++ s) (b.size + p + 1) else b.size + p) else b.size + p := by rw [skipF]
    have u2 : skipF s p = if h : p < s.size then (if blankB (byteAt s p) = true then skipF s (p + 1) else p) else p := by rw [skipF]
    rw [u1, u2, app_size, app_byte_r]
    by_cases hp : p < s.size
    · rw [dif_pos (by omega), dif_pos hp]
      by_cases hbl : blankB (byteAt s p) = true
      · rw [if_pos hbl, if_pos hbl]; exact ih (p + 1) (by omega)
      · rw [if_neg hbl, if_neg hbl]
    · rw [dif_neg (by omega), dif_neg hp]
include hb in
theorem skip_over (m : Nat) : ∀ p, b.size - p < m → p ≤ b.size → skipF (b ++ s) p = skipF (b ++ s) b.size := by
  induction m with
  | zero => intro p h; omega
  | succ m ih =>
    intro p h hp
    by_cases hpb : p < b.size
    · rw [skipF, dif_pos (by rw [app_size]; omega), app_byte_l b s p hpb, if_pos (hb p hpb)]
      exact ih (p + 1) (by omega) (by omega)
    · rw [show p = b.size by omega]
/-- A token further on. -/
def moveT (k : Nat) (r : Tok × Nat × Int) : Tok × Nat × Int := if r.2.2 ≠ 0 then (r.1, k + r.2.1, r.2.2) else ((r.1.1, k + r.1.2.1, k + r.1.2.2.1, r.1.2.2.2), k + r.2.1, r.2.2)
theorem app_tokV (b s : ByteArray) (a : Nat) (k : Int) : tokV (b ++ s) (b.size + a) k = moveT b.size (tokV s a k) := by
  unfold tokV
  rw [app_sub]
  by_cases h0 : k = 0
  · rw [if_pos h0, if_pos h0]; rfl
  rw [if_neg h0, if_neg h0]
  by_cases h1 : k = 83
  · rw [if_pos h1, if_pos h1]
    by_cases he : (scanF (sub s a)).2.2 = 0
    · rw [if_pos he, if_pos he]
      unfold moveT
      rw [if_neg (by simp), Nat.add_assoc]
    · rw [if_neg he, if_neg he]
      unfold moveT
      rw [if_pos he, Nat.add_assoc]
  rw [if_neg h1, if_neg h1]
  by_cases h2 : k = 78
  · rw [if_pos h2, if_pos h2]
    by_cases he : (numF (sub s a)).2 = 0
    · rw [if_pos he, if_pos he]
      unfold moveT
      rw [if_neg (by simp), Nat.add_assoc]
    · rw [if_neg he, if_neg he]
      unfold moveT
      rw [if_pos he, Nat.add_assoc]
  rw [if_neg h2, if_neg h2]
  unfold wordV
  by_cases h3 : comN (wordF k) (sub s a) 0 = (wordF k).size
  · rw [if_pos h3, if_pos h3]
    unfold moveT
    rw [if_neg (by simp), Nat.add_assoc]
  rw [if_neg h3, if_neg h3]
  by_cases h4 : comN (wordF k) (sub s a) 0 = (sub s a).size
  · rw [if_pos h4, if_pos h4]
    unfold moveT
    rw [if_pos (by simp), Nat.add_assoc]
  · rw [if_neg h4, if_neg h4]
    unfold moveT
    rw [if_pos (by simp), Nat.add_assoc]
theorem app_nextF (b s : ByteArray) (p : Nat) : nextF (b ++ s) (b.size + p) = moveT b.size (nextF s p) := by
  unfold nextF
  rw [app_skip b s _ p (Nat.lt_succ_self _), app_byte_r, app_size]
  by_cases h : skipF s p = s.size
  · rw [if_pos (by omega), if_pos h]
    unfold moveT
    rw [if_neg (by simp)]
  · rw [if_neg (by omega), if_neg h]
    exact app_tokV b s _ _
include hb in
theorem app_next0 : nextF (b ++ s) 0 = moveT b.size (nextF s 0) := by
  rw [← app_nextF b s 0]
  unfold nextF
  rw [Nat.add_zero, skip_over hb (s := s) _ 0 (Nat.lt_succ_self _) (Nat.zero_le _)]
/-- What is yielded, further on. -/
def moveI (k : Nat) (x : Item) : Item := if x.2 ≠ 0 then ((x.1.1, x.1.2.1, k + x.1.2.2.1, x.1.2.2.2), x.2) else ((x.1.1, k + x.1.2.1, k + x.1.2.2.1, x.1.2.2.2), x.2)
theorem moveT_err (k : Nat) (r : Tok × Nat × Int) : (moveT k r).2.2 = r.2.2 ∧ (moveT k r).1.1 = r.1.1 ∧ (moveT k r).2.1 = k + r.2.1 := by
  unfold moveT; split <;> exact ⟨rfl, rfl, rfl⟩
theorem itemsGo_step (s t : ByteArray) (k n p q : Nat) (h : nextF t q = moveT k (nextF s p)) (hr : itemsGo t n (k + (nextF s p).2.1) = (itemsGo s n (nextF s p).2.1).map (moveI k)) :
    itemsGo t (n + 1) q = (itemsGo s (n + 1) p).map (moveI k) := by
  obtain ⟨m1, m2, m3⟩ := moveT_err k (nextF s p)
  simp only [itemsGo]
  rw [h, m1, m2, m3]
  by_cases h1 : (nextF s p).2.2 ≠ 0
  · rw [if_pos h1, if_pos h1]
    simp only [List.map_cons, List.map_nil]
    unfold moveI
    rw [if_pos h1]
  rw [if_neg h1, if_neg h1]
  by_cases h2 : (nextF s p).1.1 = 0
  · rw [if_pos h2, if_pos h2]; rfl
  · rw [if_neg h2, if_neg h2, hr]
    simp only [List.map_cons]
    congr 1
    unfold moveI moveT
    rw [if_neg h1, if_neg (by simp)]
theorem app_items (b s : ByteArray) (n : Nat) : ∀ p, itemsGo (b ++ s) n (b.size + p) = (itemsGo s n p).map (moveI b.size) := by
  induction n with
  | zero => intro p; rfl
  | succ n ih => intro p; exact itemsGo_step s (b ++ s) b.size n p _ (app_nextF b s p) (ih _)
theorem itemsGo_more (s : ByteArray) (n : Nat) : ∀ (n' p : Nat), s.size - p < n → s.size - p < n' → p ≤ s.size → itemsGo s n p = itemsGo s n' p := by
  induction n with
  | zero => intro n' p h; omega
  | succ n ih =>
    intro n' p h h' hp
    cases n' with
    | zero => omega
    | succ n' =>
      simp only [itemsGo]
      by_cases h1 : (nextF s p).2.2 ≠ 0
      · rw [if_pos h1, if_pos h1]
      rw [if_neg h1, if_neg h1]
      by_cases h2 : (nextF s p).1.1 = 0
      · rw [if_pos h2, if_pos h2]
      · rw [if_neg h2, if_neg h2]
        have hat := nextF_at s p hp
        have h3 := hat.2.2.1 (by omega) h2
        rw [ih n' _ (by omega) (by omega) hat.1]
include hb in
theorem items_move : items (b ++ s) = (items s).map (moveI b.size) := by
  unfold items
  rw [app_size]
  rw [itemsGo_step s (b ++ s) b.size (b.size + s.size) 0 0 (app_next0 hb) (app_items b s _ _)]
  congr 1
  exact itemsGo_more s _ _ 0 (by omega) (by omega) (Nat.zero_le _)
theorem itemErr_move (k : Nat) : ∀ l : List Item, itemErr (l.map (moveI k)) = (itemErr l).map fun r => (k + r.1, r.2)
  | [] => rfl
  | x :: t => by
    simp only [List.map_cons, itemErr]
    have h2 : (moveI k x).2 = x.2 := by unfold moveI; split <;> rfl
    have h3 : (moveI k x).1.2.2.1 = k + x.1.2.2.1 := by unfold moveI; split <;> rfl
    rw [h2, h3]
    by_cases h : x.2 ≠ 0
    · rw [if_pos h, if_pos h]; rfl
    · rw [if_neg h, if_neg h]; exact itemErr_move k t
include hb in
theorem list_move : lstF (b ++ s) = ((lstF s).1.map (moveI b.size), b.size + (lstF s).2.1, (lstF s).2.2) := by
  unfold lstF
  rw [items_move hb, itemErr_move, app_size]
  cases itemErr (items s) with
  | none => rfl
  | some r => rfl
end
theorem lst_errs (s : ByteArray) : ∀ x ∈ (lstF s).1, x.2 = 0 := by
  unfold lstF
  cases h : itemErr (items s) with
  | none => exact (items_chain s _ 0 (by omega) (Nat.zero_le _) h).2
  | some r => intro x hx; cases hx
end Go.Proofs.Ytlbokaekhjjabaa

/-
  TokenBlanks, walked.
-/
namespace Go.Proofs.Ytlbokaekhjjabaa
open Go.RowKit Go.Proofs.YtlbokaekhjjabaaW.PrintWords
set_option linter.unusedVariables false

theorem sp_0 (W : World) : (Instr.index 9 (.string ⟨#[32, 9, 10, 13]⟩) (.int .i64 0)).run Try.prog W = .ok (.int .u8 32) W := by kernel_rfl
theorem sp_1 (W : World) : (Instr.index 9 (.string ⟨#[32, 9, 10, 13]⟩) (.int .i64 1)).run Try.prog W = .ok (.int .u8 9) W := by kernel_rfl
theorem sp_2 (W : World) : (Instr.index 9 (.string ⟨#[32, 9, 10, 13]⟩) (.int .i64 2)).run Try.prog W = .ok (.int .u8 10) W := by kernel_rfl
theorem sp_3 (W : World) : (Instr.index 9 (.string ⟨#[32, 9, 10, 13]⟩) (.int .i64 3)).run Try.prog W = .ok (.int .u8 13) W := by kernel_rfl
theorem chain_mem (s : ByteArray) : ∀ (l : List Item) (p : Nat), Chain s p l → ∀ x ∈ l, x.1.2.1 ≤ s.size ∧ x.1.2.2.1 ≤ s.size
  | [], _, _, x, hx => by cases hx
  | y :: t, p, h, x, hx => by
    obtain ⟨h1, h2, h3, _, h5⟩ := h
    rcases List.mem_cons.mp hx with rfl | hx
    · omega
    · exact chain_mem s t _ h5 x hx
theorem lst_mem (s : ByteArray) (x : Item) (hx : x ∈ (lstF s).1) : x.1.2.1 ≤ s.size ∧ x.1.2.2.1 ≤ s.size := by
  rcases list_ways s with ⟨_, h, _⟩ | ⟨_, _, h, _⟩
  · rw [h] at hx; cases hx
  · exact chain_mem s _ 0 h x hx
theorem blank_snoc {b : ByteArray} (h : ∀ j, j < b.size → blankB (byteAt b j) = true) (c : Int) (hc : blankB (byteAt (strOfNums [c]) 0) = true) (j : Nat) (hj : j < (b ++ strOfNums [c]).size) : blankB (byteAt (b ++ strOfNums [c]) j) = true := by
  rw [app_size, strOfNums_size] at hj
  have hl : ([c] : List Int).length = 1 := rfl
  by_cases h1 : j < b.size
  · rw [app_byte_l b _ j h1]; exact h j h1
  · have e : j = b.size + 0 := by omega
    rw [e, app_byte_r]; exact hc
set_option maxHeartbeats 4000000 in
set_option maxRecDepth 100000 in
theorem blanks_law (s : ByteArray) (hs : s.size ≤ 1048576) (n : Int) (hn0 : 0 ≤ n) (hn1 : n ≤ 255) (w : World) : Calls Try.prog 19 #[.string s, .int .u8 n] w fun e w' => e = .returned (.bool true) ∧ Below w.heap.size w w' := by
  obtain ⟨k, hk⟩ : ∃ k : Nat, n.tmod 50 = k := ⟨(n.tmod 50).toNat, by rw [Int.toNat_of_nonneg]; exact Int.tmod_nonneg _ hn0⟩
  have hk50 : k < 50 := by have := Int.tmod_lt_of_pos n (show (0 : Int) < 50 by decide); omega
  have i0 := sp_0
  have i1 := sp_1
  have i2 := sp_2
  have i3 := sp_3
  go_enter Try.func19, Try.ntmps19
  go_wp2_with (fail)
  go_loopw [5, 7] (fun bv iv wr => ∃ (b : ByteArray) (i : Nat), bv = .string b ∧ iv = .int .i64 i ∧ i ≤ k ∧ b.size = i ∧ Hid (∀ j, j < b.size → blankB (byteAt b j) = true) ∧ Below w.heap.size w wr) (fun _ i _ => k - (intOf i).toNat)
  case atStart => exact ⟨⟨#[]⟩, 0, rfl, rfl, by omega, rfl, fun j h => absurd h (by show ¬ j < 0; omega), Below.refl _ _⟩
  case round =>
    obtain ⟨b, i, rfl, rfl, hik, hbi, hbl, hB⟩ := hrel
    by_cases hi : i < k
    · have g1 : decide (i < k) = true := decide_eq_true hi
      obtain ⟨j, hj⟩ : ∃ j, Int.tmod ((i : Int) + n) 4 = j := ⟨_, rfl⟩
      have hj0 : 0 ≤ j ∧ j < 4 := by rw [← hj]; exact ⟨Int.tmod_nonneg _ (by omega), Int.tmod_lt_of_pos _ (by decide)⟩
      have hc0 := conv_one wr 32
      have hc1 := conv_one wr 9
      have hc2 := conv_one wr 10
      have hc3 := conv_one wr 13
      have hcase : j = 0 ∨ j = 1 ∨ j = 2 ∨ j = 3 := by omega
      rcases hcase with rfl | rfl | rfl | rfl
      · have z1 : (9223372036854775807 < b.size + (strOfNums [32]).size) = False := eq_false (by rw [strOfNums_size]; simp; omega)
        have z2 : decide (b.size + (strOfNums [32]).size ≤ 9223372036854775807) = true := decide_eq_true (by rw [strOfNums_size]; simp; omega)
        have HBi := Lib.hid hbi
        clear hbi
        go_wp2_with (fail)
        go_roundw
        case rel => exact ⟨b ++ strOfNums [32], i + 1, rfl, rfl, by omega, by rw [app_size, strOfNums_size, HBi.out]; rfl, blank_snoc hbl.out 32 (by decide), hB.alloc hB.size _⟩
        case measure => simp [intOf]; omega
      · have z1 : (9223372036854775807 < b.size + (strOfNums [9]).size) = False := eq_false (by rw [strOfNums_size]; simp; omega)
        have z2 : decide (b.size + (strOfNums [9]).size ≤ 9223372036854775807) = true := decide_eq_true (by rw [strOfNums_size]; simp; omega)
        have HBi := Lib.hid hbi
        clear hbi
        go_wp2_with (fail)
        go_roundw
        case rel => exact ⟨b ++ strOfNums [9], i + 1, rfl, rfl, by omega, by rw [app_size, strOfNums_size, HBi.out]; rfl, blank_snoc hbl.out 9 (by decide), hB.alloc hB.size _⟩
        case measure => simp [intOf]; omega
      · have z1 : (9223372036854775807 < b.size + (strOfNums [10]).size) = False := eq_false (by rw [strOfNums_size]; simp; omega)
        have z2 : decide (b.size + (strOfNums [10]).size ≤ 9223372036854775807) = true := decide_eq_true (by rw [strOfNums_size]; simp; omega)
        have HBi := Lib.hid hbi
        clear hbi
        go_wp2_with (fail)
        go_roundw
        case rel => exact ⟨b ++ strOfNums [10], i + 1, rfl, rfl, by omega, by rw [app_size, strOfNums_size, HBi.out]; rfl, blank_snoc hbl.out 10 (by decide), hB.alloc hB.size _⟩
        case measure => simp [intOf]; omega
      · have z1 : (9223372036854775807 < b.size + (strOfNums [13]).size) = False := eq_false (by rw [strOfNums_size]; simp; omega)
        have z2 : decide (b.size + (strOfNums [13]).size ≤ 9223372036854775807) = true := decide_eq_true (by rw [strOfNums_size]; simp; omega)
        have HBi := Lib.hid hbi
        clear hbi
        go_wp2_with (fail)
        go_roundw
        case rel => exact ⟨b ++ strOfNums [13], i + 1, rfl, rfl, by omega, by rw [app_size, strOfNums_size, HBi.out]; rfl, blank_snoc hbl.out 13 (by decide), hB.alloc hB.size _⟩
        case measure => simp [intOf]; omega
    · have g1 : decide (i < k) = false := decide_eq_false hi
      have hik2 : i = k := by omega
      subst hik2
      have hmove := list_move hbl.out (s := s)
      rw [hbi] at hmove
      obtain ⟨L, m, er, hf⟩ : ∃ L m er, lstF s = (L, m, er) := ⟨_, _, _, rfl⟩
      have herr := lst_errs s
      have hLn : L.length ≤ 1048577 := by
        have hw := list_ways s
        rw [hf] at hw
        rcases hw with ⟨_, h2, _⟩ | ⟨_, _, _, h4⟩
        · have : L = [] := h2
          rw [this]; simp
        · have h5 := itemsGo_len s (s.size + 1) 0
          have h6 : L = itemsGo s (s.size + 1) 0 := congrArg Prod.fst h4
          rw [← h6] at h5
          omega
      have hmm : m ≤ 1048576 := by
        have hw := list_ways s
        rw [hf] at hw
        rcases hw with ⟨_, _, h3⟩ | ⟨_, h2, _, _⟩
        · have : m ≤ s.size := h3
          omega
        · have : m = s.size := h2
          omega
      rw [hf] at hmove herr
      dsimp only at hmove herr
      obtain ⟨u, hu⟩ : ∃ u, b ++ s = u := ⟨_, rfl⟩
      have husz : u.size ≤ 1099511627776 := by rw [← hu, app_size]; omega
      have hA := list_any s (by omega)
      have hC := list_any u husz
      rw [hu] at hmove
      unfold ListIs at hA hC
      rw [hf] at hA
      rw [hmove] at hC
      dsimp only at hA hC
      have z1 : (9223372036854775807 < b.size + s.size) = False := eq_false (by omega)
      have z2 : decide (b.size + s.size ≤ 9223372036854775807) = true := decide_eq_true (by omega)
      have HF := Lib.hid hf
      have HM := Lib.hid hmove
      have HBi := Lib.hid hbi
      clear hf hmove husz hbi
      go_wp2_with (fail)
      refine (hA _).mono ?_
      rintro e1 w1 ⟨v1, rfl, hrow1, hnil1, hb1⟩
      go_wp2_with (fail)
      refine (hC _).mono ?_
      rintro e2 w2 ⟨v2, rfl, hrow2, hnil2, hb2⟩
      have hrow1' := own_below hrow1 hb2
      have hB2 : Below w.heap.size w w2 := (hB.trans (hb1.mono hB.size)).trans (hb2.mono (by have := hB.size; have := hb1.size; omega))
      obtain ⟨a1, c1, hv1⟩ := own_slice hrow1
      subst hv1
      rw [List.length_map] at hrow2
      obtain ⟨a2, c2, hv2⟩ := own_slice hrow2
      subst hv2
      have hw : IntKind.i64.wrap ((m : Int) + (i : Int)) = (m : Int) + (i : Int) := by rw [IntKind.wrap_i64]; omega
      have nq : ((i : Int) + (m : Int) != (m : Int) + (i : Int)) = false := by simp; omega
      have HN1 := Lib.hid hnil1
      have HN2 := Lib.hid hnil2
      have HER := Lib.hid herr
      clear hnil1 hnil2 herr hrow1 hb1 hb2 hB hA hC
      go_wp2_with (fail)
      obtain ⟨E0, O1⟩ : ∃ B, w2.ownsRow B 60 4 (.slice a1 L.length c1) L.length (rowsOf L) := ⟨_, hrow1'⟩
      obtain ⟨E1, O2⟩ : ∃ B, w2.ownsRow B 60 4 (.slice a2 L.length c2) L.length (rowsOf (L.map (moveI i))) := ⟨_, hrow2⟩
      clear hrow1' hrow2
      go_loopw [14] (fun jv wr' => ∃ j : Nat, jv = .int .i64 j ∧ j ≤ L.length ∧ wr'.ownsRow E0 60 4 (.slice a1 L.length c1) L.length (rowsOf L) ∧ wr'.ownsRow E1 60 4 (.slice a2 L.length c2) L.length (rowsOf (L.map (moveI i))) ∧ Below w.heap.size w wr') (fun j _ => L.length - (intOf j).toNat)
      case atStart => exact ⟨0, rfl, Nat.zero_le _, O1, O2, hB2⟩
      case round =>
        obtain ⟨j, rfl, hj, o1, o2, hB3⟩ := hrel
        clear O1 O2 hB2
        by_cases hjl : j < L.length
        · have g2 : decide (j < L.length) = true := decide_eq_true hjl
          obtain ⟨x, hx⟩ : ∃ x, L[j]? = some x := ⟨_, List.getElem?_eq_getElem hjl⟩
          have hxm := List.mem_of_getElem? hx
          have hx0 := HER.out x hxm
          have hxs := lst_mem s x (by rw [HF.out]; exact hxm)
          have hmx : (L.map (moveI i))[j]? = some (moveI i x) := by rw [List.getElem?_map, hx]; rfl
          have hmv : moveI i x = ((x.1.1, i + x.1.2.1, i + x.1.2.2.1, x.1.2.2.2), x.2) := by unfold moveI; rw [if_neg (by rw [hx0]; simp)]
          rw [hmv] at hmx
          obtain ⟨g1', rfl⟩ := own_addr o1 hjl
          obtain ⟨g2', rfl⟩ := own_addr o2 hjl
          have k1 : ∀ c, c < 4 → wr.cell? ⟨g1', j * 4 + c, none⟩ = (tokCells x.1)[c]? := fun c hc => (o1.cellAt _ (by omega)).trans (rows_get L j x hx c hc)
          have k2 : ∀ c, c < 4 → wr.cell? ⟨g2', j * 4 + c, none⟩ = (tokCells (x.1.1, i + x.1.2.1, i + x.1.2.2.1, x.1.2.2.2))[c]? := fun c hc => (o2.cellAt _ (by omega)).trans (rows_get _ j _ hmx c hc)
          obtain ⟨⟨tk, tf, tt, tx⟩, xe⟩ := x
          dsimp only at k1 k2 hxs
          have p0 : wr.cell? ⟨g1', j * 4, none⟩ = some (.int .u8 tk) := (k1 0 (by omega)).trans rfl
          have p1 : wr.cell? ⟨g1', j * 4 + 1, none⟩ = some (.int .i64 tf) := (k1 1 (by omega)).trans rfl
          have p2 : wr.cell? ⟨g1', j * 4 + 2, none⟩ = some (.int .i64 tt) := (k1 2 (by omega)).trans rfl
          have p3 : wr.cell? ⟨g1', j * 4 + 3, none⟩ = some (.string tx) := (k1 3 (by omega)).trans rfl
          have q0 : wr.cell? ⟨g2', j * 4, none⟩ = some (.int .u8 tk) := (k2 0 (by omega)).trans rfl
          have q1 : wr.cell? ⟨g2', j * 4 + 1, none⟩ = some (.int .i64 ((i : Int) + (tf : Int))) := (k2 1 (by omega)).trans rfl
          have q2 : wr.cell? ⟨g2', j * 4 + 2, none⟩ = some (.int .i64 ((i : Int) + (tt : Int))) := (k2 2 (by omega)).trans rfl
          have q3 : wr.cell? ⟨g2', j * 4 + 3, none⟩ = some (.string tx) := (k2 3 (by omega)).trans rfl
          have hw1 : IntKind.i64.wrap ((tf : Int) + (i : Int)) = (tf : Int) + (i : Int) := by rw [IntKind.wrap_i64]; omega
          have hw2 : IntKind.i64.wrap ((tt : Int) + (i : Int)) = (tt : Int) + (i : Int) := by rw [IntKind.wrap_i64]; omega
          have n1 : ((i : Int) + (tf : Int) != (tf : Int) + (i : Int)) = false := by simp; omega
          have n2 : ((i : Int) + (tt : Int) != (tt : Int) + (i : Int)) = false := by simp; omega
          clear k1 k2 hx hxm hx0 hmx hmv hxs
          go_wp2_with (fail)
          go_quiet (fail)
          go_wp2_with (fail)
          go_roundw
          case rel => exact ⟨j + 1, rfl, by omega, o1, o2, pw_below_drewN hB3 _⟩
          case measure => simp [intOf]; omega
        · have g2 : decide (j < L.length) = false := decide_eq_false hjl
          go_wp2_with (fail)
          refine (awake14 _).mono ?_
          rintro e4 w4 ⟨rfl, hb4⟩
          go_wp2_with (fail)
          go_ret
          exact ⟨rfl, hB3.trans (hb4.mono hB3.size)⟩
theorem blanks_upto (s : ByteArray) (n : Int) (w : World) (hs : s.size ≤ 1048576) (hn : 0 ≤ n ∧ n ≤ 255) : Calls Try.prog 19 #[.string s, .int .u8 n] w fun e w' => e = .returned (.bool true) ∧ Below w.heap.size w w' := blanks_law s hs n hn.1 hn.2 w
end Go.Proofs.Ytlbokaekhjjabaa

/-
  The row of TokenBlanksUptoSaid: over the walk and the plain law.
-/
namespace Go.Proofs.Ytlbokaekhjjabaa.tokenBlanksUpto
open Go.ChangeShapes Go.WideShapes Go.ChangeAt Go.RowKit
open Go.ChangeMaps (open_string shut_string)
set_option linter.unusedVariables false
theorem own : ownKnob Try.prog.godebug = none := by kernel_rfl
theorem bulk_string {H : Type} (bytes : List UInt8) : Rows.uptoBulk (DataW.lit (H := H) (.string bytes)) = bytes.length + 1 := by simp [Rows.uptoBulk]
set_option maxRecDepth 100000 in
theorem contract (H : Type) (enc : TypeId × Value → H) (W : World) (base : Nat) (args : Array Value) (ds gs : List (DataW H)) (before : List MemPlace)
    (hval : ∀ (j : Nat) t v, Try.f19.params[j]? = some t → args[j]? = some v → Value.okWide Try.prog W .any base t v)
    (hW : DataW.Whole enc Try.prog Try.f19.params.toList Rows.tokenBlanksSpec.vars false W args.toList ds gs before) (hk : Rows.uptoSmall H (ds ++ gs) = true) :
    Calls Try.prog 19 args W fun e W' => ∃ v, e = .returned v ∧ Rows.tokenBlanksSpec.post enc Try.prog Try.f19 false true false false W args v W' := by
  have hW' := hW
  obtain ⟨p, q, hA0, hV, rfl, hfz, hnd⟩ := hW
  have hA : DataW.TrodAll enc Try.prog W 0 (fun _ => true) true Try.f19.params.toList args.toList ds p := hA0
  rw [Try.params19] at hA hval
  obtain ⟨v0, vs0, d0, ds0, p0, q0, hargs, rfl, rfl, h0, r0⟩ := trodAll_cons hA
  obtain ⟨v1, vs1, d1, ds1, p1, q1, rfl, rfl, rfl, h1, r1⟩ := trodAll_cons r0
  obtain ⟨rfl, rfl, rfl⟩ := trodAll_nil r1
  obtain rfl : args = #[v0, v1] := by cases args; simp_all
  obtain ⟨rfl, rfl⟩ := trodVars_none hV
  obtain ⟨a0, rfl, rfl, rfl, y0⟩ := open_string Try.underlying9 (hval 0 9 v0 rfl rfl) h0
  obtain ⟨a1, rfl, rfl, rfl, w1⟩ := open_int Try.underlying5 (hval 1 5 v1 rfl rfl) h1
  have hb := of_decide_eq_true hk
  simp only [List.cons_append, List.nil_append, Rows.uptoBulkAll, bulk_string] at hb
  have w0 : a0.size ≤ 1048576 := by
    have hl : a0.data.toList.length = a0.size := by rw [Array.length_toList]; rfl
    omega
  clear hA0 hval hk hb
  refine (blanks_upto a0 a1 W w0 (show IntKind.u8.min ≤ a1 ∧ a1 ≤ IntKind.u8.max by simpa [Lit.wf] using w1)).mono fun e W' ⟨he, bel⟩ => ?_
  subst he
  exact ⟨_, rfl, _, _, _, [], _, [], hW', trodAll_mk1 (shut_bool Try.underlying4 _), (trodAll_cons_mk (shut_string Try.underlying9 y0) (trodAll_cons_mk (shut_int Try.underlying5 w1) trodAll_mk0)), rfl, bel.frame _, fun h => by cases h⟩
set_option maxRecDepth 100000 in
theorem lifted (os : Os) (started : os.Started) (H : Type) (enc : TypeId × Value → H) (F : Stop.Interp) :
    ReturnsInHanded {} Try.checked os 19 .any ((Rows.OpenSpec.upto Rows.tokenBlanksSpec).pre6 enc Try.prog Try.f19 Rows.tokenBlanksUptoRow.domain false) (((Rows.OpenSpec.upto Rows.tokenBlanksSpec).at F).post enc Try.prog Try.f19 false true false false) := by
  refine returnsInHanded_of_cond (C := Try.checked) (s := Rows.OpenSpec.upto Rows.tokenBlanksSpec) (k := Rows.uptoSmall) rfl own started (by kernel_rfl) Try.func19
    (OpenSpec.witness (enc := enc) (C := Try.checked) (s := Rows.OpenSpec.upto Rows.tokenBlanksSpec) (k := Rows.uptoSmall) rfl false ⟨#[], #[.string ByteArray.empty, .int .u8 0], []⟩ 8 (by kernel_rfl) (by kernel_rfl) (by kernel_rfl)
      (x := ([.lit (.string []), .lit (.int .u8 0)], [], [])) (by kernel_rfl) rfl (by kernel_rfl)) ?_
  intro W base args ds gs before hval hW _ hk _
  exact contract H enc W base args ds gs before hval hW hk
theorem over : Rows.tokenBlanksUptoRow.holds Try.pinned (Rows.OpenSpec.upto Rows.tokenBlanksSpec) :=
  OpenClaim.holds_of_cond 19 Try.f19 rfl rfl rfl rfl rfl rfl rfl ⟨rfl, rfl, rfl, rfl, rfl⟩ rfl rfl rfl rfl rfl (by kernel_rfl) Try.func19 (by kernel_rfl)
    (of_decide_eq_true (by kernel_rfl)) (by unfold Func.isWrapper; first | (rw [if_pos (by decide +kernel)]; kernel_rfl) | (rw [if_neg (by decide +kernel)]; exact ⟨rfl, rfl⟩))
    (fun os started H enc _ F => lifted os started H enc F)
theorem proved : Rows.TokenBlanksUptoSaid := over
#print axioms proved
end Go.Proofs.Ytlbokaekhjjabaa.tokenBlanksUpto
namespace Go.Proofs.Ytlbokaekhjjabaa
theorem tokenBlanksUpto_holds : Rows.TokenBlanksUptoSaid := tokenBlanksUpto.proved
end Go.Proofs.Ytlbokaekhjjabaa
