/-
  The walk of utf.Point: what it computes is 'pt'.
-/
import Derived.Test.YtlbokaekhjjabaaChk
import Derived.Deep.QuietTactic
import Derived.BigQuiet
import Derived.Laws.BitsLemmas
namespace Go.Proofs.Ytlbokaekhjjabaa
open Go.RowKit Go.Proofs.YtlbokaekhjjabaaW.PrintWords Go.Proofs.YtlbokaekhjjabaaW.PrintLast Go.Proofs.YtlbokaekhjjabaaW.PrintMore

/-- What a byte adds to a code point of n bytes. -/
def vst (n i c acc : Int) : Int := if n = 1 then c else if i = 0 then (if n = 2 then c % 32 else if n = 3 then c % 16 else c % 8) else acc * 64 + c % 64
/-- The bytes of a code point of n, one behind the other. -/
def ptGo (n : Int) : List UInt8 → Int → St → Int → Int × Int
  | [], i, _, acc => if i < n then (0, 0) else (acc, n)
  | c :: t, i, st, acc => if i < n then (match stp st c.toNat (-1) with
    | none => (0, 0)
    | some st' => ptGo n t (i + 1) st' (vst n i c.toNat acc)) else (acc, n)
/-- The first code point, and how many bytes it has. -/
def ptL : List UInt8 → Int × Int
  | [] => (0, 0)
  | c :: t => if (rowOf leadRows c.toNat).2.2.1 = 0 ∨ (rowOf leadRows c.toNat).2.2.1 > ((c :: t).length : Int) then (0, 0) else ptGo (rowOf leadRows c.toNat).2.2.1 (c :: t) 0 st0 0
def pt (s : ByteArray) : Int × Int := ptL s.data.toList

theorem pt_some (s : ByteArray) (h : 0 < s.size) : pt s = if (rowOf leadRows s[0].toNat).2.2.1 = 0 ∨ (rowOf leadRows s[0].toNat).2.2.1 > (s.size : Int) then (0, 0) else ptGo (rowOf leadRows s[0].toNat).2.2.1 s.data.toList 0 st0 0 := by
  have h0 := data_drop s 0 h
  rw [List.drop_zero] at h0
  obtain ⟨t, ht⟩ : ∃ t, s.data.toList = s[0] :: t := ⟨_, h0⟩
  have hl : ((s[0] :: t).length : Int) = s.size := by rw [← ht]; simp
  unfold pt
  rw [ht]
  simp only [ptL, hl]

set_option maxHeartbeats 1000000 in
set_option maxRecDepth 100000 in
theorem point_nil (s : ByteArray) (w : World) (h : s.size = 0) :
    Calls Try.prog 26 #[.string s] w (Pair (pt s) w) := by
  have h0 : s.data.toList = [] := List.eq_nil_of_length_eq_zero (by simpa using h)
  have h1 : s.toList = [] := by rw [ByteArray.toList_eq, h0]
  have hp : pt s = (0, 0) := by unfold pt; rw [h0]; rfl
  have HP := Lib.hid hp
  clear hp h0
  go_enter Try.func26, Try.ntmps26
  go_wp2
  go_ret2
  exact ⟨by rw [HP.out]; rfl, Below.refl _ _⟩

theorem ne_nil (s : ByteArray) (h : 0 < s.size) : s.toList.isEmpty = false ∧ s.toList ≠ [] := by
  have : s.toList ≠ [] := by
    rw [ByteArray.toList_eq]
    intro e
    have h1 : s.data.toList.length = 0 := by rw [e]; rfl
    have h2 := data_length s
    omega
  exact ⟨by cases hl : s.toList with | nil => exact absurd hl this | cons _ _ => rfl, this⟩

set_option maxHeartbeats 1000000 in
set_option maxRecDepth 100000 in
theorem point_none (s : ByteArray) (w : World) (h : 0 < s.size) (hn : (rowOf leadRows s[0].toNat).2.2.1 = 0) :
    Calls Try.prog 26 #[.string s] w (Pair (pt s) w) := by
  obtain ⟨hne, hne2⟩ := ne_nil s h
  have hp : pt s = (0, 0) := by rw [pt_some s h, if_pos (.inl hn)]
  obtain ⟨q1, q2, n, q3, q4, hr⟩ : ∃ q1 q2 n q3 q4, rowOf leadRows s[0].toNat = (q1, q2, n, q3, q4) := ⟨_, _, _, _, _, rfl⟩
  rw [hr] at hn
  obtain rfl : n = 0 := hn
  have HR := Lib.hid hr
  have HP := Lib.hid hp
  clear hr hp
  go_enter Try.func26, Try.ntmps26
  go_wp2_with (go_at_call 47; refine (row_any s[0].toNat _).mono ?_; rintro e w1 ⟨rfl, hb1⟩; rw [HR.out]; unfold aggOf; dsimp only)
  go_ret2
  exact ⟨by rw [HP.out]; rfl, hb1.alloc hb1.size _⟩

set_option maxHeartbeats 1000000 in
set_option maxRecDepth 100000 in
theorem point_short (s : ByteArray) (w : World) (h : 0 < s.size) (hn : ¬ (rowOf leadRows s[0].toNat).2.2.1 = 0) (hl : (s.size : Int) < (rowOf leadRows s[0].toNat).2.2.1) :
    Calls Try.prog 26 #[.string s] w (Pair (pt s) w) := by
  obtain ⟨hne, hne2⟩ := ne_nil s h
  have hp : pt s = (0, 0) := by rw [pt_some s h, if_pos (.inr hl)]
  obtain ⟨q1, q2, n, q3, q4, hr⟩ : ∃ q1 q2 n q3 q4, rowOf leadRows s[0].toNat = (q1, q2, n, q3, q4) := ⟨_, _, _, _, _, rfl⟩
  rw [hr] at hn hl
  dsimp only at hn hl
  have hn' : (n == 0) = false := by simpa using hn
  have HR := Lib.hid hr
  have HP := Lib.hid hp
  clear hr hp
  go_enter Try.func26, Try.ntmps26
  go_wp2_with (go_at_call 47; refine (row_any s[0].toNat _).mono ?_; rintro e w1 ⟨rfl, hb1⟩; rw [HR.out]; unfold aggOf; dsimp only)
  go_ret2
  exact ⟨by rw [HP.out]; rfl, hb1.alloc hb1.size _⟩

theorem wraps_i64 (n : Int) (h₀ : 0 ≤ n) (h₁ : n < 2 ^ 62) : IntKind.i64.wrap n = n := by rw [IntKind.wrap_i64]; omega
theorem and63 (x : Int) (h₀ : 0 ≤ x) (h₁ : x < 256) : bits .and .i64 x 63 = x % 64 := bits_mask .i64 62 (by decide) wraps_i64 6 (by decide) x h₀ (by omega)
theorem or6 (x y : Int) (hx₀ : 0 ≤ x) (hx : x % 64 = 0) (hx₁ : x < 4294967296) (h₀ : 0 ≤ y) (h₁ : y < 64) : bits .or .i64 x y = x + y :=
  bits_join .i64 62 (by decide) wraps_i64 6 x y hx₀ hx (by omega) h₀ h₁ (by omega)

theorem Turned.other {W W1 : World} {g o : Nat} {st : St} (ht : Turned g o st W W1) {b j : Nat} {v : Value} (hne : b ≠ g) (h : W.cell? ⟨b, j, none⟩ = some v) : W1.cell? ⟨b, j, none⟩ = some v := by
  obtain ⟨w1, hb, rfl⟩ := ht
  have hno : ∀ q, (⟨g, q, none⟩ : Addr) ≠ ⟨b, j, none⟩ := fun q e => hne (congrArg Addr.block e).symm
  rw [World.cell?_setCell_other _ _ _ _ (hno _), World.cell?_setCell_other _ _ _ _ (hno _), World.cell?_setCell_other _ _ _ _ (hno _)]
  exact (hb.cell (block_lt_of_cell h)).trans h

set_option maxHeartbeats 1000000 in
set_option maxRecDepth 100000 in
theorem point_1 (s : ByteArray) (w : World) (h : 1 ≤ s.size) (hs : s.size ≤ 9223372036854775807) (hn : (rowOf leadRows (s[0]'(by omega)).toNat).2.2.1 = 1) :
    Calls Try.prog 26 #[.string s] w (Pair (pt s) w) := by
  have hz : 0 < s.size := by omega
  obtain ⟨hne, hne2⟩ := ne_nil s hz
  have hp : pt s = ptGo 1 s.data.toList 0 st0 0 := by rw [pt_some s hz, hn, if_neg (by omega)]
  obtain ⟨q1, q2, n, q3, q4, hr⟩ : ∃ q1 q2 n q3 q4, rowOf leadRows s[0].toNat = (q1, q2, n, q3, q4) := ⟨_, _, _, _, _, rfl⟩
  rw [hr] at hn
  obtain rfl : n = 1 := hn
  have HR := Lib.hid hr
  have HP := Lib.hid hp
  clear hr hp
  go_enter Try.func26, Try.ntmps26
  go_wp2_with (go_at_call 47; refine (row_any s[0].toNat _).mono ?_; rintro e w1 ⟨rfl, hb1⟩; rw [HR.out]; unfold aggOf; dsimp only)
  go_loopw [25, 6] (fun i a wr => ∃ (k : Nat) (st : St) (acc : Int), k ≤ 1 ∧ i = .int .i64 k ∧ a = .int .i64 acc ∧ Hid (pt s = ptGo 1 (s.data.toList.drop k) k st acc) ∧ (0 ≤ st.1 ∧ st.1 ≤ 3) ∧ (0 ≤ acc ∧ acc < 32 * 64 ^ k) ∧ Holds wr (w1.heap.size + 1) st ∧ wr.cell? ⟨w1.heap.size, 2, none⟩ = some (.int .i64 1) ∧ Below w.heap.size w wr) (fun i _ _ => 1 - (intOf i).toNat)
  case atStart => exact ⟨0, st0, 0, by omega, rfl, rfl, HP, by decide, by omega, by have := heap_alloc_new (w1.alloc (.cells #[.int .u8 q1, .int .u8 q2, .int .i64 1, .int .u8 q3, .int .u8 q4] 77)) (.cells #[.int .i64 0, .int .u8 0, .int .u8 0] 31); rw [World.size_alloc] at this; exact this, by go_simp, (hb1.alloc hb1.size _).alloc (by have := hb1.size; simp; omega) _⟩
  case round =>
    obtain ⟨k, st, acc, hk, rfl, rfl, hc, h0, ha, hI, hcn, hb⟩ := hrel
    by_cases hlt : k < 1
    · have hlt' : k < s.size := by omega
      have hd := Lib.hid (data_drop s k hlt')
      cases hst : stp st s[k].toNat (-1) with
      | none =>
        have hf : Hid (pt s = (0, 0)) := by
          show pt s = _
          rw [hc.out, hd.out]; simp only [ptGo, hst]; rw [if_pos (by omega)]
        have HS := Lib.hid hst
        clear hst
        go_wp2_with (go_at_call 45; refine (step_no (w1.heap.size + 1) 0 st s[k].toNat (-1) _ hI.c0 hI.c1 hI.c2 HS.out).mono ?_; rintro e w' ⟨rfl, hb'⟩)
        go_ret2
        exact ⟨by rw [hf.out]; rfl, hb.trans (hb'.mono hb.size)⟩
      | some st' =>
        have hf : Hid (pt s = ptGo 1 (s.data.toList.drop (k + 1)) ((k + 1 : Nat) : Int) st' (vst 1 k s[k].toNat acc)) := by
          show pt s = _
          rw [hc.out, hd.out]; simp only [ptGo, hst]; rw [if_pos (by omega)]; rfl
        have h0' := stp_left hst h0
        have HS := Lib.hid hst
        clear hst
        have hu := s[k].toNat_lt
        have hu0 := s[0].toNat_lt
        have hv : Hid (vst 1 k s[k].toNat acc = s[0].toNat) := by
          obtain rfl : k = 0 := by omega
          show vst 1 _ _ _ = _
          simp [vst]
        have hbd : Hid (0 ≤ vst 1 k s[k].toNat acc ∧ vst 1 k s[k].toNat acc < 32 * 64 ^ (k + 1)) := by
          show 0 ≤ _ ∧ _ < _
          rw [hv.out]
          obtain rfl : k = 0 := by omega
          omega
        go_wp2_with (go_at_call 45; refine (step_ok (w1.heap.size + 1) 0 st st' s[k].toNat (-1) _ h0 hI.c0 hI.c1 hI.c2 (hI.fz _) (hI.fz _) (hI.fz _) HS.out).mono ?_; rintro e w' ⟨rfl, hb'⟩; have hcn' := hb'.other (by simp) hcn)
        go_roundw
        case rel => exact ⟨k + 1, st', vst 1 k s[k].toNat acc, by omega, by go_num, by rw [hv.out], hf, h0', hbd.out, hI.turned hb', hcn', hb'.below (by have := hb1.size; omega) hb.size hb⟩
        case measure => simp [intOf]; omega
    · obtain rfl : k = 1 := by omega
      have hf : Hid (pt s = (acc, 1)) := by
        show pt s = _
        rw [hc.out]
        cases hl : s.data.toList.drop 1 <;> (simp only [ptGo]; rw [if_neg (by omega)])
      clear hc
      go_wp2
      go_quiet (fail)
      go_wp2
      go_ret2
      exact ⟨by rw [hf.out]; rfl, pw_below_drewN hb _⟩

set_option maxHeartbeats 1000000 in
set_option maxRecDepth 100000 in
theorem point_2 (s : ByteArray) (w : World) (h : 2 ≤ s.size) (hs : s.size ≤ 9223372036854775807) (hn : (rowOf leadRows (s[0]'(by omega)).toNat).2.2.1 = 2) :
    Calls Try.prog 26 #[.string s] w (Pair (pt s) w) := by
  have hz : 0 < s.size := by omega
  obtain ⟨hne, hne2⟩ := ne_nil s hz
  have hp : pt s = ptGo 2 s.data.toList 0 st0 0 := by rw [pt_some s hz, hn, if_neg (by omega)]
  obtain ⟨q1, q2, n, q3, q4, hr⟩ : ∃ q1 q2 n q3 q4, rowOf leadRows s[0].toNat = (q1, q2, n, q3, q4) := ⟨_, _, _, _, _, rfl⟩
  rw [hr] at hn
  obtain rfl : n = 2 := hn
  have HR := Lib.hid hr
  have HP := Lib.hid hp
  clear hr hp
  go_enter Try.func26, Try.ntmps26
  go_wp2_with (go_at_call 47; refine (row_any s[0].toNat _).mono ?_; rintro e w1 ⟨rfl, hb1⟩; rw [HR.out]; unfold aggOf; dsimp only)
  go_loopw [25, 6] (fun i a wr => ∃ (k : Nat) (st : St) (acc : Int), k ≤ 2 ∧ i = .int .i64 k ∧ a = .int .i64 acc ∧ Hid (pt s = ptGo 2 (s.data.toList.drop k) k st acc) ∧ (0 ≤ st.1 ∧ st.1 ≤ 3) ∧ (0 ≤ acc ∧ acc < 32 * 64 ^ k) ∧ Holds wr (w1.heap.size + 1) st ∧ wr.cell? ⟨w1.heap.size, 2, none⟩ = some (.int .i64 2) ∧ Below w.heap.size w wr) (fun i _ _ => 2 - (intOf i).toNat)
  case atStart => exact ⟨0, st0, 0, by omega, rfl, rfl, HP, by decide, by omega, by have := heap_alloc_new (w1.alloc (.cells #[.int .u8 q1, .int .u8 q2, .int .i64 2, .int .u8 q3, .int .u8 q4] 77)) (.cells #[.int .i64 0, .int .u8 0, .int .u8 0] 31); rw [World.size_alloc] at this; exact this, by go_simp, (hb1.alloc hb1.size _).alloc (by have := hb1.size; simp; omega) _⟩
  case round =>
    obtain ⟨k, st, acc, hk, rfl, rfl, hc, h0, ha, hI, hcn, hb⟩ := hrel
    by_cases hlt : k < 2
    · have hlt' : k < s.size := by omega
      have hd := Lib.hid (data_drop s k hlt')
      cases hst : stp st s[k].toNat (-1) with
      | none =>
        have hf : Hid (pt s = (0, 0)) := by
          show pt s = _
          rw [hc.out, hd.out]; simp only [ptGo, hst]; rw [if_pos (by omega)]
        have HS := Lib.hid hst
        clear hst
        go_wp2_with (go_at_call 45; refine (step_no (w1.heap.size + 1) 0 st s[k].toNat (-1) _ hI.c0 hI.c1 hI.c2 HS.out).mono ?_; rintro e w' ⟨rfl, hb'⟩)
        go_ret2
        exact ⟨by rw [hf.out]; rfl, hb.trans (hb'.mono hb.size)⟩
      | some st' =>
        have hf : Hid (pt s = ptGo 2 (s.data.toList.drop (k + 1)) ((k + 1 : Nat) : Int) st' (vst 2 k s[k].toNat acc)) := by
          show pt s = _
          rw [hc.out, hd.out]; simp only [ptGo, hst]; rw [if_pos (by omega)]; rfl
        have h0' := stp_left hst h0
        have HS := Lib.hid hst
        clear hst
        have hu := s[k].toNat_lt
        by_cases hk0 : k = 0
        · have hk1 : k < 1 := by omega
          clear hk0
          have hu0 := s[0].toNat_lt
          have b1 : bits .and .i64 (s[0].toNat : Int) 31 = (s[0].toNat : Int) % 32 := bits_mask .i64 62 (by decide) wraps_i64 5 (by decide) _ (by omega) (by omega)
          have hv : Hid (vst 2 k s[k].toNat acc = (s[0].toNat : Int) % 32) := by
            obtain rfl : k = 0 := by omega
            show vst 2 _ _ _ = _
            simp [vst]
          have hbd : Hid (0 ≤ vst 2 k s[k].toNat acc ∧ vst 2 k s[k].toNat acc < 32 * 64 ^ (k + 1)) := by
            show 0 ≤ _ ∧ _ < _
            rw [hv.out]
            obtain rfl : k = 0 := by omega
            omega
          go_wp2_with (go_at_call 45; refine (step_ok (w1.heap.size + 1) 0 st st' s[k].toNat (-1) _ h0 hI.c0 hI.c1 hI.c2 (hI.fz _) (hI.fz _) (hI.fz _) HS.out).mono ?_; rintro e w' ⟨rfl, hb'⟩; have hcn' := hb'.other (by simp) hcn)
          go_quiet (fail)
          go_wp2
          go_roundw
          case rel => exact ⟨k + 1, st', vst 2 k s[k].toNat acc, by omega, by go_num, by rw [hv.out], hf, h0', hbd.out, (show Holds w' (w1.heap.size + 1) st' from hI.turned hb'), hcn', pw_below_drewN (hb'.below (by have := hb1.size; omega) hb.size hb) _⟩
          case measure => simp [intOf]; omega
        · have hpw : (64 : Int) ^ k ≤ 64 ^ 3 := by exact_mod_cast Nat.pow_le_pow_right (n := 64) (by decide) (by omega : k ≤ 3)
          have hacc : acc < 8388608 := by omega
          have b1 : bits .and .i64 (s[k].toNat : Int) 63 = (s[k].toNat : Int) % 64 := and63 _ (by omega) (by omega)
          have b2 : bits .or .i64 (acc * 64) ((s[k].toNat : Int) % 64) = acc * 64 + (s[k].toNat : Int) % 64 := or6 _ _ (by omega) (by omega) (by omega) (by omega) (by omega)
          have ha1 := ha.1
          have hv : Hid (vst 2 k s[k].toNat acc = acc * 64 + (s[k].toNat : Int) % 64) := by
            show vst 2 _ _ _ = _
            unfold vst
            rw [if_neg (by decide), if_neg (by omega)]
          have hbd : Hid (0 ≤ vst 2 k s[k].toNat acc ∧ vst 2 k s[k].toNat acc < 32 * 64 ^ (k + 1)) := by
            show 0 ≤ _ ∧ _ < _
            rw [hv.out, Int.pow_succ]
            omega
          go_wp2_with (go_at_call 45; refine (step_ok (w1.heap.size + 1) 0 st st' s[k].toNat (-1) _ h0 hI.c0 hI.c1 hI.c2 (hI.fz _) (hI.fz _) (hI.fz _) HS.out).mono ?_; rintro e w' ⟨rfl, hb'⟩; have hcn' := hb'.other (by simp) hcn)
          go_roundw
          case rel => exact ⟨k + 1, st', vst 2 k s[k].toNat acc, by omega, by go_num, by rw [hv.out], hf, h0', hbd.out, hI.turned hb', hcn', hb'.below (by have := hb1.size; omega) hb.size hb⟩
          case measure => simp [intOf]; omega
    · obtain rfl : k = 2 := by omega
      have hf : Hid (pt s = (acc, 2)) := by
        show pt s = _
        rw [hc.out]
        cases hl : s.data.toList.drop 2 <;> (simp only [ptGo]; rw [if_neg (by omega)])
      clear hc
      go_wp2
      go_quiet (fail)
      go_wp2
      go_ret2
      exact ⟨by rw [hf.out]; rfl, pw_below_drewN hb _⟩

set_option maxHeartbeats 1000000 in
set_option maxRecDepth 100000 in
theorem point_3 (s : ByteArray) (w : World) (h : 3 ≤ s.size) (hs : s.size ≤ 9223372036854775807) (hn : (rowOf leadRows (s[0]'(by omega)).toNat).2.2.1 = 3) :
    Calls Try.prog 26 #[.string s] w (Pair (pt s) w) := by
  have hz : 0 < s.size := by omega
  obtain ⟨hne, hne2⟩ := ne_nil s hz
  have hp : pt s = ptGo 3 s.data.toList 0 st0 0 := by rw [pt_some s hz, hn, if_neg (by omega)]
  obtain ⟨q1, q2, n, q3, q4, hr⟩ : ∃ q1 q2 n q3 q4, rowOf leadRows s[0].toNat = (q1, q2, n, q3, q4) := ⟨_, _, _, _, _, rfl⟩
  rw [hr] at hn
  obtain rfl : n = 3 := hn
  have HR := Lib.hid hr
  have HP := Lib.hid hp
  clear hr hp
  go_enter Try.func26, Try.ntmps26
  go_wp2_with (go_at_call 47; refine (row_any s[0].toNat _).mono ?_; rintro e w1 ⟨rfl, hb1⟩; rw [HR.out]; unfold aggOf; dsimp only)
  go_loopw [25, 6] (fun i a wr => ∃ (k : Nat) (st : St) (acc : Int), k ≤ 3 ∧ i = .int .i64 k ∧ a = .int .i64 acc ∧ Hid (pt s = ptGo 3 (s.data.toList.drop k) k st acc) ∧ (0 ≤ st.1 ∧ st.1 ≤ 3) ∧ (0 ≤ acc ∧ acc < 32 * 64 ^ k) ∧ Holds wr (w1.heap.size + 1) st ∧ wr.cell? ⟨w1.heap.size, 2, none⟩ = some (.int .i64 3) ∧ Below w.heap.size w wr) (fun i _ _ => 3 - (intOf i).toNat)
  case atStart => exact ⟨0, st0, 0, by omega, rfl, rfl, HP, by decide, by omega, by have := heap_alloc_new (w1.alloc (.cells #[.int .u8 q1, .int .u8 q2, .int .i64 3, .int .u8 q3, .int .u8 q4] 77)) (.cells #[.int .i64 0, .int .u8 0, .int .u8 0] 31); rw [World.size_alloc] at this; exact this, by go_simp, (hb1.alloc hb1.size _).alloc (by have := hb1.size; simp; omega) _⟩
  case round =>
    obtain ⟨k, st, acc, hk, rfl, rfl, hc, h0, ha, hI, hcn, hb⟩ := hrel
    by_cases hlt : k < 3
    · have hlt' : k < s.size := by omega
      have hd := Lib.hid (data_drop s k hlt')
      cases hst : stp st s[k].toNat (-1) with
      | none =>
        have hf : Hid (pt s = (0, 0)) := by
          show pt s = _
          rw [hc.out, hd.out]; simp only [ptGo, hst]; rw [if_pos (by omega)]
        have HS := Lib.hid hst
        clear hst
        go_wp2_with (go_at_call 45; refine (step_no (w1.heap.size + 1) 0 st s[k].toNat (-1) _ hI.c0 hI.c1 hI.c2 HS.out).mono ?_; rintro e w' ⟨rfl, hb'⟩)
        go_ret2
        exact ⟨by rw [hf.out]; rfl, hb.trans (hb'.mono hb.size)⟩
      | some st' =>
        have hf : Hid (pt s = ptGo 3 (s.data.toList.drop (k + 1)) ((k + 1 : Nat) : Int) st' (vst 3 k s[k].toNat acc)) := by
          show pt s = _
          rw [hc.out, hd.out]; simp only [ptGo, hst]; rw [if_pos (by omega)]; rfl
        have h0' := stp_left hst h0
        have HS := Lib.hid hst
        clear hst
        have hu := s[k].toNat_lt
        by_cases hk0 : k = 0
        · have hk1 : k < 1 := by omega
          clear hk0
          have hu0 := s[0].toNat_lt
          have b1 : bits .and .i64 (s[0].toNat : Int) 15 = (s[0].toNat : Int) % 16 := bits_mask .i64 62 (by decide) wraps_i64 4 (by decide) _ (by omega) (by omega)
          have hv : Hid (vst 3 k s[k].toNat acc = (s[0].toNat : Int) % 16) := by
            obtain rfl : k = 0 := by omega
            show vst 3 _ _ _ = _
            simp [vst]
          have hbd : Hid (0 ≤ vst 3 k s[k].toNat acc ∧ vst 3 k s[k].toNat acc < 32 * 64 ^ (k + 1)) := by
            show 0 ≤ _ ∧ _ < _
            rw [hv.out]
            obtain rfl : k = 0 := by omega
            omega
          go_wp2_with (go_at_call 45; refine (step_ok (w1.heap.size + 1) 0 st st' s[k].toNat (-1) _ h0 hI.c0 hI.c1 hI.c2 (hI.fz _) (hI.fz _) (hI.fz _) HS.out).mono ?_; rintro e w' ⟨rfl, hb'⟩; have hcn' := hb'.other (by simp) hcn)
          go_quiet (fail)
          go_wp2
          go_roundw
          case rel => exact ⟨k + 1, st', vst 3 k s[k].toNat acc, by omega, by go_num, by rw [hv.out], hf, h0', hbd.out, (show Holds w' (w1.heap.size + 1) st' from hI.turned hb'), hcn', pw_below_drewN (hb'.below (by have := hb1.size; omega) hb.size hb) _⟩
          case measure => simp [intOf]; omega
        · have hpw : (64 : Int) ^ k ≤ 64 ^ 3 := by exact_mod_cast Nat.pow_le_pow_right (n := 64) (by decide) (by omega : k ≤ 3)
          have hacc : acc < 8388608 := by omega
          have b1 : bits .and .i64 (s[k].toNat : Int) 63 = (s[k].toNat : Int) % 64 := and63 _ (by omega) (by omega)
          have b2 : bits .or .i64 (acc * 64) ((s[k].toNat : Int) % 64) = acc * 64 + (s[k].toNat : Int) % 64 := or6 _ _ (by omega) (by omega) (by omega) (by omega) (by omega)
          have ha1 := ha.1
          have hv : Hid (vst 3 k s[k].toNat acc = acc * 64 + (s[k].toNat : Int) % 64) := by
            show vst 3 _ _ _ = _
            unfold vst
            rw [if_neg (by decide), if_neg (by omega)]
          have hbd : Hid (0 ≤ vst 3 k s[k].toNat acc ∧ vst 3 k s[k].toNat acc < 32 * 64 ^ (k + 1)) := by
            show 0 ≤ _ ∧ _ < _
            rw [hv.out, Int.pow_succ]
            omega
          go_wp2_with (go_at_call 45; refine (step_ok (w1.heap.size + 1) 0 st st' s[k].toNat (-1) _ h0 hI.c0 hI.c1 hI.c2 (hI.fz _) (hI.fz _) (hI.fz _) HS.out).mono ?_; rintro e w' ⟨rfl, hb'⟩; have hcn' := hb'.other (by simp) hcn)
          go_roundw
          case rel => exact ⟨k + 1, st', vst 3 k s[k].toNat acc, by omega, by go_num, by rw [hv.out], hf, h0', hbd.out, hI.turned hb', hcn', hb'.below (by have := hb1.size; omega) hb.size hb⟩
          case measure => simp [intOf]; omega
    · obtain rfl : k = 3 := by omega
      have hf : Hid (pt s = (acc, 3)) := by
        show pt s = _
        rw [hc.out]
        cases hl : s.data.toList.drop 3 <;> (simp only [ptGo]; rw [if_neg (by omega)])
      clear hc
      go_wp2
      go_quiet (fail)
      go_wp2
      go_ret2
      exact ⟨by rw [hf.out]; rfl, pw_below_drewN hb _⟩

set_option maxHeartbeats 1000000 in
set_option maxRecDepth 100000 in
theorem point_4 (s : ByteArray) (w : World) (h : 4 ≤ s.size) (hs : s.size ≤ 9223372036854775807) (hn : (rowOf leadRows (s[0]'(by omega)).toNat).2.2.1 = 4) :
    Calls Try.prog 26 #[.string s] w (Pair (pt s) w) := by
  have hz : 0 < s.size := by omega
  obtain ⟨hne, hne2⟩ := ne_nil s hz
  have hp : pt s = ptGo 4 s.data.toList 0 st0 0 := by rw [pt_some s hz, hn, if_neg (by omega)]
  obtain ⟨q1, q2, n, q3, q4, hr⟩ : ∃ q1 q2 n q3 q4, rowOf leadRows s[0].toNat = (q1, q2, n, q3, q4) := ⟨_, _, _, _, _, rfl⟩
  rw [hr] at hn
  obtain rfl : n = 4 := hn
  have HR := Lib.hid hr
  have HP := Lib.hid hp
  clear hr hp
  go_enter Try.func26, Try.ntmps26
  go_wp2_with (go_at_call 47; refine (row_any s[0].toNat _).mono ?_; rintro e w1 ⟨rfl, hb1⟩; rw [HR.out]; unfold aggOf; dsimp only)
  go_loopw [25, 6] (fun i a wr => ∃ (k : Nat) (st : St) (acc : Int), k ≤ 4 ∧ i = .int .i64 k ∧ a = .int .i64 acc ∧ Hid (pt s = ptGo 4 (s.data.toList.drop k) k st acc) ∧ (0 ≤ st.1 ∧ st.1 ≤ 3) ∧ (0 ≤ acc ∧ acc < 32 * 64 ^ k) ∧ Holds wr (w1.heap.size + 1) st ∧ wr.cell? ⟨w1.heap.size, 2, none⟩ = some (.int .i64 4) ∧ Below w.heap.size w wr) (fun i _ _ => 4 - (intOf i).toNat)
  case atStart => exact ⟨0, st0, 0, by omega, rfl, rfl, HP, by decide, by omega, by have := heap_alloc_new (w1.alloc (.cells #[.int .u8 q1, .int .u8 q2, .int .i64 4, .int .u8 q3, .int .u8 q4] 77)) (.cells #[.int .i64 0, .int .u8 0, .int .u8 0] 31); rw [World.size_alloc] at this; exact this, by go_simp, (hb1.alloc hb1.size _).alloc (by have := hb1.size; simp; omega) _⟩
  case round =>
    obtain ⟨k, st, acc, hk, rfl, rfl, hc, h0, ha, hI, hcn, hb⟩ := hrel
    by_cases hlt : k < 4
    · have hlt' : k < s.size := by omega
      have hd := Lib.hid (data_drop s k hlt')
      cases hst : stp st s[k].toNat (-1) with
      | none =>
        have hf : Hid (pt s = (0, 0)) := by
          show pt s = _
          rw [hc.out, hd.out]; simp only [ptGo, hst]; rw [if_pos (by omega)]
        have HS := Lib.hid hst
        clear hst
        go_wp2_with (go_at_call 45; refine (step_no (w1.heap.size + 1) 0 st s[k].toNat (-1) _ hI.c0 hI.c1 hI.c2 HS.out).mono ?_; rintro e w' ⟨rfl, hb'⟩)
        go_ret2
        exact ⟨by rw [hf.out]; rfl, hb.trans (hb'.mono hb.size)⟩
      | some st' =>
        have hf : Hid (pt s = ptGo 4 (s.data.toList.drop (k + 1)) ((k + 1 : Nat) : Int) st' (vst 4 k s[k].toNat acc)) := by
          show pt s = _
          rw [hc.out, hd.out]; simp only [ptGo, hst]; rw [if_pos (by omega)]; rfl
        have h0' := stp_left hst h0
        have HS := Lib.hid hst
        clear hst
        have hu := s[k].toNat_lt
        by_cases hk0 : k = 0
        · have hk1 : k < 1 := by omega
          clear hk0
          have hu0 := s[0].toNat_lt
          have b1 : bits .and .i64 (s[0].toNat : Int) 7 = (s[0].toNat : Int) % 8 := bits_mask .i64 62 (by decide) wraps_i64 3 (by decide) _ (by omega) (by omega)
          have hv : Hid (vst 4 k s[k].toNat acc = (s[0].toNat : Int) % 8) := by
            obtain rfl : k = 0 := by omega
            show vst 4 _ _ _ = _
            simp [vst]
          have hbd : Hid (0 ≤ vst 4 k s[k].toNat acc ∧ vst 4 k s[k].toNat acc < 32 * 64 ^ (k + 1)) := by
            show 0 ≤ _ ∧ _ < _
            rw [hv.out]
            obtain rfl : k = 0 := by omega
            omega
          go_wp2_with (go_at_call 45; refine (step_ok (w1.heap.size + 1) 0 st st' s[k].toNat (-1) _ h0 hI.c0 hI.c1 hI.c2 (hI.fz _) (hI.fz _) (hI.fz _) HS.out).mono ?_; rintro e w' ⟨rfl, hb'⟩; have hcn' := hb'.other (by simp) hcn)
          go_quiet (fail)
          go_wp2
          go_roundw
          case rel => exact ⟨k + 1, st', vst 4 k s[k].toNat acc, by omega, by go_num, by rw [hv.out], hf, h0', hbd.out, (show Holds w' (w1.heap.size + 1) st' from hI.turned hb'), hcn', pw_below_drewN (hb'.below (by have := hb1.size; omega) hb.size hb) _⟩
          case measure => simp [intOf]; omega
        · have hpw : (64 : Int) ^ k ≤ 64 ^ 3 := by exact_mod_cast Nat.pow_le_pow_right (n := 64) (by decide) (by omega : k ≤ 3)
          have hacc : acc < 8388608 := by omega
          have b1 : bits .and .i64 (s[k].toNat : Int) 63 = (s[k].toNat : Int) % 64 := and63 _ (by omega) (by omega)
          have b2 : bits .or .i64 (acc * 64) ((s[k].toNat : Int) % 64) = acc * 64 + (s[k].toNat : Int) % 64 := or6 _ _ (by omega) (by omega) (by omega) (by omega) (by omega)
          have ha1 := ha.1
          have hv : Hid (vst 4 k s[k].toNat acc = acc * 64 + (s[k].toNat : Int) % 64) := by
            show vst 4 _ _ _ = _
            unfold vst
            rw [if_neg (by decide), if_neg (by omega)]
          have hbd : Hid (0 ≤ vst 4 k s[k].toNat acc ∧ vst 4 k s[k].toNat acc < 32 * 64 ^ (k + 1)) := by
            show 0 ≤ _ ∧ _ < _
            rw [hv.out, Int.pow_succ]
            omega
          go_wp2_with (go_at_call 45; refine (step_ok (w1.heap.size + 1) 0 st st' s[k].toNat (-1) _ h0 hI.c0 hI.c1 hI.c2 (hI.fz _) (hI.fz _) (hI.fz _) HS.out).mono ?_; rintro e w' ⟨rfl, hb'⟩; have hcn' := hb'.other (by simp) hcn)
          go_roundw
          case rel => exact ⟨k + 1, st', vst 4 k s[k].toNat acc, by omega, by go_num, by rw [hv.out], hf, h0', hbd.out, hI.turned hb', hcn', hb'.below (by have := hb1.size; omega) hb.size hb⟩
          case measure => simp [intOf]; omega
    · obtain rfl : k = 4 := by omega
      have hf : Hid (pt s = (acc, 4)) := by
        show pt s = _
        rw [hc.out]
        cases hl : s.data.toList.drop 4 <;> (simp only [ptGo]; rw [if_neg (by omega)])
      clear hc
      go_wp2
      go_quiet (fail)
      go_wp2
      go_ret2
      exact ⟨by rw [hf.out]; rfl, pw_below_drewN hb _⟩

theorem point_any (s : ByteArray) (w : World) (hs : s.size ≤ 9223372036854775807) : Calls Try.prog 26 #[.string s] w (Pair (pt s) w) := by
  by_cases h : s.size = 0
  · exact point_nil s w h
  · have hz : 0 < s.size := by omega
    have hb := rowOf_n s[0].toNat
    by_cases hn : (rowOf leadRows s[0].toNat).2.2.1 = 0
    · exact point_none s w hz hn
    · by_cases hl : (s.size : Int) < (rowOf leadRows s[0].toNat).2.2.1
      · exact point_short s w hz hn hl
      · obtain h1 | h1 | h1 | h1 : (rowOf leadRows s[0].toNat).2.2.1 = 1 ∨ (rowOf leadRows s[0].toNat).2.2.1 = 2 ∨ (rowOf leadRows s[0].toNat).2.2.1 = 3 ∨ (rowOf leadRows s[0].toNat).2.2.1 = 4 := by omega
        · exact point_1 s w (by omega) hs h1
        · exact point_2 s w (by omega) hs h1
        · exact point_3 s w (by omega) hs h1
        · exact point_4 s w (by omega) hs h1
end Go.Proofs.Ytlbokaekhjjabaa
