import Derived.Test.YtlbokaekhjjabaaRows
import Derived.WalkKit
import Derived.ProofKit
import Derived.OpenShut
import Derived.ShutString
import Derived.ChangeOld
import Derived.Below
import Derived.SizedLaws
import Derived.JoinedCond
import Derived.Test.YtlbokaekhjjabaaMEscRight0
import Derived.Test.YtlbokaekhjjabaaMEscRight1
import Derived.Test.YtlbokaekhjjabaaMEscAll0
/-
  The reference's Scan tells what scanF tells. Without Go.
-/
namespace Go.Proofs.Ytlbokaekhjjabaa.Pure
open Go.RowKit Go.Proofs.Ytlbokaekhjjabaa Go.Proofs.Ytlbokaekhjjabaa.S Go.Proofs.YtlbokaekhjjabaaW.PrintWords Go.Proofs.YtlbokaekhjjabaaW.PrintLast
set_option linter.unusedVariables false

def plainV (c : Int) : Int := if c = 34 ∨ c = 92 ∨ c = 47 then c else if c = 98 then 8 else if c = 102 then 12 else if c = 110 then 10 else if c = 114 then 13 else if c = 116 then 9 else 0
theorem plain_f (c : Int) (k : Nat) : glossatorref03_plain.f (k + 1) c = some (plainV c) := by
  unfold glossatorref03_plain.f plainV
  simp only [glossatorref03_plain.j0]
  by_cases h1 : c = 34
  · subst h1; rfl
  by_cases h2 : c = 92
  · subst h2; rfl
  rw [if_neg h1, if_neg h2]
  by_cases h3 : c = 47
  · subst h3; rfl
  rw [if_neg (by simpa using h3), if_neg (show ¬ (c = 34 ∨ c = 92 ∨ c = 47) from fun h => by rcases h with h | h | h; exact h1 h; exact h2 h; exact h3 h)]
  by_cases a1 : c = 98
  · rw [if_pos a1, if_pos a1]
  rw [if_neg a1, if_neg a1]
  by_cases a2 : c = 102
  · rw [if_pos a2, if_pos a2]
  rw [if_neg a2, if_neg a2]
  by_cases a3 : c = 110
  · rw [if_pos a3, if_pos a3]
  rw [if_neg a3, if_neg a3]
  by_cases a4 : c = 114
  · rw [if_pos a4, if_pos a4]
  rw [if_neg a4, if_neg a4]
  by_cases a5 : c = 116
  · rw [if_pos a5, if_pos a5]
  rw [if_neg a5, if_neg a5]
theorem digit_f (c : Int) (h0 : 0 ≤ c) (h1 : c ≤ 255) (k : Nat) : glossatorref03_digit.f (k + 2) c = some (dig c) := by
  unfold glossatorref03_digit.f dig
  simp only [glossatorref03_digit.j0, glossatorref03_digit.j1]
  by_cases a1 : c ≥ 48
  · rw [if_pos a1]
    by_cases a2 : c ≤ 57
    · rw [if_pos (decide_eq_true a2), if_pos ⟨a1, a2⟩]; congr 1; omega
    · rw [if_neg (by simpa using a2), if_neg (show ¬ (48 ≤ c ∧ c ≤ 57) by omega)]
      by_cases a3 : c ≥ 97
      · rw [if_pos a3, if_neg (show ¬ (65 ≤ c ∧ c ≤ 70) by omega)]
        by_cases a4 : c ≤ 102
        · rw [if_pos (decide_eq_true a4), if_pos ⟨a3, a4⟩]; congr 1; omega
        · rw [if_neg (by simpa using a4), if_pos (show c ≥ 65 by omega), if_neg (show ¬ c ≤ 70 by omega), if_neg (show ¬ (97 ≤ c ∧ c ≤ 102) by omega)]
      · rw [if_neg a3, if_neg (by decide), if_neg (show ¬ (97 ≤ c ∧ c ≤ 102) by omega)]
        by_cases a4 : c ≥ 65
        · rw [if_pos a4]
          by_cases a5 : c ≤ 70
          · rw [if_pos a5, if_pos ⟨a4, a5⟩]; congr 1; omega
          · rw [if_neg a5, if_neg (by omega)]
        · rw [if_neg a4, if_neg (by omega)]
  · rw [if_neg a1, if_neg (by decide), if_neg (show ¬ c ≥ 97 by omega), if_neg (by decide), if_neg (show ¬ c ≥ 65 by omega), if_neg (show ¬ (48 ≤ c ∧ c ≤ 57) by omega), if_neg (show ¬ (65 ≤ c ∧ c ≤ 70) by omega), if_neg (show ¬ (97 ≤ c ∧ c ≤ 102) by omega)]

/-- What 'four' tells where 'unit' tells this. -/
def fourV (r : Int × Nat × Int) : Int × Int × Int := (if r.2.2 = 0 then r.1 else 0, (r.2.1 : Int), r.2.2)
theorem four_l (s : ByteArray) (hs : s.size ≤ 140737488351232) (low : Bool) (n : Nat) : ∀ (i : Nat) (u : Int) (p k : Nat), i + n = 4 → 0 ≤ u → u < 16 ^ i → (low = true → i = 1 → u = 13) → p + i ≤ s.size →
    glossatorref03_four.l0 (k + n + 3) s p low u i = some (fourV (unitL s low n i u (p + i) 0)) := by
  induction n with
  | zero =>
    intro i u p k hi h0 h1 hl hp
    rw [glossatorref03_four.l0]
    rw [if_neg (by omega)]
    show _ = some (fourV (u, p + i, 0))
    have ew : wrap64 ((p : Int) + 4) = ((p + i : Nat) : Int) := by unfold wrap64; omega
    rw [ew]
    rfl
  | succ n ih =>
    intro i u p k hi h0 h1 hl hp
    have hu : u < 4096 := by
      have : i = 0 ∨ i = 1 ∨ i = 2 ∨ i = 3 := by omega
      rcases this with rfl | rfl | rfl | rfl <;> simp at h1 <;> omega
    have ew : wrap64 ((p : Int) + (i : Int)) = ((p + i : Nat) : Int) := by unfold wrap64; omega
    have ei : wrap64 ((i : Int) + 1) = ((i + 1 : Nat) : Int) := by unfold wrap64; omega
    rw [show k + (n + 1) + 3 = (k + n + 3) + 1 by omega]
    rw [glossatorref03_four.l0]
    rw [if_pos (by omega), ew, ei]
    by_cases hz : p + i < s.size
    · have hb := bt_byte s (p + i) hz
      have hb1 := byteAt_le s (p + i)
      rw [if_neg (by omega), if_pos (by omega), if_pos (by omega), hb]
      have hdg := digit_f _ hb1.1 hb1.2 (k + n + 1)
      rw [show (k + n + 1) + 2 = k + n + 3 by omega] at hdg
      rw [hdg, Option.bind_some]
      obtain ⟨c, hc⟩ : ∃ c, byteAt s (p + i) = c := ⟨_, rfl⟩
      rw [hc] at hb1 ⊢
      have hd := dig_le c
      obtain ⟨d, hdd⟩ : ∃ d, dig c = d := ⟨_, rfl⟩
      have hit : unitIs low i u c = true → unitL s low (n + 1) i u (p + i) 0 = unitL s low n ((i + 1 : Nat) : Int) (u * 16 + d) (p + (i + 1)) 0 := by
        intro h
        have hd0 : ¬ d < 0 := by
          intro h2
          unfold unitIs at h
          rw [hdd, if_pos h2] at h
          cases h
        simp only [unitL]
        rw [nx_hit hz hc h]
        dsimp only
        rw [hdd, show max d 0 = d by omega]
        rfl
      have miss : unitIs low i u c = false → fourV (unitL s low (n + 1) i u (p + i) 0) = (0, ((p + i : Nat) : Int), 4) := by
        intro h
        simp only [unitL]
        have e : nx s (unitIs low i u) (p + i) 0 = (0, p + i, 4) := by
          unfold nx
          rw [if_neg (by decide), if_pos hz, hc, h]
          rfl
        rw [e]
        dsimp only
        have := unitL_pass s low n (i + 1) (u * 16 + max (dig 0) 0) (p + i) (e := 4) (by decide)
        unfold fourV
        rw [this]
        rfl
      rw [hdd] at hd
      have go : unitIs low i u c = true → 0 ≤ d → (low = true → i = 0 → d = 13) →
          glossatorref03_four.l0 (k + n + 3) s p low (wrap64 ((wrap64 (16 * u)) + d)) ((i + 1 : Nat) : Int) = some (fourV (unitL s low (n + 1) i u (p + i) 0)) := by
        intro h hd0 hl2
        rw [hit h]
        have e : wrap64 ((wrap64 (16 * u)) + d) = u * 16 + d := by unfold wrap64; omega
        rw [e]
        refine ih (i + 1) (u * 16 + d) p k (by omega) (by omega) ?_ (fun a b => ?_) (by omega)
        · have : i = 0 ∨ i = 1 ∨ i = 2 ∨ i = 3 := by omega
          rcases this with rfl | rfl | rfl | rfl <;> simp at h1 ⊢ <;> omega
        · have : i = 0 := by omega
          subst this
          have := hl2 a rfl
          simp at h1
          omega
      have eu : unitIs low i u c = if d < 0 then false else if low = true ∧ (i : Int) = 0 then d == 13 else if (i : Int) = 1 ∧ u = 13 then low == decide (12 ≤ d) else true := by unfold unitIs; rw [hdd]
      rw [hdd]
      by_cases hlow : low = true
      · rw [if_pos hlow]
        by_cases d0 : d < 0
        · rw [if_pos d0, miss (by rw [eu, if_pos d0])]
        rw [if_neg d0]
        rw [if_neg d0] at eu
        by_cases i0 : (i : Int) = 0
        · rw [if_pos i0, if_neg (show ¬ (i : Int) = 1 by omega)]
          rw [if_pos ⟨hlow, i0⟩] at eu
          by_cases d13 : d = 13
          · rw [if_pos d13]; exact go (by rw [eu]; simpa using d13) (by omega) (fun _ _ => d13)
          · rw [if_neg d13, miss (by rw [eu]; simpa using d13)]
        · rw [if_neg i0]
          rw [if_neg (fun h => i0 h.2)] at eu
          by_cases i1 : (i : Int) = 1
          · rw [if_pos i1]
            have hu13 := hl hlow (by omega)
            rw [if_pos ⟨i1, hu13⟩] at eu
            by_cases d12 : d < 12
            · rw [if_pos d12, miss (by rw [eu, hlow, decide_eq_false (by omega)]; rfl)]
            · rw [if_neg d12]; exact go (by rw [eu, hlow, decide_eq_true (by omega)]; rfl) (by omega) (fun _ h => by omega)
          · rw [if_neg i1]
            rw [if_neg (fun h => i1 h.1)] at eu
            exact go eu (by omega) (fun _ h => by omega)
      · rw [if_neg hlow]
        replace hlow : low = false := by simpa using hlow
        by_cases d0 : d < 0
        · rw [if_pos d0, miss (by rw [eu, if_pos d0])]
        rw [if_neg d0]
        rw [if_neg d0, if_neg (by rw [hlow]; simp), hlow] at eu
        have hgo := fun h => go h (by omega) (fun h => by rw [hlow] at h; cases h)
        by_cases i1 : (i : Int) = 1
        · rw [if_pos i1]
          by_cases u13 : u = 13
          · rw [if_pos u13]
            rw [if_pos ⟨i1, u13⟩] at eu
            by_cases d12 : d ≥ 12
            · rw [if_pos d12, miss (by rw [hlow, eu, decide_eq_true (by omega)]; rfl)]
            · rw [if_neg d12]; exact hgo (by rw [hlow, eu, decide_eq_false (by omega)]; rfl)
          · rw [if_neg u13]
            rw [if_neg (fun h => u13 h.2)] at eu
            exact hgo (by rw [hlow, eu])
        · rw [if_neg i1]
          rw [if_neg (fun h => i1 h.1)] at eu
          exact hgo (by rw [hlow, eu])
    · have e : nx s (unitIs low i u) (p + i) 0 = (0, p + i, 3) := by unfold nx; rw [if_neg (by decide), if_neg hz]
      rw [if_pos (by omega)]
      simp only [unitL]
      rw [e]
      dsimp only
      have := unitL_pass s low n (i + 1) (u * 16 + max (dig 0) 0) (p + i) (e := 3) (by decide)
      unfold fourV
      rw [this]
      dsimp only
      rw [if_neg (by decide), show p + i = s.size by omega]
theorem four_f (s : ByteArray) (hs : s.size ≤ 140737488351232) (low : Bool) (p k : Nat) (hp : p ≤ s.size) : glossatorref03_four.f (k + 7) s p low = some (fourV (unitF s low p 0)) :=
  four_l s hs low 4 0 0 p k rfl (by decide) (by decide) (fun _ h => by cases h) hp

theorem escs : ∀ n : Nat, n < 256 → (escIs (n : Int) == ((n == 117) || plainV n != 0) && (plainV n == 0 || (plainV n == unl letterPairs n))) = true := by decide +kernel
theorem escs_v {c : Int} (h0 : 0 ≤ c) (h1 : c ≤ 255) (hc : c ≠ 117) : (plainV c = 0 → escIs c = false) ∧ (plainV c ≠ 0 → escIs c = true ∧ unl letterPairs c = plainV c) := by
  have h := escs c.toNat (by omega)
  rw [show ((c.toNat : Nat) : Int) = c by omega] at h
  have h2 : (c.toNat == 117) = false := by simp; omega
  rw [h2] at h
  simp only [Bool.and_eq_true, Bool.or_eq_true, beq_iff_eq, Bool.false_or] at h
  refine ⟨fun h3 => ?_, fun h3 => ⟨?_, ?_⟩⟩
  · rw [h.1, h3]; rfl
  · rw [h.1]; simpa using h3
  · rcases h.2 with h4 | h4
    · exact absurd h4 h3
    · exact h4.symm
/-- What the reference tells where the code's readers tell this. -/
def strV (r : List Int × Nat × Int) : ByteArray × Int × Int := (if r.2.2 = 0 then strOfNums r.1 else ⟨#[]⟩, (r.2.1 : Int), r.2.2)

theorem fourV_0 (u : Int) (q : Nat) : fourV (u, q, 0) = (u, (q : Int), 0) := rfl
theorem fourV_e (u : Int) (q : Nat) {e : Int} (h : e ≠ 0) : fourV (u, q, e) = (0, (q : Int), e) := by unfold fourV; rw [if_neg h]
theorem strV_0 (xs : List Int) (q : Nat) : strV (xs, q, 0) = (strOfNums xs, (q : Int), 0) := rfl
theorem strV_err (r : List Int × Nat × Int) (h : r.2.2 ≠ 0) : strV r = (⟨#[]⟩, (r.2.1 : Int), r.2.2) := by unfold strV; rw [if_neg h]
theorem wrap_nat (a b : Nat) (h : a + b ≤ 9223372036854775807) : wrap64 ((a : Int) + (b : Int)) = ((a + b : Nat) : Int) := by unfold wrap64; omega
theorem wrap_1 (a : Nat) (h : a + 1 ≤ 9223372036854775807) : wrap64 ((a : Int) + 1) = ((a + 1 : Nat) : Int) := wrap_nat a 1 h
theorem wrap_2 (a : Nat) (h : a + 2 ≤ 9223372036854775807) : wrap64 ((a : Int) + 2) = ((a + 2 : Nat) : Int) := wrap_nat a 2 h
theorem unit_low {s : ByteArray} {p : Nat} (h : (unitF s true p 0).2.2 = 0) : 56320 ≤ (unitF s true p 0).1 ∧ (unitF s true p 0).1 ≤ 57343 := by
  unfold unitF at h ⊢
  have u0 : unitL s true 4 0 0 p 0 = unitL s true 3 (0 + 1) (0 * 16 + max (dig (nx s (unitIs true 0 0) p 0).1) 0) (nx s (unitIs true 0 0) p 0).2.1 (nx s (unitIs true 0 0) p 0).2.2 := rfl
  rw [u0] at h ⊢
  have n0 := nx_ok ((unitL_ok s true 3 _ _ _ _).2 h).1
  rw [n0.2.2.2] at h ⊢
  dsimp only at h ⊢
  obtain ⟨c0, hc0⟩ : ∃ c, byteAt s p = c := ⟨_, rfl⟩
  rw [hc0] at n0 h ⊢
  have i0 := n0.2.2.1
  clear u0 n0
  have d0 : dig c0 = 13 := by
    unfold unitIs at i0
    split at i0
    · cases i0
    · rw [if_pos ⟨rfl, rfl⟩] at i0; simpa using i0
  rw [d0] at h ⊢
  have e0 : (0 : Int) * 16 + max 13 0 = 13 := by decide
  rw [e0] at h ⊢
  have u1 : unitL s true 3 (0 + 1) 13 (p + 1) 0 = unitL s true 2 (0 + 1 + 1) (13 * 16 + max (dig (nx s (unitIs true (0 + 1) 13) (p + 1) 0).1) 0) (nx s (unitIs true (0 + 1) 13) (p + 1) 0).2.1 (nx s (unitIs true (0 + 1) 13) (p + 1) 0).2.2 := rfl
  rw [u1] at h ⊢
  have n1 := nx_ok ((unitL_ok s true 2 _ _ _ _).2 h).1
  rw [n1.2.2.2] at h ⊢
  dsimp only at h ⊢
  obtain ⟨c1, hc1⟩ : ∃ c, byteAt s (p + 1) = c := ⟨_, rfl⟩
  rw [hc1] at n1 h ⊢
  have i1 := n1.2.2.1
  clear u1 n1
  have d1 : 12 ≤ dig c1 := by
    unfold unitIs at i1
    split at i1
    · cases i1
    · rw [if_neg (by decide), if_pos (by decide)] at i1; simpa using i1
  have d1' := dig_le c1
  obtain ⟨x, hx⟩ : ∃ x, dig c1 = x := ⟨_, rfl⟩
  rw [hx] at d1 d1' h ⊢
  obtain ⟨u, hu⟩ : ∃ u, 13 * 16 + max x 0 = u := ⟨_, rfl⟩
  rw [hu] at h ⊢
  have u2 : unitL s true 2 (0 + 1 + 1) u (p + 1 + 1) 0 = unitL s true 1 (0 + 1 + 1 + 1) (u * 16 + max (dig (nx s (unitIs true (0 + 1 + 1) u) (p + 1 + 1) 0).1) 0) (nx s (unitIs true (0 + 1 + 1) u) (p + 1 + 1) 0).2.1 (nx s (unitIs true (0 + 1 + 1) u) (p + 1 + 1) 0).2.2 := rfl
  rw [u2]
  have d2 := dig_le (nx s (unitIs true (0 + 1 + 1) u) (p + 1 + 1) 0).1
  obtain ⟨y, hy⟩ : ∃ x, dig (nx s (unitIs true (0 + 1 + 1) u) (p + 1 + 1) 0).1 = x := ⟨_, rfl⟩
  rw [hy] at d2 ⊢
  obtain ⟨q, hq⟩ : ∃ q, nx s (unitIs true (0 + 1 + 1) u) (p + 1 + 1) 0 = q := ⟨_, rfl⟩
  rw [hq]
  obtain ⟨v, hv⟩ : ∃ v, u * 16 + max y 0 = v := ⟨_, rfl⟩
  rw [hv]
  have u3 : unitL s true 1 (0 + 1 + 1 + 1) v q.2.1 q.2.2 = (v * 16 + max (dig (nx s (unitIs true (0 + 1 + 1 + 1) v) q.2.1 q.2.2).1) 0, (nx s (unitIs true (0 + 1 + 1 + 1) v) q.2.1 q.2.2).2) := rfl
  rw [u3]
  have d3 := dig_le (nx s (unitIs true (0 + 1 + 1 + 1) v) q.2.1 q.2.2).1
  obtain ⟨z, hz⟩ : ∃ x, dig (nx s (unitIs true (0 + 1 + 1 + 1) v) q.2.1 q.2.2).1 = x := ⟨_, rfl⟩
  rw [hz] at d3 ⊢
  dsimp only
  omega

/-- escape, behind its 'u' and its four digits. -/
theorem escF_u {s : ByteArray} {p : Nat} (hp : p < s.size) (hb : byteAt s p = 117) : escF s p 0 =
    (let a := unitF s false (p + 1) 0
    if a.1 / 1024 = 54 then
      let b := nx s (fun c => c == 92) a.2.1 a.2.2
      let c := nx s (fun c => c == 117) b.2.1 b.2.2
      let d := unitF s true c.2.1 c.2.2
      (encL (65536 + a.1 % 1024 * 1024 + d.1 % 1024), d.2.1, d.2.2)
    else (encL a.1, a.2.1, a.2.2)) := by
  unfold escF
  rw [nx_hit (is := escIs) hp hb (by decide)]
  dsimp only
  rw [if_neg (by decide)]
theorem escape_f (s : ByteArray) (hs : s.size ≤ 140737488351232) (p k : Nat) (hp : p ≤ s.size) : glossatorref03_escape.f (k + 12) s p = some (strV (escF s p 0)) := by
  unfold glossatorref03_escape.f
  by_cases hz : p < s.size
  rotate_left
  · have e : nx s escIs p 0 = (0, p, 3) := by unfold nx; rw [if_neg (by decide), if_neg hz]
    have e2 : (escF s p 0).2 = (p, 3) := by unfold escF; rw [e]; rfl
    rw [if_pos (by omega), strV_err _ (by rw [e2]; show (3 : Int) ≠ 0; decide), e2, show p = s.size by omega]
  have hb1 := byteAt_le s p
  rw [if_neg (by omega), if_pos (by omega), if_pos (by omega), bt_byte s p hz, wrap_1 p (by omega)]
  by_cases hc : byteAt s p = 117
  rotate_left
  · rw [if_neg hc, show k + 12 = (k + 11) + 1 from rfl, plain_f, Option.bind_some]
    have hv := escs_v hb1.1 hb1.2 hc
    by_cases h0 : plainV (byteAt s p) = 0
    · have e : nx s escIs p 0 = (0, p, 4) := by unfold nx; rw [if_neg (by decide), if_pos hz, hv.1 h0]; rfl
      have e2 : (escF s p 0).2 = (p, 4) := by unfold escF; rw [e]; rfl
      rw [if_pos h0, strV_err _ (by rw [e2]; show (4 : Int) ≠ 0; decide), e2]
    · obtain ⟨h1, h2⟩ := hv.2 h0
      have e2 : escF s p 0 = ([plainV (byteAt s p)], p + 1, 0) := by
        unfold escF
        rw [nx_hit (is := escIs) hz rfl h1]
        dsimp only
        rw [if_pos hc, h2]
      rw [if_neg h0, e2]
      rfl
  rw [if_pos hc, show k + 12 = (k + 5) + 7 from rfl, four_f s hs false (p + 1) (k + 5) (by omega), Option.bind_some, escF_u hz hc]
  have ha1 := unitF_at s false (p + 1) 0 (by omega)
  have ha2 := unitF_bound s false (p + 1) 0
  obtain ⟨a, ha⟩ : ∃ a, unitF s false (p + 1) 0 = a := ⟨_, rfl⟩
  rw [ha] at ha1 ha2 ⊢
  obtain ⟨u, q, e⟩ := a
  dsimp only at ha1 ha2
  by_cases he : e = 0
  rotate_left
  · rw [fourV_e _ _ he]
    dsimp only
    rw [if_neg he]
    have e2 : ∀ t : List Int × Nat × Int, t.2 = (q, e) → some ((⟨#[]⟩ : ByteArray), (q : Int), e) = some (strV t) := fun t ht => by rw [strV_err t (by rw [ht]; exact he), ht]
    refine e2 _ ?_
    split
    · rw [nx_pass s _ q he, nx_pass s _ q he]
      exact unitL_pass s true 4 0 0 q he
    · rfl
  subst he
  rw [fourV_0]
  dsimp only
  rw [if_pos rfl]
  have henc : ∀ c : Int, enc c = strOfNums (encL c) := fun c => rfl
  by_cases hu1 : u < 55296
  · rw [if_pos hu1, if_neg (by omega)]
    rw [show k + 5 + 7 = (k + 11) + 1 from rfl]
    rw [glossatorref03_escape.j0]
    rw [if_pos rfl]
    rfl
  rw [if_neg hu1]
  by_cases hu2 : u > 56319
  · rw [decide_eq_true hu2, if_neg (by omega)]
    rw [show k + 5 + 7 = (k + 11) + 1 from rfl]
    rw [glossatorref03_escape.j0]
    rw [if_pos rfl]
    rfl
  rw [decide_eq_false hu2, if_pos (by omega), show k + 5 + 7 = (k + 11) + 1 from rfl]
  rw [glossatorref03_escape.j0]
  rw [if_neg (by decide), show k + 11 = (k + 10) + 1 from rfl]
  rw [glossatorref03_escape.l0]
  have x92 : bt (⟨#[92, 117]⟩ : ByteArray) 0 = 92 := by decide
  have x117 : bt (⟨#[92, 117]⟩ : ByteArray) 1 = 117 := by decide
  have xs : ((⟨#[92, 117]⟩ : ByteArray).size : Int) = 2 := by decide
  have w0 : wrap64 ((q : Int) + 0) = (q : Int) := by unfold wrap64; omega
  have w1 : wrap64 ((q : Int) + wrap64 (0 + 1)) = ((q + 1 : Nat) : Int) := by unfold wrap64; omega
  have w2 : wrap64 ((0 : Int) + 1) = 1 := by unfold wrap64; decide
  have w3 : wrap64 ((1 : Int) + 1) = 2 := by unfold wrap64; decide
  rw [if_pos (by decide), w0, xs]
  by_cases hq : q < s.size
  rotate_left
  · have e1 : nx s (fun c => c == 92) q 0 = (0, q, 3) := by unfold nx; rw [if_neg (by decide), if_neg hq]
    rw [if_pos (by omega), e1]
    dsimp only
    rw [nx_pass s _ q (by decide)]
    have := unitL_pass s true 4 0 0 q (e := 3) (by decide)
    rw [strV_err _ (by show (unitF s true q 3).2.2 ≠ 0; rw [show (unitF s true q 3).2 = (q, 3) from this]; show (3 : Int) ≠ 0; decide)]
    rw [show (unitF s true q 3).2 = (q, 3) from this, show q = s.size by omega]
  rw [if_neg (by omega), if_pos (by omega), if_pos (by omega), if_pos (by decide), if_pos (by decide), bt_byte s q hq, x92, w2]
  by_cases hb : byteAt s q = 92
  rotate_left
  · have e1 : nx s (fun c => c == 92) q 0 = (0, q, 4) := by unfold nx; rw [if_neg (by decide), if_pos hq, if_neg (by simpa using hb)]
    rw [if_neg hb, e1]
    dsimp only
    rw [nx_pass s _ q (by decide)]
    have := unitL_pass s true 4 0 0 q (e := 4) (by decide)
    rw [strV_err _ (by show (unitF s true q 4).2.2 ≠ 0; rw [show (unitF s true q 4).2 = (q, 4) from this]; show (4 : Int) ≠ 0; decide)]
    rw [show (unitF s true q 4).2 = (q, 4) from this]
  rw [if_pos hb, nx_hit (is := fun c => c == 92) hq hb (by decide), show k + 10 = (k + 9) + 1 from rfl]
  dsimp only
  rw [glossatorref03_escape.l0]
  rw [if_pos (by decide), xs, wrap_1 q (by omega)]
  by_cases hq1 : q + 1 < s.size
  rotate_left
  · have e1 : nx s (fun c => c == 117) (q + 1) 0 = (0, q + 1, 3) := by unfold nx; rw [if_neg (by decide), if_neg hq1]
    rw [if_pos (by omega), e1]
    dsimp only
    have := unitL_pass s true 4 0 0 (q + 1) (e := 3) (by decide)
    rw [strV_err _ (by show (unitF s true (q + 1) 3).2.2 ≠ 0; rw [show (unitF s true (q + 1) 3).2 = (q + 1, 3) from this]; show (3 : Int) ≠ 0; decide)]
    rw [show (unitF s true (q + 1) 3).2 = (q + 1, 3) from this, show q + 1 = s.size by omega]
  rw [if_neg (by omega), if_pos (by omega), if_pos (by omega), if_pos (by decide), if_pos (by decide), bt_byte s (q + 1) hq1, x117]
  by_cases hb2 : byteAt s (q + 1) = 117
  rotate_left
  · have e1 : nx s (fun c => c == 117) (q + 1) 0 = (0, q + 1, 4) := by unfold nx; rw [if_neg (by decide), if_pos hq1, if_neg (by simpa using hb2)]
    rw [if_neg hb2, e1]
    dsimp only
    have := unitL_pass s true 4 0 0 (q + 1) (e := 4) (by decide)
    rw [strV_err _ (by show (unitF s true (q + 1) 4).2.2 ≠ 0; rw [show (unitF s true (q + 1) 4).2 = (q + 1, 4) from this]; show (4 : Int) ≠ 0; decide)]
    rw [show (unitF s true (q + 1) 4).2 = (q + 1, 4) from this]
  rw [if_pos hb2, nx_hit (is := fun c => c == 117) hq1 hb2 (by decide), show k + 9 = (k + 8) + 1 from rfl]
  dsimp only
  rw [glossatorref03_escape.l0]
  rw [w3, if_neg (by decide), wrap_2 q (by omega), show k + 8 = (k + 1) + 7 from rfl, four_f s hs true (q + 2) (k + 1) (by omega), Option.bind_some]
  have hd1 := unit_low (s := s) (p := q + 2)
  show _ = some (strV (encL (65536 + u % 1024 * 1024 + (unitF s true (q + 2) 0).1 % 1024), (unitF s true (q + 2) 0).2.1, (unitF s true (q + 2) 0).2.2))
  obtain ⟨d, hd⟩ : ∃ a, unitF s true (q + 2) 0 = a := ⟨_, rfl⟩
  rw [hd] at hd1 ⊢
  obtain ⟨v, q2, e2⟩ := d
  dsimp only at hd1
  by_cases h2 : e2 = 0
  rotate_left
  · rw [fourV_e _ _ h2, strV_err _ h2]
    dsimp only
    rw [if_neg h2]
  subst h2
  have := hd1 rfl
  rw [fourV_0, strV_0]
  dsimp only
  rw [if_pos rfl]
  have ev : wrap64 ((wrap64 ((wrap64 (65536 + (wrap64 ((wrap64 (u - 55296)) * 1024)))) + v)) - 56320) = 65536 + u % 1024 * 1024 + v % 1024 := by
    have : wrap64 (u - 55296) = u - 55296 := by unfold wrap64; omega
    rw [this]
    have : wrap64 ((u - 55296) * 1024) = (u - 55296) * 1024 := by unfold wrap64; omega
    rw [this]
    have : wrap64 (65536 + (u - 55296) * 1024) = 65536 + (u - 55296) * 1024 := by unfold wrap64; omega
    rw [this]
    unfold wrap64; omega
  rw [ev]
  rfl

theorem escF_byte (s : ByteArray) (p : Nat) (h : (escF s p 0).2.2 = 0) : ∀ x ∈ (escF s p 0).1, 0 ≤ x ∧ x ≤ 255 := by
  unfold escF at h ⊢
  by_cases hc : (nx s escIs p 0).1 ≠ 117
  · rw [if_pos hc] at h ⊢
    have h2 := nx_ok h
    rw [h2.2.2.2] at hc ⊢
    have := unl_le h2.2.2.1 hc
    intro x hx
    dsimp only at hx
    rw [List.mem_singleton] at hx
    subst hx
    omega
  · rw [if_neg hc]
    dsimp only
    split
    · exact encL_byte _
    · exact encL_byte _
theorem bytes_str (xs : List Int) (h : ∀ x ∈ xs, 0 ≤ x ∧ x ≤ 255) : Go.Proofs.YtlbokaekhjjabaaW.PrintWords.bytesOf (strOfNums xs) = xs := by
  unfold Go.Proofs.YtlbokaekhjjabaaW.PrintWords.bytesOf
  rw [str_data, List.map_map]
  conv => rhs; rw [← List.map_id xs]
  refine List.map_congr_left fun x hx => ?_
  exact byteOf_toNat (h x hx).1 (h x hx).2
theorem scan_l (s : ByteArray) (hs : s.size ≤ 140737488351232) (m : Nat) : ∀ (p k : Nat) (out : List Int), s.size - p < m → p ≤ s.size → out.length ≤ p →
    glossatorref03_Scan.l0 (k + m + 13) s out p = some (strV (scnF s p 0 out)) := by
  induction m with
  | zero => intro p k out h; omega
  | succ m ih =>
    intro p k out hm hp ho
    rw [show k + (m + 1) + 13 = (k + m + 13) + 1 by omega]
    rw [glossatorref03_Scan.l0]
    by_cases hz : p < s.size
    rotate_left
    · have e : nx s ge32 p 0 = (0, p, 3) := by unfold nx; rw [if_neg (by decide), if_neg hz]
      rw [if_neg (by omega), scnF_step, e]
      unfold behind
      dsimp only
      rw [if_pos (by decide), strV_err _ (by show (3 : Int) ≠ 0; decide), show p = s.size by omega]
    rw [if_pos (by omega), if_pos (by omega), bt_byte s p hz]
    obtain ⟨c, hc⟩ : ∃ c, byteAt s p = c := ⟨_, rfl⟩
    rw [hc]
    by_cases h34 : c = 34
    · subst h34
      rw [if_pos rfl, scnF_step, nx_hit (is := ge32) hz hc (by decide)]
      unfold behind
      dsimp only
      rw [if_neg (by decide), if_pos rfl, wrap_1 p (by omega)]
      rfl
    rw [if_neg h34]
    by_cases h32 : c < 32
    · have e : nx s ge32 p 0 = (0, p, 4) := by unfold nx; rw [if_neg (by decide), if_pos hz, hc, if_neg (by unfold ge32; simpa using h32)]
      rw [if_pos h32, scnF_step, e]
      unfold behind
      dsimp only
      rw [if_pos (by decide), strV_err _ (by show (4 : Int) ≠ 0; decide)]
    rw [if_neg h32]
    have hst : scnF s p 0 out = if c = 92 then scnF s (escF s (p + 1) 0).2.1 (escF s (p + 1) 0).2.2 (out ++ (escF s (p + 1) 0).1)
        else scnF s (p + (plainN s p).1) (plainN s p).2 (out ++ Go.Proofs.Ytlbokaekhjjabaa.bytesOf s p (plainN s p).1) := by
      rw [scnF_step, nx_hit (is := ge32) hz hc (by unfold ge32; exact decide_eq_true (by omega))]
      unfold behind
      dsimp only
      rw [if_neg (by decide), if_neg h34]
    by_cases h92 : c = 92
    · rw [if_pos h92, hst, if_pos h92, wrap_1 p (by omega), show k + m + 13 = (k + m + 1) + 12 by omega, escape_f s hs (p + 1) _ (by omega), Option.bind_some]
      have ok := escF_ok s (p + 1) 0 (by omega)
      have hb := escF_byte s (p + 1)
      obtain ⟨a, ha⟩ : ∃ a, escF s (p + 1) 0 = a := ⟨_, rfl⟩
      rw [ha] at ok hb ⊢
      obtain ⟨xs, q, e⟩ := a
      dsimp only at ok hb ⊢
      by_cases he : e = 0
      · subst he
        have o2 := ok.2.2.2 rfl
        have ev : strV (xs, q, 0) = (strOfNums xs, (q : Int), 0) := rfl
        rw [ev]
        dsimp only
        rw [if_pos rfl, str_size, if_pos (by omega), bytes_str xs (hb rfl), show (k + m + 1) + 12 = k + m + 13 by omega]
        exact ih q k (out ++ xs) (by omega) (by omega) (by rw [List.length_append]; omega)
      · rw [strV_err _ he]
        dsimp only
        rw [if_neg he, scnF_pass s q _ he, strV_err _ he]
    · rw [if_neg h92, hst, if_neg h92, if_pos (by omega), Int.toNat_natCast]
      show (glossatorref02_Point.f (sub s p)).bind _ = _
      have hz2 := sub_size s p
      have hpf : glossatorref02_Point.f (sub s p) = some (pt (sub s p)) := by unfold glossatorref02_Point.f; rw [if_pos (by omega)]
      have hcf : glossatorref02_Check.f (sub s p) = some (chk (sub s p)) := by unfold glossatorref02_Check.f; rw [if_pos (by omega)]
      rw [hpf, Option.bind_some]
      have ok := plainN_ok s p hz
      by_cases h0 : (pt (sub s p)).2 = 0
      · rw [if_pos h0]
        show (glossatorref02_Check.f (sub s p)).bind _ = _
        rw [hcf, Option.bind_some]
        have e1 : plainN s p = ((chk (sub s p)).1.toNat, (chk (sub s p)).2) := by unfold plainN; rw [if_pos h0]
        rw [e1] at ok ⊢
        dsimp only at ok ⊢
        have hne : (chk (sub s p)).2 ≠ 0 := by
          intro h
          have hl : (sub s p).data.toList ≠ [] := by
            intro h2
            have := congrArg List.length h2
            rw [data_len, hz2] at this
            simp at this; omega
          exact whole_pt (chk_whole h) hl h0
        rw [scnF_pass s _ _ hne, strV_err _ hne]
        have hpos : 0 ≤ (chk (sub s p)).1 ∧ (chk (sub s p)).1 ≤ s.size := by
          obtain ⟨j, h1, h2, _⟩ := chkL_bound (sub s p).data.toList st0 0
          rw [data_len, hz2] at h1
          unfold chk; rw [h2]; omega
        dsimp only
        have e3 : wrap64 ((p : Int) + (chk (sub s p)).1) = ((p + (chk (sub s p)).1.toNat : Nat) : Int) := by unfold wrap64; omega
        rw [e3]
      · rw [if_neg h0]
        have hn : ∃ n : Nat, (pt (sub s p)).2 = n := by
          obtain ⟨x, t, _, h2, _⟩ := enc_ptL h0
          exact ⟨x.length, h2⟩
        obtain ⟨n, hn⟩ := hn
        have e1 : plainN s p = (n, 0) := by unfold plainN; rw [if_neg h0, hn]; rfl
        rw [e1] at ok ⊢
        dsimp only at ok ⊢
        have ok2 := ok.2.1 rfl
        rw [hn, wrap_nat p n (by omega), if_pos (by omega), if_pos (by omega), Int.toNat_natCast]
        have hl := bytesOf_len s p n (by omega)
        have hx : (s.extract p (p + n)).size = n := by rw [ByteArray.size_extract]; omega
        rw [hx, if_pos (by omega)]
        exact ih (p + n) k (out ++ Go.Proofs.Ytlbokaekhjjabaa.bytesOf s p n) (by omega) (by omega) (by rw [List.length_append, hl]; omega)
theorem refScan_f (s : ByteArray) (hs : s.size ≤ 140737488351232) : ∃ k, glossatorref03_Scan.f k s = some (strV (scanF s)) := by
  refine ⟨s.size + 1 + 13, ?_⟩
  unfold glossatorref03_Scan.f
  by_cases hz : s.toList = []
  · have h0 : s.size = 0 := by
      have := ne_nil s
      refine Classical.byContradiction fun h => (this (by omega)).2 hz
    rw [if_pos hz]
    have e : nx s (fun c => c == 34) 0 0 = (0, 0, 3) := by unfold nx; rw [if_neg (by decide), if_neg (by omega)]
    have e2 : scanF s = ([], 0, 3) := by
      show scnF s (nx s (fun c => c == 34) 0 0).2.1 (nx s (fun c => c == 34) 0 0).2.2 [] = _
      rw [e, scnF_pass s _ _ (by decide)]
    rw [e2]; rfl
  · have h0 : 0 < s.size := by
      refine Classical.byContradiction fun h => hz ?_
      have : s = ByteArray.empty := by
        refine ByteArray.ext ?_
        exact Array.eq_empty_of_size_eq_zero (by have : s.data.size = s.size := rfl; omega)
      rw [this]; decide +kernel
    rw [if_neg hz, if_pos (by omega)]
    have hb : bt s 0 = byteAt s 0 := bt_byte s 0 h0
    rw [hb]
    by_cases h34 : byteAt s 0 = 34
    · have e2 : scanF s = scnF s 1 0 [] := by
        show scnF s (nx s (fun c => c == 34) 0 0).2.1 (nx s (fun c => c == 34) 0 0).2.2 [] = _
        rw [nx_hit (is := fun c => c == 34) h0 h34 (by decide)]
      rw [if_pos h34, e2]
      have := scan_l s hs (s.size + 1) 1 0 [] (by omega) (by omega) (by simp)
      rw [Nat.zero_add] at this
      exact this
    · have e : nx s (fun c => c == 34) 0 0 = (0, 0, 4) := by unfold nx; rw [if_neg (by decide), if_pos h0, if_neg (by simpa using h34)]
      have e2 : scanF s = ([], 0, 4) := by
        show scnF s (nx s (fun c => c == 34) 0 0).2.1 (nx s (fun c => c == 34) 0 0).2.2 [] = _
        rw [e, scnF_pass s _ _ (by decide)]
      rw [if_neg h34, e2]; rfl
end Go.Proofs.Ytlbokaekhjjabaa.Pure

/-
  Of EscScans, without Go: the code's Scan and the reference's tell the same.
-/
namespace Go.Proofs.Ytlbokaekhjjabaa.Pure
open Go.RowKit Go.Proofs.Ytlbokaekhjjabaa Go.Proofs.Ytlbokaekhjjabaa.S Go.Proofs.YtlbokaekhjjabaaW.PrintWords Go.Proofs.YtlbokaekhjjabaaW.PrintLast
set_option linter.unusedVariables false

theorem EscScans : glossatorlaw03_EscScans.Pure := by
  intro s hs
  obtain ⟨k, hk⟩ := refScan_f s hs
  refine ⟨k, ?_⟩
  have hR := (scan_right s).1
  have hq := hR.at'
  have hv : strV (scanF s) = (strOfNums (scanF s).1, ((scanF s).2.1 : Int), (scanF s).2.2) := by
    unfold strV
    by_cases h : (scanF s).2.2 = 0
    · rw [if_pos h]
    · rw [if_neg h, hR.none h]; rfl
  unfold glossatorlaw03_EscScans.f
  rw [scanS s (by omega) (by omega), hk, hv, Option.bind_some, Option.bind_some]
  dsimp only
  rw [if_pos rfl, if_pos rfl, if_pos rfl, awakeS, Option.bind_some]
end Go.Proofs.Ytlbokaekhjjabaa.Pure

-- Written by a program of this session (joint.sh) out of the translation. Not trusted: Lean checks it.
namespace Go.Proofs.Ytlbokaekhjjabaa.escScans
open Go.ChangeShapes Go.WideShapes Go.ChangeAt Go.RowKit
open Go.ChangeMaps (open_string shut_string)
set_option linter.unusedVariables false
theorem own : ownKnob Try.prog.godebug = none := by kernel_rfl
set_option maxRecDepth 100000 in
theorem lifted (os : Os) (started : os.Started) (H : Type) (enc : TypeId × Value → H) :
    ReturnsInHanded {} Try.checked os 12 .any (Rows.escScansSpec.pre6 enc Try.prog Try.f12 Rows.escScansRow.domain false) (Rows.escScansSpec.post enc Try.prog Try.f12 false true false false) := by
  refine returnsInHanded_of_change_sized (C := Try.checked) own started (by kernel_rfl) Try.func12
    (ChangeSpec.witness6 (enc := enc) (C := Try.checked) false ⟨#[], #[.string ByteArray.empty], []⟩ 8 (by kernel_rfl) (by kernel_rfl) (by kernel_rfl) (by kernel_rfl)) ?_
  intro W base args ds gs before hval0 hW hcnd hsz0 _
  have hsz : (DataW.weightsEach Try.prog (Try.f12.params.toList ++ Rows.escScansSpec.plain.varTypes Try.prog) (ds ++ gs)).all (· ≤ reachBytes) = true := hsz0
  have hval : ∀ (j : Nat) t v, Try.f12.params[j]? = some t → args[j]? = some v → Value.okWide Try.prog W .any base t v := hval0
  have hW' := hW
  obtain ⟨p, q, hA0, hV, rfl, hfz, hnd⟩ := hW
  have hA : DataW.TrodAll enc Try.prog W 0 (fun _ => true) true Try.f12.params.toList args.toList ds p := hA0
  rw [Try.params12] at hA hval hsz
  obtain ⟨v0, vs0, d0, ds0, p0, q0, hargs, rfl, rfl, h0, r0⟩ := trodAll_cons hA
  obtain ⟨rfl, rfl, rfl⟩ := trodAll_nil r0
  obtain rfl : args = #[v0] := by cases args; simp_all
  obtain ⟨rfl, rfl⟩ := trodVars_none hV
  obtain ⟨a0, rfl, rfl, rfl, y0⟩ := open_string Try.underlying9 (hval 0 9 v0 rfl rfl) h0
  have w0 : a0.size ≤ 140737488351232 := by
    have z := sized_string hsz (j := 0) (t := 9) rfl rfl
    rw [Array.length_toList] at z
    exact z
  clear hA0 hval0 hsz0 hsz
  refine (S.glossatorlaw03_EscScans.walk Pure.EscScans a0 W w0).mono fun e W' ⟨he, bel⟩ => ?_
  subst he
  exact ⟨_, rfl, _, _, _, [], _, [], hW', trodAll_mk1 (shut_bool Try.underlying4 _), (trodAll_cons_mk (shut_string Try.underlying9 y0) trodAll_mk0), rfl, bel.frame _, fun h => by cases h⟩
theorem over : Rows.escScansRow.holds Try.pinned (OpenSpec.ofChange Rows.escScansSpec) :=
  OpenClaim.holds_of_wide 12 Try.f12 rfl rfl rfl rfl rfl rfl rfl ⟨rfl, rfl, rfl, rfl, rfl⟩ rfl rfl rfl rfl rfl (by kernel_rfl) Try.func12 (by kernel_rfl)
    (of_decide_eq_true (by kernel_rfl)) (by unfold Func.isWrapper; first | (rw [if_pos (by decide +kernel)]; kernel_rfl) | (rw [if_neg (by decide +kernel)]; exact ⟨rfl, rfl⟩))
    (fun os started H enc _ => lifted os started H enc)
theorem proved : Rows.EscScansSaid := over
#print axioms proved
end Go.Proofs.Ytlbokaekhjjabaa.escScans
namespace Go.Proofs.Ytlbokaekhjjabaa
/-- The row, under a short name, for the claim. -/
theorem escScans_holds : Rows.EscScansSaid := escScans.proved
end Go.Proofs.Ytlbokaekhjjabaa

-- Written by a program of this session (joint.sh) out of the translation. Not trusted: Lean checks it.
namespace Go.Proofs.Ytlbokaekhjjabaa.S
open Go.RowKit Go.Proofs.YtlbokaekhjjabaaW.PrintWords Go.Proofs.YtlbokaekhjjabaaW.PrintLast Go.Proofs.YtlbokaekhjjabaaW.PrintMore
attribute [local go_sem] max2_int min2_int max_two min_two max_three min_three max_four min_four   -- for this text's walks alone
set_option linter.unusedVariables false
set_option linter.unusedSimpArgs false

/-! ### glossatorlaw03_EscBack: function 13 -/
def glossatorlaw03_EscBack.f (a0 : ByteArray) (a1 : ByteArray) (a2 : Int) : Option (Bool) := (esc_Quote.f a0).bind fun bt156 => ((utf_Check.f a0).bind fun bt158 => (if bt158.2 = 0 then (if bt156.1.size + a1.size ≤ 9223372036854775807 then ((esc_Scan.f (bt156.1 ++ a1)).bind fun bt161 => (if bt156.2 = 0 then (if bt161.2.2 = 0 then (if bt161.1.toList = a0.toList then (if bt161.2.1 = (bt156.1.size : Int) then (if (bt156.1.size : Int) < 2 then (some false) else (if (bt156.1.size : Int) = 0 then (none) else (if 0 ≤ (Int.tmod (wrap64 (a2)) (bt156.1.size : Int)) then (if (Int.tmod (wrap64 (a2)) (bt156.1.size : Int)) ≤ (bt156.1.size : Int) then ((esc_Scan.f (bt156.1.extract 0 ((Int.tmod (wrap64 (a2)) (bt156.1.size : Int)) : Int).toNat)).bind fun bt164 => (if bt164.2.2 = 3 then (some (bt164.2.1 == (Int.tmod (wrap64 (a2)) (bt156.1.size : Int)))) else (some false))) else (none)) else (none)))) else (some false)) else (some false)) else (some false)) else (some false))) else (none)) else (if bt156.2 = 4 then (if bt156.1.toList = ([] : List UInt8) then ((glossatorlaw03_awake.f).bind fun t160 => (some t160)) else (some false)) else (some false))))
set_option maxHeartbeats 8000000 in
set_option maxRecDepth 100000 in
theorem glossatorlaw03_EscBack.calls (a0 : ByteArray) (a1 : ByteArray) (a2 : Int) (r : Bool) (w : World) (h : glossatorlaw03_EscBack.f a0 a1 a2 = some r) :
    Calls Try.prog 13 #[.string a0, .string a1, .int .u16 a2] w fun e w' => e = .returned (.bool r) ∧ Below w.heap.size w w' := by
  have HB := Aside0.mk (Below.refl w.heap.size w)
  have H : ((esc_Quote.f a0).bind fun bt156 => ((utf_Check.f a0).bind fun bt158 => (if bt158.2 = 0 then (if bt156.1.size + a1.size ≤ 9223372036854775807 then ((esc_Scan.f (bt156.1 ++ a1)).bind fun bt161 => (if bt156.2 = 0 then (if bt161.2.2 = 0 then (if bt161.1.toList = a0.toList then (if bt161.2.1 = (bt156.1.size : Int) then (if (bt156.1.size : Int) < 2 then (some false) else (if (bt156.1.size : Int) = 0 then (none) else (if 0 ≤ (Int.tmod (wrap64 (a2)) (bt156.1.size : Int)) then (if (Int.tmod (wrap64 (a2)) (bt156.1.size : Int)) ≤ (bt156.1.size : Int) then ((esc_Scan.f (bt156.1.extract 0 ((Int.tmod (wrap64 (a2)) (bt156.1.size : Int)) : Int).toNat)).bind fun bt164 => (if bt164.2.2 = 3 then (some (bt164.2.1 == (Int.tmod (wrap64 (a2)) (bt156.1.size : Int)))) else (some false))) else (none)) else (none)))) else (some false)) else (some false)) else (some false)) else (some false))) else (none)) else (if bt156.2 = 4 then (if bt156.1.toList = ([] : List UInt8) then ((glossatorlaw03_awake.f).bind fun t160 => (some t160)) else (some false)) else (some false))))) = some r := h
  clear h
  replace H := Option.bind_eq_some_iff.mp H
  obtain ⟨⟨t156, t157⟩, A40, H⟩ := H
  replace H : ((utf_Check.f a0).bind fun bt158 => (if bt158.2 = 0 then (if t156.size + a1.size ≤ 9223372036854775807 then ((esc_Scan.f (t156 ++ a1)).bind fun bt161 => (if t157 = 0 then (if bt161.2.2 = 0 then (if bt161.1.toList = a0.toList then (if bt161.2.1 = (t156.size : Int) then (if (t156.size : Int) < 2 then (some false) else (if (t156.size : Int) = 0 then (none) else (if 0 ≤ (Int.tmod (wrap64 (a2)) (t156.size : Int)) then (if (Int.tmod (wrap64 (a2)) (t156.size : Int)) ≤ (t156.size : Int) then ((esc_Scan.f (t156.extract 0 ((Int.tmod (wrap64 (a2)) (t156.size : Int)) : Int).toNat)).bind fun bt164 => (if bt164.2.2 = 3 then (some (bt164.2.1 == (Int.tmod (wrap64 (a2)) (t156.size : Int)))) else (some false))) else (none)) else (none)))) else (some false)) else (some false)) else (some false)) else (some false))) else (none)) else (if t157 = 4 then (if t156.toList = ([] : List UInt8) then ((glossatorlaw03_awake.f).bind fun t160 => (some t160)) else (some false)) else (some false)))) = some r := H
  have A4 := Aside0.mk A40
  clear A40
  replace H := Option.bind_eq_some_iff.mp H
  obtain ⟨⟨t158, t159⟩, A50, H⟩ := H
  replace H : (if t159 = 0 then (if t156.size + a1.size ≤ 9223372036854775807 then ((esc_Scan.f (t156 ++ a1)).bind fun bt161 => (if t157 = 0 then (if bt161.2.2 = 0 then (if bt161.1.toList = a0.toList then (if bt161.2.1 = (t156.size : Int) then (if (t156.size : Int) < 2 then (some false) else (if (t156.size : Int) = 0 then (none) else (if 0 ≤ (Int.tmod (wrap64 (a2)) (t156.size : Int)) then (if (Int.tmod (wrap64 (a2)) (t156.size : Int)) ≤ (t156.size : Int) then ((esc_Scan.f (t156.extract 0 ((Int.tmod (wrap64 (a2)) (t156.size : Int)) : Int).toNat)).bind fun bt164 => (if bt164.2.2 = 3 then (some (bt164.2.1 == (Int.tmod (wrap64 (a2)) (t156.size : Int)))) else (some false))) else (none)) else (none)))) else (some false)) else (some false)) else (some false)) else (some false))) else (none)) else (if t157 = 4 then (if t156.toList = ([] : List UInt8) then ((glossatorlaw03_awake.f).bind fun t160 => (some t160)) else (some false)) else (some false))) = some r := H
  have A5 := Aside0.mk A50
  clear A50
  by_cases c6 : t159 = 0
  · rw [if_pos c6] at H
    have c6b0 : (t159 == 0) = true := beq_iff_eq.mpr c6
    have c6b1 : (t159 != 0) = false := bne_eq_false_iff_eq.mpr c6
    clear c6
    by_cases c7 : t156.size + a1.size ≤ 9223372036854775807
    · rw [if_pos c7] at H
      have c7b0 := eq_true c7
      have c7b1 : decide (t156.size + a1.size ≤ 9223372036854775807) = true := decide_eq_true c7
      try have c7b2 : (9223372036854775807 < t156.size + a1.size) = False := eq_false (Nat.not_lt.2 c7)
      replace H := Option.bind_eq_some_iff.mp H
      obtain ⟨⟨t161, t162, t163⟩, A80, H⟩ := H
      replace H : (if t157 = 0 then (if t163 = 0 then (if t161.toList = a0.toList then (if t162 = (t156.size : Int) then (if (t156.size : Int) < 2 then (some false) else (if (t156.size : Int) = 0 then (none) else (if 0 ≤ (Int.tmod (wrap64 (a2)) (t156.size : Int)) then (if (Int.tmod (wrap64 (a2)) (t156.size : Int)) ≤ (t156.size : Int) then ((esc_Scan.f (t156.extract 0 ((Int.tmod (wrap64 (a2)) (t156.size : Int)) : Int).toNat)).bind fun bt164 => (if bt164.2.2 = 3 then (some (bt164.2.1 == (Int.tmod (wrap64 (a2)) (t156.size : Int)))) else (some false))) else (none)) else (none)))) else (some false)) else (some false)) else (some false)) else (some false)) = some r := H
      have A8 := Aside0.mk A80
      clear A80
      by_cases c9 : t157 = 0
      · rw [if_pos c9] at H
        have c9b0 : (t157 == 0) = true := beq_iff_eq.mpr c9
        have c9b1 : (t157 != 0) = false := bne_eq_false_iff_eq.mpr c9
        clear c9
        by_cases c10 : t163 = 0
        · rw [if_pos c10] at H
          have c10b0 : (t163 == 0) = true := beq_iff_eq.mpr c10
          have c10b1 : (t163 != 0) = false := bne_eq_false_iff_eq.mpr c10
          clear c10
          by_cases c11 : t161.toList = a0.toList
          · rw [if_pos c11] at H
            have c11b0 : (t161.toList == a0.toList) = true := beq_iff_eq.mpr c11
            have c11b1 : (t161.toList != a0.toList) = false := bne_eq_false_iff_eq.mpr c11
            clear c11
            by_cases c12 : t162 = (t156.size : Int)
            · rw [if_pos c12] at H
              have c12b0 : (t162 == (t156.size : Int)) = true := beq_iff_eq.mpr c12
              have c12b1 : (t162 != (t156.size : Int)) = false := bne_eq_false_iff_eq.mpr c12
              clear c12
              by_cases c13 : (t156.size : Int) < 2
              · rw [if_pos c13] at H
                have c13b0 : decide ((t156.size : Int) < 2) = true := decide_eq_true c13
                have c13b1 : decide (t156.size < 2) = true := decide_eq_true (by omega)
                clear c13
                obtain rfl := Option.some.inj H
                go_enter Try.func13, Try.ntmps13
                go_wp2_with (first | ((with_reducible refine gate_callee (f := 30) rfl ?_); refine goesL_ (some 20) rfl rfl Try.func30 (by kernel_rfl) rfl #[.string a0] rfl (by (try simp only [List.map_toArray, List.map_cons, List.map_nil]); first | done | rfl | (simp only [List.length_drop, List.length_take]; rfl)) ?_; (with_reducible refine (esc_Quote.calls a0 t156 t157 _ A4.out).mono ?_); rintro e w14 ⟨rfl, hb⟩; refine ⟨_, rfl, ?_⟩; have n0_ := Aside0.mk (below_step (by repeat (first | (with_reducible first | exact HB.out | apply below_alloc | apply pw_below_drewN | apply below_drew1) | exact HB.out)) hb); clear HB; have HB := n0_; clear n0_; (try clear hb); (try clear hb2); (try clear hk); (try clear hi)) | ((with_reducible refine gate_callee (f := 20) rfl ?_); refine goesL_ (some 25) rfl rfl Try.func20 (by kernel_rfl) rfl #[.string a0] rfl (by (try simp only [List.map_toArray, List.map_cons, List.map_nil]); first | done | rfl | (simp only [List.length_drop, List.length_take]; rfl)) ?_; (with_reducible refine (utf_Check.calls a0 t158 t159 _ A5.out).mono ?_); rintro e w15 ⟨rfl, hb⟩; refine ⟨_, rfl, ?_⟩; have n0_ := Aside0.mk (below_step (by repeat (first | (with_reducible first | exact HB.out | apply below_alloc | apply pw_below_drewN | apply below_drew1) | exact HB.out)) hb); clear HB; have HB := n0_; clear n0_; (try clear hb); (try clear hb2); (try clear hk); (try clear hi)) | ((with_reducible refine gate_callee (f := 37) rfl ?_); refine goesL_ (some 43) rfl rfl Try.func37 (by kernel_rfl) rfl #[.string (t156 ++ a1)] rfl (by (try simp only [List.map_toArray, List.map_cons, List.map_nil]); first | done | rfl | (simp only [List.length_drop, List.length_take]; rfl)) ?_; (with_reducible refine (esc_Scan.calls (t156 ++ a1) t161 t162 t163 _ A8.out).mono ?_); rintro e w16 ⟨rfl, hb⟩; refine ⟨_, rfl, ?_⟩; have n0_ := Aside0.mk (below_step (by repeat (first | (with_reducible first | exact HB.out | apply below_alloc | apply pw_below_drewN | apply below_drew1) | exact HB.out)) hb); clear HB; have HB := n0_; clear n0_; (try clear hb); (try clear hb2); (try clear hk); (try clear hi)))
                go_ret
                exact ⟨by first | rfl | (simp [errW_none, errW_some] <;> rfl) | (simp [*, errW_none, errW_some] <;> rfl), by repeat (first | (with_reducible first | exact HB.out | apply below_alloc | apply pw_below_drewN | apply below_drew1) | exact HB.out)⟩
              · rw [if_neg c13] at H
                have c13b0 : decide ((t156.size : Int) < 2) = false := decide_eq_false c13
                have c13b1 : decide (t156.size < 2) = false := decide_eq_false (by omega)
                clear c13
                by_cases c17 : (t156.size : Int) = 0
                · rw [if_pos c17] at H
                  exact absurd H (by simp)
                · rw [if_neg c17] at H
                  have c17b0 : ((t156.size : Int) == 0) = false := beq_eq_false_iff_ne.mpr c17
                  have c17b1 : ((t156.size : Int) != 0) = true := bne_iff_ne.mpr c17
                  obtain ⟨ji18, hji18⟩ : ∃ j_ : Int, (Int.tmod (wrap64 (a2)) (t156.size : Int)) = j_ := ⟨_, rfl⟩
                  replace H : (if 0 ≤ (ji18) then (if (ji18) ≤ (t156.size : Int) then ((esc_Scan.f (t156.extract 0 ((ji18) : Int).toNat)).bind fun bt164 => (if bt164.2.2 = 3 then (some (bt164.2.1 == (ji18))) else (some false))) else (none)) else (none)) = some r := by first | (rw [hji18] at H; exact H) | (simp only [hji18] at H ⊢; exact H)
                  (try rw [hji18] at A4)
                  (try rw [hji18] at A5)
                  (try rw [hji18] at A8)
                  by_cases c19 : 0 ≤ (ji18)
                  · rw [if_pos c19] at H
                    have c19b0 := eq_true c19
                    have c19b1 : decide (0 ≤ (ji18)) = true := decide_eq_true c19
                    clear c19
                    by_cases c20 : (ji18) ≤ (t156.size : Int)
                    · rw [if_pos c20] at H
                      have c20b0 := eq_true c20
                      have c20b1 : decide ((ji18) ≤ (t156.size : Int)) = true := decide_eq_true c20
                      clear c20
                      replace H := Option.bind_eq_some_iff.mp H
                      obtain ⟨⟨t164, t165, t166⟩, A210, H⟩ := H
                      replace H : (if t166 = 3 then (some (t165 == (ji18))) else (some false)) = some r := H
                      have A21 := Aside0.mk A210
                      clear A210
                      by_cases c22 : t166 = 3
                      · rw [if_pos c22] at H
                        have c22b0 : (t166 == 3) = true := beq_iff_eq.mpr c22
                        have c22b1 : (t166 != 3) = false := bne_eq_false_iff_eq.mpr c22
                        clear c22
                        obtain rfl := Option.some.inj H
                        go_enter Try.func13, Try.ntmps13
                        go_wp2_with (first | ((with_reducible refine gate_callee (f := 30) rfl ?_); refine goesL_ (some 20) rfl rfl Try.func30 (by kernel_rfl) rfl #[.string a0] rfl (by (try simp only [List.map_toArray, List.map_cons, List.map_nil]); first | done | rfl | (simp only [List.length_drop, List.length_take]; rfl)) ?_; (with_reducible refine (esc_Quote.calls a0 t156 t157 _ A4.out).mono ?_); rintro e w23 ⟨rfl, hb⟩; refine ⟨_, rfl, ?_⟩; have n0_ := Aside0.mk (below_step (by repeat (first | (with_reducible first | exact HB.out | apply below_alloc | apply pw_below_drewN | apply below_drew1) | exact HB.out)) hb); clear HB; have HB := n0_; clear n0_; (try clear hb); (try clear hb2); (try clear hk); (try clear hi)) | ((with_reducible refine gate_callee (f := 20) rfl ?_); refine goesL_ (some 25) rfl rfl Try.func20 (by kernel_rfl) rfl #[.string a0] rfl (by (try simp only [List.map_toArray, List.map_cons, List.map_nil]); first | done | rfl | (simp only [List.length_drop, List.length_take]; rfl)) ?_; (with_reducible refine (utf_Check.calls a0 t158 t159 _ A5.out).mono ?_); rintro e w24 ⟨rfl, hb⟩; refine ⟨_, rfl, ?_⟩; have n0_ := Aside0.mk (below_step (by repeat (first | (with_reducible first | exact HB.out | apply below_alloc | apply pw_below_drewN | apply below_drew1) | exact HB.out)) hb); clear HB; have HB := n0_; clear n0_; (try clear hb); (try clear hb2); (try clear hk); (try clear hi)) | ((with_reducible refine gate_callee (f := 37) rfl ?_); refine goesL_ (some 43) rfl rfl Try.func37 (by kernel_rfl) rfl #[.string (t156 ++ a1)] rfl (by (try simp only [List.map_toArray, List.map_cons, List.map_nil]); first | done | rfl | (simp only [List.length_drop, List.length_take]; rfl)) ?_; (with_reducible refine (esc_Scan.calls (t156 ++ a1) t161 t162 t163 _ A8.out).mono ?_); rintro e w25 ⟨rfl, hb⟩; refine ⟨_, rfl, ?_⟩; have n0_ := Aside0.mk (below_step (by repeat (first | (with_reducible first | exact HB.out | apply below_alloc | apply pw_below_drewN | apply below_drew1) | exact HB.out)) hb); clear HB; have HB := n0_; clear n0_; (try clear hb); (try clear hb2); (try clear hk); (try clear hi)) | ((with_reducible refine gate_callee (f := 37) rfl ?_); refine goesL_ (some 78) rfl rfl Try.func37 (by kernel_rfl) rfl #[.string (t156.extract 0 ((ji18) : Int).toNat)] rfl (by (try simp only [List.map_toArray, List.map_cons, List.map_nil]); first | done | (simp only [hji18]; rfl) | rfl | (simp only [List.length_drop, List.length_take]; rfl)) ?_; (with_reducible refine (esc_Scan.calls (t156.extract 0 ((ji18) : Int).toNat) t164 t165 t166 _ A21.out).mono ?_); rintro e w26 ⟨rfl, hb⟩; refine ⟨_, rfl, ?_⟩; have n0_ := Aside0.mk (below_step (by repeat (first | (with_reducible first | exact HB.out | apply below_alloc | apply pw_below_drewN | apply below_drew1) | exact HB.out)) hb); clear HB; have HB := n0_; clear n0_; (try clear hb); (try clear hb2); (try clear hk); (try clear hi)))
                        go_ret
                        exact ⟨by first | rfl | (simp [errW_none, errW_some] <;> rfl) | (simp only [← hji18]; first | rfl | (simp [errW_none, errW_some] <;> rfl)) | (simp [*, errW_none, errW_some] <;> rfl), by repeat (first | (with_reducible first | exact HB.out | apply below_alloc | apply pw_below_drewN | apply below_drew1) | exact HB.out)⟩
                      · rw [if_neg c22] at H
                        have c22b0 : (t166 == 3) = false := beq_eq_false_iff_ne.mpr c22
                        have c22b1 : (t166 != 3) = true := bne_iff_ne.mpr c22
                        obtain rfl := Option.some.inj H
                        go_enter Try.func13, Try.ntmps13
                        go_wp2_with (first | ((with_reducible refine gate_callee (f := 30) rfl ?_); refine goesL_ (some 20) rfl rfl Try.func30 (by kernel_rfl) rfl #[.string a0] rfl (by (try simp only [List.map_toArray, List.map_cons, List.map_nil]); first | done | rfl | (simp only [List.length_drop, List.length_take]; rfl)) ?_; (with_reducible refine (esc_Quote.calls a0 t156 t157 _ A4.out).mono ?_); rintro e w27 ⟨rfl, hb⟩; refine ⟨_, rfl, ?_⟩; have n0_ := Aside0.mk (below_step (by repeat (first | (with_reducible first | exact HB.out | apply below_alloc | apply pw_below_drewN | apply below_drew1) | exact HB.out)) hb); clear HB; have HB := n0_; clear n0_; (try clear hb); (try clear hb2); (try clear hk); (try clear hi)) | ((with_reducible refine gate_callee (f := 20) rfl ?_); refine goesL_ (some 25) rfl rfl Try.func20 (by kernel_rfl) rfl #[.string a0] rfl (by (try simp only [List.map_toArray, List.map_cons, List.map_nil]); first | done | rfl | (simp only [List.length_drop, List.length_take]; rfl)) ?_; (with_reducible refine (utf_Check.calls a0 t158 t159 _ A5.out).mono ?_); rintro e w28 ⟨rfl, hb⟩; refine ⟨_, rfl, ?_⟩; have n0_ := Aside0.mk (below_step (by repeat (first | (with_reducible first | exact HB.out | apply below_alloc | apply pw_below_drewN | apply below_drew1) | exact HB.out)) hb); clear HB; have HB := n0_; clear n0_; (try clear hb); (try clear hb2); (try clear hk); (try clear hi)) | ((with_reducible refine gate_callee (f := 37) rfl ?_); refine goesL_ (some 43) rfl rfl Try.func37 (by kernel_rfl) rfl #[.string (t156 ++ a1)] rfl (by (try simp only [List.map_toArray, List.map_cons, List.map_nil]); first | done | rfl | (simp only [List.length_drop, List.length_take]; rfl)) ?_; (with_reducible refine (esc_Scan.calls (t156 ++ a1) t161 t162 t163 _ A8.out).mono ?_); rintro e w29 ⟨rfl, hb⟩; refine ⟨_, rfl, ?_⟩; have n0_ := Aside0.mk (below_step (by repeat (first | (with_reducible first | exact HB.out | apply below_alloc | apply pw_below_drewN | apply below_drew1) | exact HB.out)) hb); clear HB; have HB := n0_; clear n0_; (try clear hb); (try clear hb2); (try clear hk); (try clear hi)) | ((with_reducible refine gate_callee (f := 37) rfl ?_); refine goesL_ (some 78) rfl rfl Try.func37 (by kernel_rfl) rfl #[.string (t156.extract 0 ((ji18) : Int).toNat)] rfl (by (try simp only [List.map_toArray, List.map_cons, List.map_nil]); first | done | (simp only [hji18]; rfl) | rfl | (simp only [List.length_drop, List.length_take]; rfl)) ?_; (with_reducible refine (esc_Scan.calls (t156.extract 0 ((ji18) : Int).toNat) t164 t165 t166 _ A21.out).mono ?_); rintro e w30 ⟨rfl, hb⟩; refine ⟨_, rfl, ?_⟩; have n0_ := Aside0.mk (below_step (by repeat (first | (with_reducible first | exact HB.out | apply below_alloc | apply pw_below_drewN | apply below_drew1) | exact HB.out)) hb); clear HB; have HB := n0_; clear n0_; (try clear hb); (try clear hb2); (try clear hk); (try clear hi)))
                        go_ret
                        exact ⟨by first | rfl | (simp [errW_none, errW_some] <;> rfl) | (simp only [← hji18]; first | rfl | (simp [errW_none, errW_some] <;> rfl)) | (simp [*, errW_none, errW_some] <;> rfl), by repeat (first | (with_reducible first | exact HB.out | apply below_alloc | apply pw_below_drewN | apply below_drew1) | exact HB.out)⟩
                    · rw [if_neg c20] at H
                      exact absurd H (by simp)
                  · rw [if_neg c19] at H
                    exact absurd H (by simp)
            · rw [if_neg c12] at H
              have c12b0 : (t162 == (t156.size : Int)) = false := beq_eq_false_iff_ne.mpr c12
              have c12b1 : (t162 != (t156.size : Int)) = true := bne_iff_ne.mpr c12
              obtain rfl := Option.some.inj H
              go_enter Try.func13, Try.ntmps13
              go_wp2_with (first | ((with_reducible refine gate_callee (f := 30) rfl ?_); refine goesL_ (some 20) rfl rfl Try.func30 (by kernel_rfl) rfl #[.string a0] rfl (by (try simp only [List.map_toArray, List.map_cons, List.map_nil]); first | done | rfl | (simp only [List.length_drop, List.length_take]; rfl)) ?_; (with_reducible refine (esc_Quote.calls a0 t156 t157 _ A4.out).mono ?_); rintro e w31 ⟨rfl, hb⟩; refine ⟨_, rfl, ?_⟩; have n0_ := Aside0.mk (below_step (by repeat (first | (with_reducible first | exact HB.out | apply below_alloc | apply pw_below_drewN | apply below_drew1) | exact HB.out)) hb); clear HB; have HB := n0_; clear n0_; (try clear hb); (try clear hb2); (try clear hk); (try clear hi)) | ((with_reducible refine gate_callee (f := 20) rfl ?_); refine goesL_ (some 25) rfl rfl Try.func20 (by kernel_rfl) rfl #[.string a0] rfl (by (try simp only [List.map_toArray, List.map_cons, List.map_nil]); first | done | rfl | (simp only [List.length_drop, List.length_take]; rfl)) ?_; (with_reducible refine (utf_Check.calls a0 t158 t159 _ A5.out).mono ?_); rintro e w32 ⟨rfl, hb⟩; refine ⟨_, rfl, ?_⟩; have n0_ := Aside0.mk (below_step (by repeat (first | (with_reducible first | exact HB.out | apply below_alloc | apply pw_below_drewN | apply below_drew1) | exact HB.out)) hb); clear HB; have HB := n0_; clear n0_; (try clear hb); (try clear hb2); (try clear hk); (try clear hi)) | ((with_reducible refine gate_callee (f := 37) rfl ?_); refine goesL_ (some 43) rfl rfl Try.func37 (by kernel_rfl) rfl #[.string (t156 ++ a1)] rfl (by (try simp only [List.map_toArray, List.map_cons, List.map_nil]); first | done | rfl | (simp only [List.length_drop, List.length_take]; rfl)) ?_; (with_reducible refine (esc_Scan.calls (t156 ++ a1) t161 t162 t163 _ A8.out).mono ?_); rintro e w33 ⟨rfl, hb⟩; refine ⟨_, rfl, ?_⟩; have n0_ := Aside0.mk (below_step (by repeat (first | (with_reducible first | exact HB.out | apply below_alloc | apply pw_below_drewN | apply below_drew1) | exact HB.out)) hb); clear HB; have HB := n0_; clear n0_; (try clear hb); (try clear hb2); (try clear hk); (try clear hi)))
              go_ret
              exact ⟨by first | rfl | (simp [errW_none, errW_some] <;> rfl) | (simp [*, errW_none, errW_some] <;> rfl), by repeat (first | (with_reducible first | exact HB.out | apply below_alloc | apply pw_below_drewN | apply below_drew1) | exact HB.out)⟩
          · rw [if_neg c11] at H
            have c11b0 : (t161.toList == a0.toList) = false := beq_eq_false_iff_ne.mpr c11
            have c11b1 : (t161.toList != a0.toList) = true := bne_iff_ne.mpr c11
            obtain rfl := Option.some.inj H
            go_enter Try.func13, Try.ntmps13
            go_wp2_with (first | ((with_reducible refine gate_callee (f := 30) rfl ?_); refine goesL_ (some 20) rfl rfl Try.func30 (by kernel_rfl) rfl #[.string a0] rfl (by (try simp only [List.map_toArray, List.map_cons, List.map_nil]); first | done | rfl | (simp only [List.length_drop, List.length_take]; rfl)) ?_; (with_reducible refine (esc_Quote.calls a0 t156 t157 _ A4.out).mono ?_); rintro e w34 ⟨rfl, hb⟩; refine ⟨_, rfl, ?_⟩; have n0_ := Aside0.mk (below_step (by repeat (first | (with_reducible first | exact HB.out | apply below_alloc | apply pw_below_drewN | apply below_drew1) | exact HB.out)) hb); clear HB; have HB := n0_; clear n0_; (try clear hb); (try clear hb2); (try clear hk); (try clear hi)) | ((with_reducible refine gate_callee (f := 20) rfl ?_); refine goesL_ (some 25) rfl rfl Try.func20 (by kernel_rfl) rfl #[.string a0] rfl (by (try simp only [List.map_toArray, List.map_cons, List.map_nil]); first | done | rfl | (simp only [List.length_drop, List.length_take]; rfl)) ?_; (with_reducible refine (utf_Check.calls a0 t158 t159 _ A5.out).mono ?_); rintro e w35 ⟨rfl, hb⟩; refine ⟨_, rfl, ?_⟩; have n0_ := Aside0.mk (below_step (by repeat (first | (with_reducible first | exact HB.out | apply below_alloc | apply pw_below_drewN | apply below_drew1) | exact HB.out)) hb); clear HB; have HB := n0_; clear n0_; (try clear hb); (try clear hb2); (try clear hk); (try clear hi)) | ((with_reducible refine gate_callee (f := 37) rfl ?_); refine goesL_ (some 43) rfl rfl Try.func37 (by kernel_rfl) rfl #[.string (t156 ++ a1)] rfl (by (try simp only [List.map_toArray, List.map_cons, List.map_nil]); first | done | rfl | (simp only [List.length_drop, List.length_take]; rfl)) ?_; (with_reducible refine (esc_Scan.calls (t156 ++ a1) t161 t162 t163 _ A8.out).mono ?_); rintro e w36 ⟨rfl, hb⟩; refine ⟨_, rfl, ?_⟩; have n0_ := Aside0.mk (below_step (by repeat (first | (with_reducible first | exact HB.out | apply below_alloc | apply pw_below_drewN | apply below_drew1) | exact HB.out)) hb); clear HB; have HB := n0_; clear n0_; (try clear hb); (try clear hb2); (try clear hk); (try clear hi)))
            go_ret
            exact ⟨by first | rfl | (simp [errW_none, errW_some] <;> rfl) | (simp [*, errW_none, errW_some] <;> rfl), by repeat (first | (with_reducible first | exact HB.out | apply below_alloc | apply pw_below_drewN | apply below_drew1) | exact HB.out)⟩
        · rw [if_neg c10] at H
          have c10b0 : (t163 == 0) = false := beq_eq_false_iff_ne.mpr c10
          have c10b1 : (t163 != 0) = true := bne_iff_ne.mpr c10
          obtain rfl := Option.some.inj H
          go_enter Try.func13, Try.ntmps13
          go_wp2_with (first | ((with_reducible refine gate_callee (f := 30) rfl ?_); refine goesL_ (some 20) rfl rfl Try.func30 (by kernel_rfl) rfl #[.string a0] rfl (by (try simp only [List.map_toArray, List.map_cons, List.map_nil]); first | done | rfl | (simp only [List.length_drop, List.length_take]; rfl)) ?_; (with_reducible refine (esc_Quote.calls a0 t156 t157 _ A4.out).mono ?_); rintro e w37 ⟨rfl, hb⟩; refine ⟨_, rfl, ?_⟩; have n0_ := Aside0.mk (below_step (by repeat (first | (with_reducible first | exact HB.out | apply below_alloc | apply pw_below_drewN | apply below_drew1) | exact HB.out)) hb); clear HB; have HB := n0_; clear n0_; (try clear hb); (try clear hb2); (try clear hk); (try clear hi)) | ((with_reducible refine gate_callee (f := 20) rfl ?_); refine goesL_ (some 25) rfl rfl Try.func20 (by kernel_rfl) rfl #[.string a0] rfl (by (try simp only [List.map_toArray, List.map_cons, List.map_nil]); first | done | rfl | (simp only [List.length_drop, List.length_take]; rfl)) ?_; (with_reducible refine (utf_Check.calls a0 t158 t159 _ A5.out).mono ?_); rintro e w38 ⟨rfl, hb⟩; refine ⟨_, rfl, ?_⟩; have n0_ := Aside0.mk (below_step (by repeat (first | (with_reducible first | exact HB.out | apply below_alloc | apply pw_below_drewN | apply below_drew1) | exact HB.out)) hb); clear HB; have HB := n0_; clear n0_; (try clear hb); (try clear hb2); (try clear hk); (try clear hi)) | ((with_reducible refine gate_callee (f := 37) rfl ?_); refine goesL_ (some 43) rfl rfl Try.func37 (by kernel_rfl) rfl #[.string (t156 ++ a1)] rfl (by (try simp only [List.map_toArray, List.map_cons, List.map_nil]); first | done | rfl | (simp only [List.length_drop, List.length_take]; rfl)) ?_; (with_reducible refine (esc_Scan.calls (t156 ++ a1) t161 t162 t163 _ A8.out).mono ?_); rintro e w39 ⟨rfl, hb⟩; refine ⟨_, rfl, ?_⟩; have n0_ := Aside0.mk (below_step (by repeat (first | (with_reducible first | exact HB.out | apply below_alloc | apply pw_below_drewN | apply below_drew1) | exact HB.out)) hb); clear HB; have HB := n0_; clear n0_; (try clear hb); (try clear hb2); (try clear hk); (try clear hi)))
          go_ret
          exact ⟨by first | rfl | (simp [errW_none, errW_some] <;> rfl) | (simp [*, errW_none, errW_some] <;> rfl), by repeat (first | (with_reducible first | exact HB.out | apply below_alloc | apply pw_below_drewN | apply below_drew1) | exact HB.out)⟩
      · rw [if_neg c9] at H
        have c9b0 : (t157 == 0) = false := beq_eq_false_iff_ne.mpr c9
        have c9b1 : (t157 != 0) = true := bne_iff_ne.mpr c9
        obtain rfl := Option.some.inj H
        go_enter Try.func13, Try.ntmps13
        go_wp2_with (first | ((with_reducible refine gate_callee (f := 30) rfl ?_); refine goesL_ (some 20) rfl rfl Try.func30 (by kernel_rfl) rfl #[.string a0] rfl (by (try simp only [List.map_toArray, List.map_cons, List.map_nil]); first | done | rfl | (simp only [List.length_drop, List.length_take]; rfl)) ?_; (with_reducible refine (esc_Quote.calls a0 t156 t157 _ A4.out).mono ?_); rintro e w40 ⟨rfl, hb⟩; refine ⟨_, rfl, ?_⟩; have n0_ := Aside0.mk (below_step (by repeat (first | (with_reducible first | exact HB.out | apply below_alloc | apply pw_below_drewN | apply below_drew1) | exact HB.out)) hb); clear HB; have HB := n0_; clear n0_; (try clear hb); (try clear hb2); (try clear hk); (try clear hi)) | ((with_reducible refine gate_callee (f := 20) rfl ?_); refine goesL_ (some 25) rfl rfl Try.func20 (by kernel_rfl) rfl #[.string a0] rfl (by (try simp only [List.map_toArray, List.map_cons, List.map_nil]); first | done | rfl | (simp only [List.length_drop, List.length_take]; rfl)) ?_; (with_reducible refine (utf_Check.calls a0 t158 t159 _ A5.out).mono ?_); rintro e w41 ⟨rfl, hb⟩; refine ⟨_, rfl, ?_⟩; have n0_ := Aside0.mk (below_step (by repeat (first | (with_reducible first | exact HB.out | apply below_alloc | apply pw_below_drewN | apply below_drew1) | exact HB.out)) hb); clear HB; have HB := n0_; clear n0_; (try clear hb); (try clear hb2); (try clear hk); (try clear hi)) | ((with_reducible refine gate_callee (f := 37) rfl ?_); refine goesL_ (some 43) rfl rfl Try.func37 (by kernel_rfl) rfl #[.string (t156 ++ a1)] rfl (by (try simp only [List.map_toArray, List.map_cons, List.map_nil]); first | done | rfl | (simp only [List.length_drop, List.length_take]; rfl)) ?_; (with_reducible refine (esc_Scan.calls (t156 ++ a1) t161 t162 t163 _ A8.out).mono ?_); rintro e w42 ⟨rfl, hb⟩; refine ⟨_, rfl, ?_⟩; have n0_ := Aside0.mk (below_step (by repeat (first | (with_reducible first | exact HB.out | apply below_alloc | apply pw_below_drewN | apply below_drew1) | exact HB.out)) hb); clear HB; have HB := n0_; clear n0_; (try clear hb); (try clear hb2); (try clear hk); (try clear hi)))
        go_ret
        exact ⟨by first | rfl | (simp [errW_none, errW_some] <;> rfl) | (simp [*, errW_none, errW_some] <;> rfl), by repeat (first | (with_reducible first | exact HB.out | apply below_alloc | apply pw_below_drewN | apply below_drew1) | exact HB.out)⟩
    · rw [if_neg c7] at H
      exact absurd H (by simp)
  · rw [if_neg c6] at H
    have c6b0 : (t159 == 0) = false := beq_eq_false_iff_ne.mpr c6
    have c6b1 : (t159 != 0) = true := bne_iff_ne.mpr c6
    by_cases c43 : t157 = 4
    · rw [if_pos c43] at H
      have c43b0 : (t157 == 4) = true := beq_iff_eq.mpr c43
      have c43b1 : (t157 != 4) = false := bne_eq_false_iff_eq.mpr c43
      clear c43
      by_cases c44 : t156.toList = ([] : List UInt8)
      · rw [if_pos c44] at H
        have c44b0 : (t156.toList == ([] : List UInt8)) = true := beq_iff_eq.mpr c44
        have c44b1 : (t156.toList != ([] : List UInt8)) = false := bne_eq_false_iff_eq.mpr c44
        clear c44
        replace H := Option.bind_eq_some_iff.mp H
        obtain ⟨t160, A450, H⟩ := H
        replace H : (some t160) = some r := H
        have A45 := Aside0.mk A450
        clear A450
        obtain rfl := Option.some.inj H
        go_enter Try.func13, Try.ntmps13
        go_wp2_with (first | ((with_reducible refine gate_callee (f := 30) rfl ?_); refine goesL_ (some 20) rfl rfl Try.func30 (by kernel_rfl) rfl #[.string a0] rfl (by (try simp only [List.map_toArray, List.map_cons, List.map_nil]); first | done | rfl | (simp only [List.length_drop, List.length_take]; rfl)) ?_; (with_reducible refine (esc_Quote.calls a0 t156 t157 _ A4.out).mono ?_); rintro e w46 ⟨rfl, hb⟩; refine ⟨_, rfl, ?_⟩; have n0_ := Aside0.mk (below_step (by repeat (first | (with_reducible first | exact HB.out | apply below_alloc | apply pw_below_drewN | apply below_drew1) | exact HB.out)) hb); clear HB; have HB := n0_; clear n0_; (try clear hb); (try clear hb2); (try clear hk); (try clear hi)) | ((with_reducible refine gate_callee (f := 20) rfl ?_); refine goesL_ (some 25) rfl rfl Try.func20 (by kernel_rfl) rfl #[.string a0] rfl (by (try simp only [List.map_toArray, List.map_cons, List.map_nil]); first | done | rfl | (simp only [List.length_drop, List.length_take]; rfl)) ?_; (with_reducible refine (utf_Check.calls a0 t158 t159 _ A5.out).mono ?_); rintro e w47 ⟨rfl, hb⟩; refine ⟨_, rfl, ?_⟩; have n0_ := Aside0.mk (below_step (by repeat (first | (with_reducible first | exact HB.out | apply below_alloc | apply pw_below_drewN | apply below_drew1) | exact HB.out)) hb); clear HB; have HB := n0_; clear n0_; (try clear hb); (try clear hb2); (try clear hk); (try clear hi)) | (go_at_call 32; (with_reducible refine (glossatorlaw03_awake.calls  t160 _ A45.out).mono ?_); rintro e w48 ⟨rfl, hb⟩; have n0_ := Aside0.mk (below_step (by repeat (first | (with_reducible first | exact HB.out | apply below_alloc | apply pw_below_drewN | apply below_drew1) | exact HB.out)) hb); clear HB; have HB := n0_; clear n0_; (try clear hb); (try clear hb2); (try clear hk); (try clear hi)))
        go_ret
        exact ⟨by first | rfl | (simp [errW_none, errW_some] <;> rfl) | (simp [*, errW_none, errW_some] <;> rfl), by repeat (first | (with_reducible first | exact HB.out | apply below_alloc | apply pw_below_drewN | apply below_drew1) | exact HB.out)⟩
      · rw [if_neg c44] at H
        have c44b0 : (t156.toList == ([] : List UInt8)) = false := beq_eq_false_iff_ne.mpr c44
        have c44b1 : (t156.toList != ([] : List UInt8)) = true := bne_iff_ne.mpr c44
        obtain rfl := Option.some.inj H
        go_enter Try.func13, Try.ntmps13
        go_wp2_with (first | ((with_reducible refine gate_callee (f := 30) rfl ?_); refine goesL_ (some 20) rfl rfl Try.func30 (by kernel_rfl) rfl #[.string a0] rfl (by (try simp only [List.map_toArray, List.map_cons, List.map_nil]); first | done | rfl | (simp only [List.length_drop, List.length_take]; rfl)) ?_; (with_reducible refine (esc_Quote.calls a0 t156 t157 _ A4.out).mono ?_); rintro e w49 ⟨rfl, hb⟩; refine ⟨_, rfl, ?_⟩; have n0_ := Aside0.mk (below_step (by repeat (first | (with_reducible first | exact HB.out | apply below_alloc | apply pw_below_drewN | apply below_drew1) | exact HB.out)) hb); clear HB; have HB := n0_; clear n0_; (try clear hb); (try clear hb2); (try clear hk); (try clear hi)) | ((with_reducible refine gate_callee (f := 20) rfl ?_); refine goesL_ (some 25) rfl rfl Try.func20 (by kernel_rfl) rfl #[.string a0] rfl (by (try simp only [List.map_toArray, List.map_cons, List.map_nil]); first | done | rfl | (simp only [List.length_drop, List.length_take]; rfl)) ?_; (with_reducible refine (utf_Check.calls a0 t158 t159 _ A5.out).mono ?_); rintro e w50 ⟨rfl, hb⟩; refine ⟨_, rfl, ?_⟩; have n0_ := Aside0.mk (below_step (by repeat (first | (with_reducible first | exact HB.out | apply below_alloc | apply pw_below_drewN | apply below_drew1) | exact HB.out)) hb); clear HB; have HB := n0_; clear n0_; (try clear hb); (try clear hb2); (try clear hk); (try clear hi)))
        go_ret
        exact ⟨by first | rfl | (simp [errW_none, errW_some] <;> rfl) | (simp [*, errW_none, errW_some] <;> rfl), by repeat (first | (with_reducible first | exact HB.out | apply below_alloc | apply pw_below_drewN | apply below_drew1) | exact HB.out)⟩
    · rw [if_neg c43] at H
      have c43b0 : (t157 == 4) = false := beq_eq_false_iff_ne.mpr c43
      have c43b1 : (t157 != 4) = true := bne_iff_ne.mpr c43
      obtain rfl := Option.some.inj H
      go_enter Try.func13, Try.ntmps13
      go_wp2_with (first | ((with_reducible refine gate_callee (f := 30) rfl ?_); refine goesL_ (some 20) rfl rfl Try.func30 (by kernel_rfl) rfl #[.string a0] rfl (by (try simp only [List.map_toArray, List.map_cons, List.map_nil]); first | done | rfl | (simp only [List.length_drop, List.length_take]; rfl)) ?_; (with_reducible refine (esc_Quote.calls a0 t156 t157 _ A4.out).mono ?_); rintro e w51 ⟨rfl, hb⟩; refine ⟨_, rfl, ?_⟩; have n0_ := Aside0.mk (below_step (by repeat (first | (with_reducible first | exact HB.out | apply below_alloc | apply pw_below_drewN | apply below_drew1) | exact HB.out)) hb); clear HB; have HB := n0_; clear n0_; (try clear hb); (try clear hb2); (try clear hk); (try clear hi)) | ((with_reducible refine gate_callee (f := 20) rfl ?_); refine goesL_ (some 25) rfl rfl Try.func20 (by kernel_rfl) rfl #[.string a0] rfl (by (try simp only [List.map_toArray, List.map_cons, List.map_nil]); first | done | rfl | (simp only [List.length_drop, List.length_take]; rfl)) ?_; (with_reducible refine (utf_Check.calls a0 t158 t159 _ A5.out).mono ?_); rintro e w52 ⟨rfl, hb⟩; refine ⟨_, rfl, ?_⟩; have n0_ := Aside0.mk (below_step (by repeat (first | (with_reducible first | exact HB.out | apply below_alloc | apply pw_below_drewN | apply below_drew1) | exact HB.out)) hb); clear HB; have HB := n0_; clear n0_; (try clear hb); (try clear hb2); (try clear hk); (try clear hi)))
      go_ret
      exact ⟨by first | rfl | (simp [errW_none, errW_some] <;> rfl) | (simp [*, errW_none, errW_some] <;> rfl), by repeat (first | (with_reducible first | exact HB.out | apply below_alloc | apply pw_below_drewN | apply below_drew1) | exact HB.out)⟩

/-- THE ONE PURE STATEMENT of glossatorlaw03_EscBack: yours. -/
def glossatorlaw03_EscBack.Pure : Prop := ∀ (a0 : ByteArray) (a1 : ByteArray) (a2 : Int), a0.size ≤ 140737488351232 → a1.size ≤ 140737488351232 → (Lit.int .u16 a2).wf = true → glossatorlaw03_EscBack.f a0 a1 a2 = some true
theorem glossatorlaw03_EscBack.walk (P : glossatorlaw03_EscBack.Pure) (a0 : ByteArray) (a1 : ByteArray) (a2 : Int) (w : World) (w0 : a0.size ≤ 140737488351232) (w1 : a1.size ≤ 140737488351232) (w2 : (Lit.int .u16 a2).wf = true) :
    Calls Try.prog 13 #[.string a0, .string a1, .int .u16 a2] w fun e w' => e = .returned (.bool true) ∧ Below w.heap.size w w' := by
  have h := P a0 a1 a2 w0 w1 w2
  refine (glossatorlaw03_EscBack.calls a0 a1 a2 true w h).mono ?_
  rintro e w' ⟨rfl, hd⟩
  exact ⟨rfl, hd⟩

end Go.Proofs.Ytlbokaekhjjabaa.S

/-
  Of EscBack, without Go: Scan reads back what Quote wrote, whatever stands behind, and a piece of it is short.
-/
namespace Go.Proofs.Ytlbokaekhjjabaa.PureS
open Go.RowKit Go.Proofs.Ytlbokaekhjjabaa Go.Proofs.Ytlbokaekhjjabaa.S Go.Proofs.Ytlbokaekhjjabaa.Pure Go.Proofs.YtlbokaekhjjabaaW.PrintWords Go.Proofs.YtlbokaekhjjabaaW.PrintLast
set_option linter.unusedVariables false

theorem quoteL_len (l : List UInt8) : (quoteL l).length ≤ 6 * l.length := by
  induction l with
  | nil => simp [quoteL]
  | cons c t ih =>
    have := (escB_len c.toNat).2
    simp only [quoteL, List.length_append, List.length_cons]
    omega
theorem quo_list (s : ByteArray) : (quo s).data.toList = byteOf 34 :: ((quoteL s.data.toList).map byteOf ++ [byteOf 34]) := by
  unfold quo
  rw [str_data]
  simp
theorem quo_len (s : ByteArray) : (quo s).size = (quoteL s.data.toList).length + 2 := by
  have := congrArg List.length (quo_list s)
  rw [data_len] at this
  rw [this]; simp
theorem app_list (s t : ByteArray) : (s ++ t).data.toList = s.data.toList ++ t.data.toList := by simp
theorem ext_len (s : ByteArray) (n : Nat) (h : n ≤ s.size) : (s.extract 0 n).size = n := by rw [ByteArray.size_extract]; omega
theorem ext_list (s : ByteArray) (n : Nat) : (s.extract 0 n).data.toList = s.data.toList.take n := by
  simp only [ByteArray.data_extract, Array.toList_extract]
  simp [List.extract]
theorem str_of (s : ByteArray) : strOfNums (s.data.toList.map fun b => (b.toNat : Int)) = s := by
  have h : (strOfNums (s.data.toList.map fun b => (b.toNat : Int))).data.toList = s.data.toList := by
    rw [str_data, List.map_map, show (byteOf ∘ fun b : UInt8 => (b.toNat : Int)) = id from funext fun b => byteOf_of b, List.map_id]
  exact ByteArray.ext (Array.toList_inj.mp h)

theorem EscBack (s b : ByteArray) (n : Int) (hs : s.size ≤ 1048576) (hb : b.size ≤ 1048576) (hn : (Lit.int .u16 n).wf = true) : glossatorlaw03_EscBack.f s b n = some true := by
  have hn1 : IntKind.u16.min ≤ n ∧ n ≤ IntKind.u16.max := by simpa [Lit.wf] using hn
  have hn2 : 0 ≤ n ∧ n ≤ 65535 := hn1
  unfold glossatorlaw03_EscBack.f esc_Quote.f
  rw [if_pos (by omega), checkS s (by omega)]
  by_cases hc : (chk s).2 = 0
  · rw [if_pos hc, Option.bind_some, Option.bind_some]
    dsimp only
    have hw : Whole s.data.toList := chk_whole hc
    have hz := quo_len s
    have hq := quoteL_len s.data.toList
    rw [data_len] at hq
    obtain ⟨z, hzz⟩ : ∃ z, (quoteL s.data.toList).length + 2 = z := ⟨_, rfl⟩
    have r1 := scan_quo (s := s) (t := quo s ++ b) (r := b.data.toList) hw (by rw [app_list, quo_list]; simp)
    have r2 := scan_quo (s := s) (t := quo s) (r := []) hw (quo_list s)
    rw [hzz] at hz r1 r2
    rw [if_pos hc, if_pos (by rw [hz]; omega)]
    rw [scanS _ (by rw [ByteArray.size_append]; omega) (by rw [r1]; show z ≤ _; omega), Option.bind_some, r1, str_of, hz]
    have ew : wrap64 n = n := by unfold wrap64; omega
    have e2 : Int.tmod n (z : Int) = ((n.toNat % z : Nat) : Int) := by
      rw [show n = ((n.toNat : Nat) : Int) by omega]
      rfl
    have h2 : n.toNat % z < z := Nat.mod_lt _ (by omega)
    rw [if_pos rfl, if_pos rfl, if_pos rfl, if_pos rfl, if_neg (by omega), if_neg (by omega), ew, e2]
    obtain ⟨m, hm⟩ : ∃ m, n.toNat % z = m := ⟨_, rfl⟩
    rw [hm] at h2 ⊢
    rw [if_pos (by omega), if_pos (by omega), Int.toNat_natCast]
    have hx := ext_len (quo s) m (by omega)
    have r3 := (scanF_loc (quo s)).cut ((quo s).extract 0 m) ⟨by omega, Nat.le_refl _, by rw [hx, ext_list, List.take_take, Nat.min_self]⟩ (Nat.zero_le _) (by rw [r2, hx, reach_0]; exact h2)
    rw [hx] at r3
    rw [scanS _ (by omega) (by rw [r3]; show m ≤ _; omega), Option.bind_some, r3, if_pos rfl]
    simp
  · rw [if_neg hc, Option.bind_some, Option.bind_some]
    dsimp only
    rw [if_neg hc, if_pos rfl, if_pos (by decide +kernel), awakeS, Option.bind_some]
end Go.Proofs.Ytlbokaekhjjabaa.PureS

/-
  The row of EscBackUptoSaid: over the walk and the plain law.
-/
namespace Go.Proofs.Ytlbokaekhjjabaa.escBackUpto
open Go.ChangeShapes Go.WideShapes Go.ChangeAt Go.RowKit
open Go.ChangeMaps (open_string shut_string)
set_option linter.unusedVariables false
theorem own : ownKnob Try.prog.godebug = none := by kernel_rfl
theorem bulk_string {H : Type} (bytes : List UInt8) : Rows.uptoBulk (DataW.lit (H := H) (.string bytes)) = bytes.length + 1 := by simp [Rows.uptoBulk]
set_option maxRecDepth 100000 in
theorem contract (H : Type) (enc : TypeId × Value → H) (W : World) (base : Nat) (args : Array Value) (ds gs : List (DataW H)) (before : List MemPlace)
    (hval : ∀ (j : Nat) t v, Try.f13.params[j]? = some t → args[j]? = some v → Value.okWide Try.prog W .any base t v)
    (hW : DataW.Whole enc Try.prog Try.f13.params.toList Rows.escBackSpec.vars false W args.toList ds gs before) (hk : Rows.uptoSmall H (ds ++ gs) = true) :
    Calls Try.prog 13 args W fun e W' => ∃ v, e = .returned v ∧ Rows.escBackSpec.post enc Try.prog Try.f13 false true false false W args v W' := by
  have hW' := hW
  obtain ⟨p, q, hA0, hV, rfl, hfz, hnd⟩ := hW
  have hA : DataW.TrodAll enc Try.prog W 0 (fun _ => true) true Try.f13.params.toList args.toList ds p := hA0
  rw [Try.params13] at hA hval
  obtain ⟨v0, vs0, d0, ds0, p0, q0, hargs, rfl, rfl, h0, r0⟩ := trodAll_cons hA
  obtain ⟨v1, vs1, d1, ds1, p1, q1, rfl, rfl, rfl, h1, r1⟩ := trodAll_cons r0
  obtain ⟨v2, vs2, d2, ds2, p2, q2, rfl, rfl, rfl, h2, r2⟩ := trodAll_cons r1
  obtain ⟨rfl, rfl, rfl⟩ := trodAll_nil r2
  obtain rfl : args = #[v0, v1, v2] := by cases args; simp_all
  obtain ⟨rfl, rfl⟩ := trodVars_none hV
  obtain ⟨a0, rfl, rfl, rfl, y0⟩ := open_string Try.underlying9 (hval 0 9 v0 rfl rfl) h0
  obtain ⟨a1, rfl, rfl, rfl, y1⟩ := open_string Try.underlying9 (hval 1 9 v1 rfl rfl) h1
  obtain ⟨a2, rfl, rfl, rfl, w2⟩ := open_int Try.underlying57 (hval 2 57 v2 rfl rfl) h2
  have hb := of_decide_eq_true hk
  simp only [List.cons_append, List.nil_append, Rows.uptoBulkAll, bulk_string] at hb
  have w0 : a0.size ≤ 1048576 := by
    have hl : a0.data.toList.length = a0.size := by rw [Array.length_toList]; rfl
    omega
  have w1 : a1.size ≤ 1048576 := by
    have hl : a1.data.toList.length = a1.size := by rw [Array.length_toList]; rfl
    omega
  clear hA0 hval hk hb
  refine (S.glossatorlaw03_EscBack.calls a0 a1 a2 true W (PureS.EscBack a0 a1 a2 w0 w1 w2)).mono fun e W' ⟨he, bel⟩ => ?_
  subst he
  exact ⟨_, rfl, _, _, _, [], _, [], hW', trodAll_mk1 (shut_bool Try.underlying4 _), (trodAll_cons_mk (shut_string Try.underlying9 y0) (trodAll_cons_mk (shut_string Try.underlying9 y1) (trodAll_cons_mk (shut_int Try.underlying57 w2) trodAll_mk0))), rfl, bel.frame _, fun h => by cases h⟩
set_option maxRecDepth 100000 in
theorem lifted (os : Os) (started : os.Started) (H : Type) (enc : TypeId × Value → H) (F : Stop.Interp) :
    ReturnsInHanded {} Try.checked os 13 .any ((Rows.OpenSpec.upto Rows.escBackSpec).pre6 enc Try.prog Try.f13 Rows.escBackUptoRow.domain false) (((Rows.OpenSpec.upto Rows.escBackSpec).at F).post enc Try.prog Try.f13 false true false false) := by
  refine returnsInHanded_of_cond (C := Try.checked) (s := Rows.OpenSpec.upto Rows.escBackSpec) (k := Rows.uptoSmall) rfl own started (by kernel_rfl) Try.func13
    (OpenSpec.witness (enc := enc) (C := Try.checked) (s := Rows.OpenSpec.upto Rows.escBackSpec) (k := Rows.uptoSmall) rfl false ⟨#[], #[.string ByteArray.empty, .string ByteArray.empty, .int .u16 0], []⟩ 8 (by kernel_rfl) (by kernel_rfl) (by kernel_rfl)
      (x := ([.lit (.string []), .lit (.string []), .lit (.int .u16 0)], [], [])) (by kernel_rfl) rfl (by kernel_rfl)) ?_
  intro W base args ds gs before hval hW _ hk _
  exact contract H enc W base args ds gs before hval hW hk
theorem over : Rows.escBackUptoRow.holds Try.pinned (Rows.OpenSpec.upto Rows.escBackSpec) :=
  OpenClaim.holds_of_cond 13 Try.f13 rfl rfl rfl rfl rfl rfl rfl ⟨rfl, rfl, rfl, rfl, rfl⟩ rfl rfl rfl rfl rfl (by kernel_rfl) Try.func13 (by kernel_rfl)
    (of_decide_eq_true (by kernel_rfl)) (by unfold Func.isWrapper; first | (rw [if_pos (by decide +kernel)]; kernel_rfl) | (rw [if_neg (by decide +kernel)]; exact ⟨rfl, rfl⟩))
    (fun os started H enc _ F => lifted os started H enc F)
theorem proved : Rows.EscBackUptoSaid := over
#print axioms proved
end Go.Proofs.Ytlbokaekhjjabaa.escBackUpto
namespace Go.Proofs.Ytlbokaekhjjabaa
theorem escBackUpto_holds : Rows.EscBackUptoSaid := escBackUpto.proved
end Go.Proofs.Ytlbokaekhjjabaa
