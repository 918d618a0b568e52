import Derived.Test.YtfmceonbejlhlaaGreatDoorChecked
import Derived.Shelf.SlSortCmp.KitK
import Derived.Sort.WalkB2
import Derived.Sort.WalkB12
import Derived.Deep.LoopGhost
import Derived.Shelf.SlSortCmp.InsertionK
import Derived.Lib.Hide
import Derived.Test.YtfmceonbejlhlaaGreatDoorMWd2
/-
  The stable sort's rows: two rows change places; the rotation. Walked once, over any program that bears these bodies.
-/
namespace Go.Proofs.YtfmceonbejlhlaaGreatDoor
open Go.Shelf Go.RowKit Go.Lib Go.Sort
set_option linter.unusedVariables false
variable {P : Program} {α : Type} [Inhabited α]

/-- What the sort's family asks of a program: its bodies, its types. -/
structure Srt (P : Program) (k : Nat) : Prop where
  mixed : P.follows .mixedOrders = true
  f193 : P.funcs[193]? = some Tryz.f193
  f194 : P.funcs[194]? = some Tryz.f194
  f208 : P.funcs[208]? = some Tryz.f208
  f212 : P.funcs[212]? = some Tryz.f212
  f174 : P.funcs[174]? = some Tryz.f174
  f153 : P.funcs[153]? = some Tryz.f153
  t0 : P.underlying 0 = some (TypeDesc.tuple #[])
  a0 : ∀ w, (isAgg 0).run P w = .ok false w
  z0 : ∀ w, (Go.sizeOf 0).run P w = .ok 1 w
  v0 : ∀ w, (zeroValue 0).run P w = .ok (Value.tuple #[]) w
  t3 : P.underlying 3 = some (TypeDesc.int IntKind.i64)
  a3 : ∀ w, (isAgg 3).run P w = .ok false w
  z3 : ∀ w, (Go.sizeOf 3).run P w = .ok 1 w
  v3 : ∀ w, (zeroValue 3).run P w = .ok (Value.int IntKind.i64 0) w
  t4 : P.underlying 4 = some (TypeDesc.bool)
  a4 : ∀ w, (isAgg 4).run P w = .ok false w
  z4 : ∀ w, (Go.sizeOf 4).run P w = .ok 1 w
  v4 : ∀ w, (zeroValue 4).run P w = .ok (Value.bool false) w
  t118 : P.underlying 118 = some (TypeDesc.int IntKind.u64)
  a118 : ∀ w, (isAgg 118).run P w = .ok false w
  z118 : ∀ w, (Go.sizeOf 118).run P w = .ok 1 w
  v118 : ∀ w, (zeroValue 118).run P w = .ok (Value.int IntKind.u64 0) w
  t259 : P.underlying 259 = some (TypeDesc.slice 261)
  a259 : ∀ w, (isAgg 259).run P w = .ok false w
  z259 : ∀ w, (Go.sizeOf 259).run P w = .ok 1 w
  v259 : ∀ w, (zeroValue 259).run P w = .ok (Value.slice none 0 0) w
  aE : ∀ w, (isAgg 261).run P w = .ok true w
  zE : ∀ w, (Go.sizeOf 261).run P w = .ok k w
  t263 : P.underlying 263 = some (TypeDesc.func #[261, 261] #[3] false)
  a263 : ∀ w, (isAgg 263).run P w = .ok false w
  z263 : ∀ w, (Go.sizeOf 263).run P w = .ok 1 w
  v263 : ∀ w, (zeroValue 263).run P w = .ok (Value.nilFunc) w

theorem Srt.e193 {k : Nat} (L : Srt P k) : ∀ args w, (callFunc 193 args).run P w = .ok (.enter 193 args) w := enters_of L.f193 (by kernel_rfl) rfl
theorem Srt.e194 {k : Nat} (L : Srt P k) : ∀ args w, (callFunc 194 args).run P w = .ok (.enter 194 args) w := enters_of L.f194 (by kernel_rfl) rfl
theorem Srt.e208 {k : Nat} (L : Srt P k) : ∀ args w, (callFunc 208 args).run P w = .ok (.enter 208 args) w := enters_of L.f208 (by kernel_rfl) rfl
theorem Srt.e212 {k : Nat} (L : Srt P k) : ∀ args w, (callFunc 212 args).run P w = .ok (.enter 212 args) w := enters_of L.f212 (by kernel_rfl) rfl
theorem Srt.e174 {k : Nat} (L : Srt P k) : ∀ args w, (callFunc 174 args).run P w = .ok (.enter 174 args) w := enters_of L.f174 (by kernel_rfl) rfl

set_option maxHeartbeats 4000000 in
set_option maxRecDepth 1000000 in
theorem swapRange_any {k : Nat} (L : Srt P k) (enc : α → List Value) (fv : Value) (blk off cap a b n : Nat) (d0 d : Array α) (w0 w : World)
    (R : RowK enc k w0 blk off d0) (hs : d0.size = d.size) (S : SWK enc k w0 blk off d w) (ha : a + n ≤ d.size) (hb : b + n ≤ d.size) (hsz : d.size < 4611686018427387904) :
    Calls P 212 #[.slice (some ⟨blk, off, none⟩) d.size cap, .int .i64 a, .int .i64 b, .int .i64 n, fv] w fun e w' => e = .returned (.tuple #[]) ∧ SWK enc k w0 blk off (swapRange d a b n) w' := by
  have mixed := L.mixed; have t0 := L.t0; have a0 := L.a0; have z0 := L.z0; have v0 := L.v0; have t3 := L.t3; have a3 := L.a3; have z3 := L.z3; have v3 := L.v3; have t4 := L.t4; have a4 := L.a4; have z4 := L.z4; have v4 := L.v4
  have t259 := L.t259; have a259 := L.a259; have z259 := L.z259; have v259 := L.v259; have t263 := L.t263; have a263 := L.a263; have z263 := L.z263; have v263 := L.v263; have aE := L.aE; have zE := L.zE
  have FG := L.f212
  have S0 : Aside (SWK enc k w0 blk off d w) := S
  clear S
  go_enter FG, Tryz.ntmps212
  go_wp2
  go_loopg [10] n (fun kx s10 wr => ∃ (i : Nat) (dk : Array α), s10 = .int .i64 i ∧ i ≤ n ∧ n - i ≤ kx ∧ dk.size = d.size ∧ Aside (SWK enc k w0 blk off dk wr) ∧ swapFrom a b n i dk = swapFrom a b n 0 d)
  case atStart => exact ⟨0, d, rfl, by omega, by omega, rfl, S0, rfl⟩
  case round =>
    clear S0
    obtain ⟨i, dk, rfl, hin, hkx, hds, S1, heq⟩ := hrel
    by_cases hlt : i < n
    · have hltz : (i : Int) < (n : Int) := by omega
      go_wp2_with fail
      have ea : ((a : Int) + (i : Int)).toNat = a + i := by omega
      have pa : (0 : Int) ≤ (a : Int) + (i : Int) := by omega
      have ba : (a : Int) + (i : Int) < (d.size : Int) := by omega
      have ra : IntKind.i64.wrap ((a : Int) + (i : Int)) = (a : Int) + (i : Int) := by rw [IntKind.wrap_i64]; omega
      have eb : ((b : Int) + (i : Int)).toNat = b + i := by omega
      have pb : (0 : Int) ≤ (b : Int) + (i : Int) := by omega
      have bb : (b : Int) + (i : Int) < (d.size : Int) := by omega
      have rb : IntKind.i64.wrap ((b : Int) + (i : Int)) = (b : Int) + (i : Int) := by rw [IntKind.wrap_i64]; omega
      have S2 : Aside (SWK enc k w0 blk off (swp dk (a + i) (b + i)) ((wr.drew.setCells blk (off + (a + i) * k) (enc dk[b + i]!)).setCells blk (off + (b + i) * k) (enc dk[a + i]!))) := S1.out.swapped R (a + i) (b + i) (by omega) (by omega)
      have l44a := S1.out.ld1 R (by omega) P (a + i) (by omega)
      have l44b := S1.out.ld1 R (by omega) P (b + i) (by omega)
      have s44a := S1.out.st1 R (by omega) P (a + i) (by omega) dk[b + i]!
      have s44b := S1.out.st2 R (by omega) P (a + i) (b + i) (by omega) (by omega) dk[b + i]! dk[a + i]!
      have n44a : (enc dk[a + i]!).length = k := R.hk _
      have n44b : (enc dk[b + i]!).length = k := R.hk _
      generalize enc dk[a + i]! = cI44 at S2 l44a s44b n44a
      generalize enc dk[b + i]! = cJ44 at S2 l44b s44a s44b n44b
      clear S1
      go_wp2_with fail
      go_big_region_o
      clear l44a l44b s44a s44b
      generalize (wr.drew.setCells blk (off + (a + i) * k) cJ44).setCells blk (off + (b + i) * k) cI44 = w2 at S2 ⊢
      go_wp2
      go_roundg (n - (i + 1))
      case measure => omega
      case rel =>
        rw [swapFrom, if_pos hlt] at heq
        exact ⟨i + 1, _, by go_num, by omega, Nat.le_refl _, by rw [size_swp]; exact hds, S2, heq⟩
    · have hltz : ¬ (i : Int) < (n : Int) := by omega
      go_wp2
      go_end0
      refine ⟨rfl, ?_⟩
      rw [swapFrom, if_neg hlt] at heq
      rw [swapRange, ← heq]
      exact S1.out
end Go.Proofs.YtfmceonbejlhlaaGreatDoor

/-
  The stable sort's rotation.
-/
namespace Go.Proofs.YtfmceonbejlhlaaGreatDoor
open Go.Shelf Go.RowKit Go.Lib Go.Sort
set_option linter.unusedVariables false
variable {P : Program} {α : Type} [Inhabited α]

set_option maxHeartbeats 4000000 in
set_option maxRecDepth 1000000 in
theorem rotate_any {k : Nat} (L : Srt P k) (enc : α → List Value) (fv : Value) (blk off cap a m b : Nat) (d0 d : Array α) (w0 w : World)
    (R : RowK enc k w0 blk off d0) (hs : d0.size = d.size) (S : SWK enc k w0 blk off d w) (ha : a < m) (hm : m < b) (hb : b ≤ d.size) (hsz : d.size < 4611686018427387904) :
    Calls P 208 #[.slice (some ⟨blk, off, none⟩) d.size cap, .int .i64 a, .int .i64 m, .int .i64 b, fv] w fun e w' => e = .returned (.tuple #[]) ∧ SWK enc k w0 blk off (rotate d a m b) w' := by
  have mixed := L.mixed; have t0 := L.t0; have a0 := L.a0; have z0 := L.z0; have v0 := L.v0; have t3 := L.t3; have a3 := L.a3; have z3 := L.z3; have v3 := L.v3; have t4 := L.t4; have a4 := L.a4; have z4 := L.z4; have v4 := L.v4
  have t259 := L.t259; have a259 := L.a259; have z259 := L.z259; have v259 := L.v259; have t263 := L.t263; have a263 := L.a263; have z263 := L.z263; have v263 := L.v263; have aE := L.aE; have zE := L.zE
  have FG := L.f208
  have e212 := L.e212
  have S0 : Aside (SWK enc k w0 blk off d w) := S
  clear S
  have HSw : Aside (∀ (a b n : Nat) (dk : Array α) (W : World), dk.size = d.size → SWK enc k w0 blk off dk W → a + n ≤ d.size → b + n ≤ d.size → Calls P 212 #[.slice (some ⟨blk, off, none⟩) d.size cap, .int .i64 a, .int .i64 b, .int .i64 n, fv] W fun e w' => e = .returned (.tuple #[]) ∧ SWK enc k w0 blk off (swapRange dk a b n) w') := by
    intro a b n dk W hd hS h1 h2
    have := swapRange_any L enc fv blk off cap a b n d0 dk w0 W R (by omega) hS (by omega) (by omega) (by omega)
    rw [hd] at this
    exact this
  have w1 : IntKind.i64.wrap ((m : Int) - (a : Int)) = ((m - a : Nat) : Int) := by rw [IntKind.wrap_i64]; omega
  have w2 : IntKind.i64.wrap ((b : Int) - (m : Int)) = ((b - m : Nat) : Int) := by rw [IntKind.wrap_i64]; omega
  go_enter FG, Tryz.ntmps208
  go_wp2
  go_loopg [10, 11] (m - a + (b - m)) (fun kx s10 s11 wr => ∃ (i j : Nat) (dk : Array α), s10 = .int .i64 i ∧ s11 = .int .i64 j ∧ 0 < i ∧ 0 < j ∧ i ≤ m - a ∧ j ≤ b - m ∧ i + j ≤ kx ∧ dk.size = d.size ∧ Aside (SWK enc k w0 blk off dk wr) ∧ Aside (rotLoop m i j dk = rotLoop m (m - a) (b - m) d))
  case atStart => exact ⟨m - a, b - m, d, by go_num, by go_num, by omega, by omega, by omega, by omega, by omega, rfl, S0, rfl⟩
  case round =>
    clear S0
    obtain ⟨i, j, dk, rfl, rfl, hi0, hj0, hia, hjb, hkx, hds, S1, HEQ⟩ := hrel
    by_cases hne : i = j
    · subst hne
      have w3 : IntKind.i64.wrap ((m : Int) - (i : Int)) = ((m - i : Nat) : Int) := by rw [IntKind.wrap_i64]; omega
      go_wp2_with (go_at_call 212; refine (HSw.out (m - i) m i dk _ hds S1.out (by omega) (by omega)).mono ?_; rintro e w3 ⟨rfl, S3⟩)
      go_end0
      refine ⟨rfl, ?_⟩
      have := HEQ.out
      rw [rotLoop, if_pos (Or.inl rfl)] at this
      rw [rotate, ← this]
      exact S3
    · have hnez : ((i : Int) == (j : Int)) = false := by simpa using fun h : (i : Int) = j => hne (by omega)
      have hnez' : ¬ ((i : Int) = (j : Int)) := fun h => hne (by omega)
      have w3 : IntKind.i64.wrap ((m : Int) - (i : Int)) = ((m - i : Nat) : Int) := by rw [IntKind.wrap_i64]; omega
      by_cases hlt : j < i
      · have hltz : (j : Int) < (i : Int) := by omega
        have w4 : IntKind.i64.wrap ((i : Int) - (j : Int)) = ((i - j : Nat) : Int) := by rw [IntKind.wrap_i64]; omega
        go_wp2_with (go_at_call 212; refine (HSw.out (m - i) m j dk _ hds S1.out (by omega) (by omega)).mono ?_; rintro e w3 ⟨rfl, S3⟩; have S4 : Aside _ := S3; clear S3)
        go_roundg (i - j + j)
        case measure => omega
        case rel =>
          refine ⟨i - j, j, swapRange dk (m - i) m j, by go_num, rfl, by omega, hj0, by omega, hjb, Nat.le_refl _, by rw [size_swapRange]; exact hds, S4, (show Aside _ from ?_)⟩
          have := HEQ.out
          rw [rotLoop, if_neg (by omega), if_pos hlt] at this
          exact this
      · have hltz : ¬ (j : Int) < (i : Int) := by omega
        have w4 : IntKind.i64.wrap ((j : Int) - (i : Int)) = ((j - i : Nat) : Int) := by rw [IntKind.wrap_i64]; omega
        have w5 : IntKind.i64.wrap ((m : Int) + (j : Int)) = (m : Int) + (j : Int) := by rw [IntKind.wrap_i64]; omega
        have w6 : IntKind.i64.wrap ((m : Int) + (j : Int) - (i : Int)) = ((m + j - i : Nat) : Int) := by rw [IntKind.wrap_i64]; omega
        go_wp2_with (go_at_call 212; refine (HSw.out (m - i) (m + j - i) i dk _ hds S1.out (by omega) (by omega)).mono ?_; rintro e w3 ⟨rfl, S3⟩; have S4 : Aside _ := S3; clear S3)
        go_roundg (i + (j - i))
        case measure => omega
        case rel =>
          refine ⟨i, j - i, swapRange dk (m - i) (m + j - i) i, rfl, by go_num, hi0, by omega, hia, by omega, Nat.le_refl _, by rw [size_swapRange]; exact hds, S4, (show Aside _ from ?_)⟩
          have := HEQ.out
          rw [rotLoop, if_neg (by omega), if_neg hlt] at this
          exact this
end Go.Proofs.YtfmceonbejlhlaaGreatDoor

/-
  The stable sort's merge: one element ahead.
-/
namespace Go.Proofs.YtfmceonbejlhlaaGreatDoor
open Go.Shelf Go.RowKit Go.Lib Go.Sort
set_option linter.unusedVariables false
variable {P : Program} {α : Type} [Inhabited α]

theorem half_lt (test : Nat → Bool) (i j : Nat) (h : i < j) : half test i j = if test ((i + j) / 2) then half test ((i + j) / 2 + 1) j else half test i ((i + j) / 2) := by
  rw [half, if_pos h]
theorem half_ge (test : Nat → Bool) (i j : Nat) (h : ¬ i < j) : half test i j = i := by
  rw [half, if_neg h]
set_option maxHeartbeats 4000000 in
set_option maxRecDepth 1000000 in
theorem sym_first {k : Nat} (L : Srt P k) (enc : α → List Value) (cf : α → α → Int) (g : Nat) (cb : Array Value) (blk off cap a m b : Nat) (d0 d : Array α) (w0 w : World)
    (eg : ∀ args w, (callFunc g args).run P w = .ok (.enter g args) w) (hC : CmpLays P g cb enc k cf blk off d0.size w0)
    (R : RowK enc k w0 blk off d0) (hs : d0.size = d.size) (S : SWK enc k w0 blk off d w) (ha : a < m) (hm : m < b) (hb : b ≤ d.size) (hsz : d.size < 4611686018427387904) (h1 : m - a = 1) :
    Calls P 194 #[.slice (some ⟨blk, off, none⟩) d.size cap, .int .i64 a, .int .i64 m, .int .i64 b, .func (.func g) #[] cb] w fun e w' => e = .returned (.tuple #[]) ∧ SWK enc k w0 blk off (upTo (half (fun h => ltOf cf d[h]! d[a]!) m b - 1) a d) w' := by
  have mixed := L.mixed; have t0 := L.t0; have a0 := L.a0; have z0 := L.z0; have v0 := L.v0; have t3 := L.t3; have a3 := L.a3; have z3 := L.z3; have v3 := L.v3; have t4 := L.t4; have a4 := L.a4; have z4 := L.z4; have v4 := L.v4
  have t118 := L.t118; have a118 := L.a118; have z118 := L.z118; have v118 := L.v118
  have t259 := L.t259; have a259 := L.a259; have z259 := L.z259; have v259 := L.v259; have t263 := L.t263; have a263 := L.a263; have z263 := L.z263; have v263 := L.v263; have aE := L.aE; have zE := L.zE
  have FG := L.f194
  have S0 : Aside (SWK enc k w0 blk off d w) := S
  have HC : Aside (CmpLays P g cb enc k cf blk off d0.size w0) := hC
  clear S hC
  have w1 : IntKind.i64.wrap ((m : Int) - (a : Int)) = 1 := by rw [IntKind.wrap_i64]; omega
  obtain ⟨test, htest⟩ : ∃ test : Nat → Bool, test = (fun h => ltOf cf d[h]! d[a]!) := ⟨_, rfl⟩
  rw [← htest]
  have HT : Hid _ := htest
  clear htest
  go_enter FG, Tryz.ntmps194
  go_wp2
  go_loopg [10, 11] (b - m) (fun kx s10 s11 wr => ∃ (i j : Nat), s10 = .int .i64 i ∧ s11 = .int .i64 j ∧ m ≤ i ∧ i ≤ j ∧ j ≤ b ∧ j - i ≤ kx ∧ Aside (SWK enc k w0 blk off d wr) ∧ Aside (half test i j = half test m b))
  case atStart => exact ⟨m, b, rfl, rfl, by omega, by omega, by omega, by omega, S0, rfl⟩
  case round =>
    clear S0
    obtain ⟨i, j, rfl, rfl, hmi, hij, hjb, hkx, S1, HEQ⟩ := hrel
    by_cases hlt : i < j
    · have hltz : (i : Int) < (j : Int) := by omega
      go_wp2_with fail
      obtain ⟨h, hh⟩ : ∃ h, (i + j) / 2 = h := ⟨_, rfl⟩
      have ehz : ((i : Int) + (j : Int)) / 2 = (h : Int) := by omega
      rw [ehz]
      clear ehz
      have hzl : (h : Int) < (d.size : Int) := by omega
      have hza : (a : Int) < (d.size : Int) := by omega
      have lj := fun n' os' => S1.out.ld R hs.symm P h (by omega) n' os'
      have la := fun n' os' => S1.out.ld R hs.symm P a (by omega) n' os'
      have hcg := fun n' os' => S1.out.cmp HC.out hs.symm d[h]! d[a]! n' os'
      have SG : Aside (∀ n os, SWK enc k w0 blk off d (grow (wr.drewN n) os)) := fun n os => S1.out.grown n os
      have htv : Hid (test h = decide (cf d[h]! d[a]! < 0)) := by show _ = _; rw [HT.out]; rfl
      generalize d[h]! = xh at lj hcg htv
      generalize d[a]! = xa at la hcg htv
      clear S1
      by_cases hlv : cf xh xa < 0
      · have HV : Hid (test h = true) := htv.out.trans (decide_eq_true hlv)
        clear htv
        go_quiet_grown (first | (go_at_fn g; refine Calls.grown_of (hcg _ _)))
        go_wp2
        go_roundg (j - (h + 1))
        case measure => omega
        case rel =>
          refine ⟨h + 1, j, by go_num, rfl, by omega, by omega, by omega, Nat.le_refl _, SG.out _ _, (show Aside _ from ?_)⟩
          have := HEQ.out
          rw [half_lt _ _ _ hlt, hh, if_pos HV.out] at this
          exact this
      · have HV : Hid (¬ test h = true) := by show ¬ _; rw [htv.out]; simpa using hlv
        clear htv
        go_quiet_grown (first | (go_at_fn g; refine Calls.grown_of (hcg _ _)))
        go_wp2
        go_roundg (h - i)
        case measure => omega
        case rel =>
          refine ⟨i, h, rfl, rfl, by omega, by omega, by omega, Nat.le_refl _, SG.out _ _, (show Aside _ from ?_)⟩
          have := HEQ.out
          rw [half_lt _ _ _ hlt, hh, if_neg HV.out] at this
          exact this
    · have hltz : ¬ (i : Int) < (j : Int) := by omega
      have hE : i = half test m b := by have := HEQ.out; rw [half_ge _ _ _ hlt] at this; exact this
      obtain ⟨e, he⟩ : ∃ e, i - 1 = e := ⟨_, rfl⟩
      have ewz : IntKind.i64.wrap ((i : Int) - 1) = (e : Int) := by rw [IntKind.wrap_i64]; omega
      have HE : Hid (half test m b - 1 = e) := by show _ = _; rw [← hE]; exact he
      clear HEQ hE
      go_wp2
      go_loopg [13] (e - a) (fun kx s13 wr => ∃ (q : Nat) (dk : Array α), s13 = .int .i64 q ∧ a ≤ q ∧ q ≤ e ∧ e - q ≤ kx ∧ dk.size = d.size ∧ Aside (SWK enc k w0 blk off dk wr) ∧ Aside (upTo e q dk = upTo e a d))
      case atStart => exact ⟨a, d, rfl, by omega, by omega, by omega, rfl, S1, rfl⟩
      case round =>
        clear S1
        obtain ⟨q, dk, rfl, haq, hqe, hkx, hds, S1, HEQ⟩ := hrel
        by_cases hlt : q < e
        · have hltz : (q : Int) < (e : Int) := by omega
          go_wp2_with fail
          have ea : ((q : Int)).toNat = q := by omega
          have pa : (0 : Int) ≤ (q : Int) := by omega
          have ba : (q : Int) < (d.size : Int) := by omega
          have eb : ((q : Int) + 1).toNat = q + 1 := by omega
          have pb : (0 : Int) ≤ (q : Int) + 1 := by omega
          have bb : (q : Int) + 1 < (d.size : Int) := by omega
          have rb : IntKind.i64.wrap ((q : Int) + 1) = (q : Int) + 1 := by rw [IntKind.wrap_i64]; omega
          have S2 : Aside (SWK enc k w0 blk off (swp dk q (q + 1)) ((wr.drew.setCells blk (off + q * k) (enc dk[q + 1]!)).setCells blk (off + (q + 1) * k) (enc dk[q]!))) := S1.out.swapped R q (q + 1) (by omega) (by omega)
          have l44a := S1.out.ld1 R (by omega) P q (by omega)
          have l44b := S1.out.ld1 R (by omega) P (q + 1) (by omega)
          have s44a := S1.out.st1 R (by omega) P q (by omega) dk[q + 1]!
          have s44b := S1.out.st2 R (by omega) P q (q + 1) (by omega) (by omega) dk[q + 1]! dk[q]!
          have n44a : (enc dk[q]!).length = k := R.hk _
          have n44b : (enc dk[q + 1]!).length = k := R.hk _
          generalize enc dk[q]! = cI44 at S2 l44a s44b n44a
          generalize enc dk[q + 1]! = cJ44 at S2 l44b s44a s44b n44b
          clear S1
          go_wp2_with fail
          go_big_region_o
          clear l44a l44b s44a s44b
          generalize (wr.drew.setCells blk (off + q * k) cJ44).setCells blk (off + (q + 1) * k) cI44 = w2 at S2 ⊢
          go_wp2
          go_roundg (e - (q + 1))
          case measure => omega
          case rel =>
            refine ⟨q + 1, _, by go_num, by omega, by omega, Nat.le_refl _, by rw [size_swp]; exact hds, S2, (show Aside _ from ?_)⟩
            have := HEQ.out
            rw [upTo, if_pos hlt] at this
            exact this
        · have hltz : ¬ (q : Int) < (e : Int) := by omega
          go_wp2
          refine bodyPost_ret (v := .tuple #[]) (by simp [results, Tryz.results194, go_sem]) rfl ⟨rfl, ?_⟩
          have := HEQ.out
          rw [upTo, if_neg hlt] at this
          rw [HE.out, ← this]
          exact S1.out
end Go.Proofs.YtfmceonbejlhlaaGreatDoor

/-
  The stable sort's merge: one element behind.
-/
namespace Go.Proofs.YtfmceonbejlhlaaGreatDoor
open Go.Shelf Go.RowKit Go.Lib Go.Sort
set_option linter.unusedVariables false
variable {P : Program} {α : Type} [Inhabited α]

set_option maxHeartbeats 4000000 in
set_option maxRecDepth 1000000 in
theorem sym_last {k : Nat} (L : Srt P k) (enc : α → List Value) (cf : α → α → Int) (g : Nat) (cb : Array Value) (blk off cap a m b : Nat) (d0 d : Array α) (w0 w : World)
    (eg : ∀ args w, (callFunc g args).run P w = .ok (.enter g args) w) (hC : CmpLays P g cb enc k cf blk off d0.size w0)
    (R : RowK enc k w0 blk off d0) (hs : d0.size = d.size) (S : SWK enc k w0 blk off d w) (ha : a < m) (hm : m < b) (hb : b ≤ d.size) (hsz : d.size < 4611686018427387904) (h0 : m - a ≠ 1) (h1 : b - m = 1) :
    Calls P 194 #[.slice (some ⟨blk, off, none⟩) d.size cap, .int .i64 a, .int .i64 m, .int .i64 b, .func (.func g) #[] cb] w fun e w' => e = .returned (.tuple #[]) ∧ SWK enc k w0 blk off (downTo (half (fun h => !ltOf cf d[m]! d[h]!) a m) m d) w' := by
  have mixed := L.mixed; have t0 := L.t0; have a0 := L.a0; have z0 := L.z0; have v0 := L.v0; have t3 := L.t3; have a3 := L.a3; have z3 := L.z3; have v3 := L.v3; have t4 := L.t4; have a4 := L.a4; have z4 := L.z4; have v4 := L.v4
  have t118 := L.t118; have a118 := L.a118; have z118 := L.z118; have v118 := L.v118
  have t259 := L.t259; have a259 := L.a259; have z259 := L.z259; have v259 := L.v259; have t263 := L.t263; have a263 := L.a263; have z263 := L.z263; have v263 := L.v263; have aE := L.aE; have zE := L.zE
  have FG := L.f194
  have S0 : Aside (SWK enc k w0 blk off d w) := S
  have HC : Aside (CmpLays P g cb enc k cf blk off d0.size w0) := hC
  clear S hC
  obtain ⟨ma, hma⟩ : ∃ x, m - a = x := ⟨_, rfl⟩
  have w1 : IntKind.i64.wrap ((m : Int) - (a : Int)) = (ma : Int) := by rw [IntKind.wrap_i64]; omega
  have w1b : ((ma : Int) == 1) = false := by rw [beq_eq_false_iff_ne]; omega
  have w1c : ¬ ((ma : Int) = 1) := by omega
  have w2 : IntKind.i64.wrap ((b : Int) - (m : Int)) = 1 := by rw [IntKind.wrap_i64]; omega
  obtain ⟨test, htest⟩ : ∃ test : Nat → Bool, test = (fun h => !ltOf cf d[m]! d[h]!) := ⟨_, rfl⟩
  rw [← htest]
  have HT : Hid _ := htest
  clear htest
  go_enter FG, Tryz.ntmps194
  go_wp2
  go_loopg [14, 15] (m - a) (fun kx s10 s11 wr => ∃ (i j : Nat), s10 = .int .i64 i ∧ s11 = .int .i64 j ∧ a ≤ i ∧ i ≤ j ∧ j ≤ m ∧ j - i ≤ kx ∧ Aside (SWK enc k w0 blk off d wr) ∧ Aside (half test i j = half test a m))
  case atStart => exact ⟨a, m, rfl, rfl, by omega, by omega, by omega, by omega, S0, rfl⟩
  case round =>
    clear S0
    obtain ⟨i, j, rfl, rfl, hmi, hij, hjb, hkx, S1, HEQ⟩ := hrel
    by_cases hlt : i < j
    · have hltz : (i : Int) < (j : Int) := by omega
      go_wp2_with fail
      obtain ⟨h, hh⟩ : ∃ h, (i + j) / 2 = h := ⟨_, rfl⟩
      have ehz : ((i : Int) + (j : Int)) / 2 = (h : Int) := by omega
      rw [ehz]
      clear ehz
      have hzl : (h : Int) < (d.size : Int) := by omega
      have hza : (m : Int) < (d.size : Int) := by omega
      have lj := fun n' os' => S1.out.ld R hs.symm P h (by omega) n' os'
      have la := fun n' os' => S1.out.ld R hs.symm P m (by omega) n' os'
      have hcg := fun n' os' => S1.out.cmp HC.out hs.symm d[m]! d[h]! n' os'
      have SG : Aside (∀ n os, SWK enc k w0 blk off d (grow (wr.drewN n) os)) := fun n os => S1.out.grown n os
      have htv : Hid (test h = !decide (cf d[m]! d[h]! < 0)) := by show _ = _; rw [HT.out]; rfl
      generalize d[h]! = xh at lj hcg htv
      generalize d[m]! = xa at la hcg htv
      clear S1
      by_cases hlv : ¬ cf xa xh < 0
      · have HV : Hid (test h = true) := by show _ = _; rw [htv.out]; simpa using hlv
        clear htv
        go_quiet_grown (first | (go_at_fn g; refine Calls.grown_of (hcg _ _)))
        go_wp2
        go_roundg (j - (h + 1))
        case measure => omega
        case rel =>
          refine ⟨h + 1, j, by go_num, rfl, by omega, by omega, by omega, Nat.le_refl _, SG.out _ _, (show Aside _ from ?_)⟩
          have := HEQ.out
          rw [half_lt _ _ _ hlt, hh, if_pos HV.out] at this
          exact this
      · have HV : Hid (¬ test h = true) := by show ¬ _; rw [htv.out]; simpa using hlv
        rw [Classical.not_not] at hlv
        clear htv
        go_quiet_grown (first | (go_at_fn g; refine Calls.grown_of (hcg _ _)))
        go_wp2
        go_roundg (h - i)
        case measure => omega
        case rel =>
          refine ⟨i, h, rfl, rfl, by omega, by omega, by omega, Nat.le_refl _, SG.out _ _, (show Aside _ from ?_)⟩
          have := HEQ.out
          rw [half_lt _ _ _ hlt, hh, if_neg HV.out] at this
          exact this
    · have hltz : ¬ (i : Int) < (j : Int) := by omega
      have hE : i = half test a m := by have := HEQ.out; rw [half_ge _ _ _ hlt] at this; exact this
      have HE : Hid (half test a m = i) := hE.symm
      clear HEQ hE
      go_wp2
      go_loopg [17] (m - i) (fun kx s17 wr => ∃ (q : Nat) (dk : Array α), s17 = .int .i64 q ∧ i ≤ q ∧ q ≤ m ∧ q - i ≤ kx ∧ dk.size = d.size ∧ Aside (SWK enc k w0 blk off dk wr) ∧ Aside (downTo i q dk = downTo i m d))
      case atStart => exact ⟨m, d, rfl, by omega, by omega, by omega, rfl, S1, rfl⟩
      case round =>
        clear S1
        obtain ⟨q1, dk, rfl, haq, hqe, hkx, hds, S1, HEQ⟩ := hrel
        by_cases hlt : i < q1
        · obtain ⟨q, rfl⟩ : ∃ q, q1 = q + 1 := ⟨q1 - 1, by omega⟩
          have hltz : (i : Int) < (q : Int) + 1 := by omega
          have eb : ((q : Int) + 1).toNat = q + 1 := by omega
          have pb : (0 : Int) ≤ (q : Int) + 1 := by omega
          have bb : (q : Int) + 1 < (d.size : Int) := by omega
          have ba : (q : Int) < (d.size : Int) := by omega
          have rb : IntKind.i64.wrap ((q : Int)) = (q : Int) := by rw [IntKind.wrap_i64]; omega
          go_wp2_with fail
          have S2 : Aside (SWK enc k w0 blk off (swp dk (q + 1) q) ((wr.drew.setCells blk (off + (q + 1) * k) (enc dk[q]!)).setCells blk (off + q * k) (enc dk[q + 1]!))) := S1.out.swapped R (q + 1) q (by omega) (by omega)
          have l44a := S1.out.ld1 R (by omega) P (q + 1) (by omega)
          have l44b := S1.out.ld1 R (by omega) P q (by omega)
          have s44a := S1.out.st1 R (by omega) P (q + 1) (by omega) dk[q]!
          have s44b := S1.out.st2 R (by omega) P (q + 1) q (by omega) (by omega) dk[q]! dk[q + 1]!
          have n44a : (enc dk[q + 1]!).length = k := R.hk _
          have n44b : (enc dk[q]!).length = k := R.hk _
          generalize enc dk[q + 1]! = cI44 at S2 l44a s44b n44a
          generalize enc dk[q]! = cJ44 at S2 l44b s44a s44b n44b
          clear S1
          go_wp2_with fail
          go_big_region_o
          clear l44a l44b s44a s44b
          generalize (wr.drew.setCells blk (off + (q + 1) * k) cJ44).setCells blk (off + q * k) cI44 = w2 at S2 ⊢
          go_wp2
          go_roundg (q - i)
          case measure => omega
          case rel =>
            refine ⟨q, _, by first | rfl | go_num | (congr 1; omega), by omega, by omega, Nat.le_refl _, by rw [size_swp]; exact hds, S2, (show Aside _ from ?_)⟩
            have := HEQ.out
            rw [downTo, if_pos hlt] at this
            exact this
        · have hltz : ¬ (i : Int) < (q1 : Int) := by omega
          go_wp2
          refine bodyPost_ret (v := .tuple #[]) (by simp [results, Tryz.results194, go_sem]) rfl ⟨rfl, ?_⟩
          have := HEQ.out
          have h3 : downTo i q1 dk = dk := by
            cases q1 with
            | zero => rfl
            | succ q => rw [downTo, if_neg hlt]
          rw [HE.out, ← this, h3]
          exact S1.out
end Go.Proofs.YtfmceonbejlhlaaGreatDoor

/-
  The stable sort's merge: the general step; the whole.
-/
namespace Go.Proofs.YtfmceonbejlhlaaGreatDoor
open Go.Shelf Go.RowKit Go.Lib Go.Sort
set_option linter.unusedVariables false
set_option linter.unusedSimpArgs false
variable {P : Program} {α : Type} [Inhabited α]

def symRest (lt : α → α → Bool) (f : Nat) (d : Array α) (a m b mid n start : Nat) : Array α :=
  let d1 := if start < m ∧ m < n - start then rotate d start m (n - start) else d
  let d2 := if a < start ∧ start < mid then symF lt f d1 a start mid else d1
  if mid < n - start ∧ n - start < b then symF lt f d2 mid (n - start) b else d2
set_option maxHeartbeats 4000000 in
set_option maxRecDepth 1000000 in
theorem sym_rest {k : Nat} (L : Srt P k) (enc : α → List Value) (cf : α → α → Int) (g f : Nat) (cb : Array Value) (blk off cap a m b mid n s0 r0 : Nat) (d0 d : Array α) (w0 w : World)
    (eg : ∀ args w, (callFunc g args).run P w = .ok (.enter g args) w) (hC : CmpLays P g cb enc k cf blk off d0.size w0)
    (HI : Aside (∀ (a m b : Nat) (dk : Array α) (W : World), b - a < f → a < m → m < b → b ≤ d.size → dk.size = d.size → SWK enc k w0 blk off dk W → Calls P 194 #[.slice (some ⟨blk, off, none⟩) d.size cap, .int .i64 a, .int .i64 m, .int .i64 b, .func (.func g) #[] cb] W fun e w' => e = .returned (.tuple #[]) ∧ SWK enc k w0 blk off (symF (ltOf cf) f dk a m b) w'))
    (R : RowK enc k w0 blk off d0) (hs : d0.size = d.size) (S : SWK enc k w0 blk off d w) (ha : a < m) (hm : m < b) (hb : b ≤ d.size) (hsz : d.size < 4611686018427387904) (h0 : m - a ≠ 1) (h1 : b - m ≠ 1) (hf : b - a < f + 1)
    (hmid : (a + b) / 2 = mid) (hn : mid + m = n) (HS : Aside (s0 = if mid < m then n - b else a)) (HR : Aside (r0 = if mid < m then mid else m)) :
    Calls P 194 #[.slice (some ⟨blk, off, none⟩) d.size cap, .int .i64 a, .int .i64 m, .int .i64 b, .func (.func g) #[] cb] w fun e w' => e = .returned (.tuple #[]) ∧ SWK enc k w0 blk off (symRest (ltOf cf) f d a m b mid n (half (fun c => !ltOf cf d[n - 1 - c]! d[c]!) s0 r0)) w' := by
  have mixed := L.mixed; have t0 := L.t0; have a0 := L.a0; have z0 := L.z0; have v0 := L.v0; have t3 := L.t3; have a3 := L.a3; have z3 := L.z3; have v3 := L.v3; have t4 := L.t4; have a4 := L.a4; have z4 := L.z4; have v4 := L.v4
  have t118 := L.t118; have a118 := L.a118; have z118 := L.z118; have v118 := L.v118
  have t259 := L.t259; have a259 := L.a259; have z259 := L.z259; have v259 := L.v259; have t263 := L.t263; have a263 := L.a263; have z263 := L.z263; have v263 := L.v263; have aE := L.aE; have zE := L.zE
  have FG := L.f194
  have e208 := L.e208
  have e194 := L.e194
  have S0 : Aside (SWK enc k w0 blk off d w) := S
  have HC : Aside (CmpLays P g cb enc k cf blk off d0.size w0) := hC
  clear S hC
  have HRot : Aside (∀ (a m b : Nat) (dk : Array α) (W : World), a < m → m < b → b ≤ d.size → dk.size = d.size → SWK enc k w0 blk off dk W → Calls P 208 #[.slice (some ⟨blk, off, none⟩) d.size cap, .int .i64 a, .int .i64 m, .int .i64 b, .func (.func g) #[] cb] W fun e w' => e = .returned (.tuple #[]) ∧ SWK enc k w0 blk off (rotate dk a m b) w') := by
    intro a m b dk W h1 h2 h3 hd hS
    have := rotate_any L enc (.func (.func g) #[] cb) blk off cap a m b d0 dk w0 W R (by omega) hS h1 h2 (by omega) (by omega)
    rw [hd] at this
    exact this
  obtain ⟨ma, hma⟩ : ∃ x, m - a = x := ⟨_, rfl⟩
  have w1 : IntKind.i64.wrap ((m : Int) - (a : Int)) = (ma : Int) := by rw [IntKind.wrap_i64]; omega
  have w1b : ((ma : Int) == 1) = false := by rw [beq_eq_false_iff_ne]; omega
  have w1c : ¬ ((ma : Int) = 1) := by omega
  obtain ⟨mb, hmb⟩ : ∃ x, b - m = x := ⟨_, rfl⟩
  have w2 : IntKind.i64.wrap ((b : Int) - (m : Int)) = (mb : Int) := by rw [IntKind.wrap_i64]; omega
  have w2b : ((mb : Int) == 1) = false := by rw [beq_eq_false_iff_ne]; omega
  have w2c : ¬ ((mb : Int) = 1) := by omega
  have emid : ((a : Int) + (b : Int)) / 2 = (mid : Int) := by omega
  have en : IntKind.i64.wrap ((mid : Int) + (m : Int)) = (n : Int) := by rw [IntKind.wrap_i64]; omega
  obtain ⟨p, hp⟩ : ∃ p, n - 1 = p := ⟨_, rfl⟩
  have ep : IntKind.i64.wrap ((n : Int) - 1) = (p : Int) := by rw [IntKind.wrap_i64]; omega
  rw [hp]
  obtain ⟨test, htest⟩ : ∃ test : Nat → Bool, test = (fun c => !ltOf cf d[p - c]! d[c]!) := ⟨_, rfl⟩
  rw [← htest]
  have HT : Hid _ := htest
  clear htest
  go_enter FG, Tryz.ntmps194
  by_cases hmm : mid < m
  · have hmz : (mid : Int) < (m : Int) := by omega
    have hs0 : n - b = s0 := by rw [HS.out, if_pos hmm]
    have hr0 : mid = r0 := by rw [HR.out, if_pos hmm]
    have esz : IntKind.i64.wrap ((n : Int) - (b : Int)) = (s0 : Int) := by rw [IntKind.wrap_i64]; omega
    subst hr0
    go_wp2_with fail
    go_loopg [20, 21] (mid - s0) (fun kx s20 s21 wr => ∃ (i j : Nat), s20 = .int .i64 i ∧ s21 = .int .i64 j ∧ s0 ≤ i ∧ i ≤ j ∧ j ≤ mid ∧ j - i ≤ kx ∧ Aside (SWK enc k w0 blk off d wr) ∧ Aside (half test i j = half test s0 mid))
    case atStart => exact ⟨s0, mid, by first | rfl | go_num, by first | rfl | go_num, by omega, by omega, by omega, by omega, S0, rfl⟩
    case round =>
      clear S0
      obtain ⟨i, j, rfl, rfl, hmi, hij, hjb, hkx, S1, HEQ⟩ := hrel
      by_cases hlt : i < j
      · have hltz : (i : Int) < (j : Int) := by omega
        obtain ⟨h, hh⟩ : ∃ h, (i + j) / 2 = h := ⟨_, rfl⟩
        have ehz : ((i : Int) + (j : Int)) / 2 = (h : Int) := by omega
        go_wp2_with fail
        first | rw [ehz] | skip
        clear ehz
        obtain ⟨ph, hph⟩ : ∃ ph, p - h = ph := ⟨_, rfl⟩
        have eph : IntKind.i64.wrap ((p : Int) - (h : Int)) = (ph : Int) := by rw [IntKind.wrap_i64]; omega
        have hzl : (h : Int) < (d.size : Int) := by omega
        have hza : (ph : Int) < (d.size : Int) := by omega
        have lj := fun n' os' => S1.out.ld R hs.symm P h (by omega) n' os'
        have la := fun n' os' => S1.out.ld R hs.symm P ph (by omega) n' os'
        have hcg := fun n' os' => S1.out.cmp HC.out hs.symm d[ph]! d[h]! n' os'
        have SG : Aside (∀ n os, SWK enc k w0 blk off d (grow (wr.drewN n) os)) := fun n os => S1.out.grown n os
        have htv : Hid (test h = !decide (cf d[ph]! d[h]! < 0)) := by show _ = _; rw [HT.out, ← hph]; rfl
        generalize d[h]! = xh at lj hcg htv
        generalize d[ph]! = xa at la hcg htv
        clear S1
        by_cases hlv : ¬ cf xa xh < 0
        · have HV : Hid (test h = true) := by show _ = _; rw [htv.out]; simpa using hlv
          clear htv
          go_quiet_grown (first | (go_at_fn g; refine Calls.grown_of (hcg _ _)))
          go_wp2
          go_roundg (j - (h + 1))
          case measure => omega
          case rel =>
            refine ⟨h + 1, j, by go_num, rfl, by omega, by omega, by omega, Nat.le_refl _, SG.out _ _, (show Aside _ from ?_)⟩
            have := HEQ.out
            rw [half_lt _ _ _ hlt, hh, if_pos HV.out] at this
            exact this
        · have HV : Hid (¬ test h = true) := by show ¬ _; rw [htv.out]; simpa using hlv
          rw [Classical.not_not] at hlv
          clear htv
          go_quiet_grown (first | (go_at_fn g; refine Calls.grown_of (hcg _ _)))
          go_wp2
          go_roundg (h - i)
          case measure => omega
          case rel =>
            refine ⟨i, h, rfl, rfl, by omega, by omega, by omega, Nat.le_refl _, SG.out _ _, (show Aside _ from ?_)⟩
            have := HEQ.out
            rw [half_lt _ _ _ hlt, hh, if_neg HV.out] at this
            exact this
      · have hltz : ¬ (i : Int) < (j : Int) := by omega
        have hE : i = half test s0 mid := by have := HEQ.out; rw [half_ge _ _ _ hlt] at this; exact this
        have HE : Hid (half test s0 mid = i) := hE.symm
        clear HEQ hE
        obtain ⟨e, he⟩ : ∃ e, n - i = e := ⟨_, rfl⟩
        have ewz : IntKind.i64.wrap ((n : Int) - (i : Int)) = (e : Int) := by rw [IntKind.wrap_i64]; omega
        have S4 : Aside (SWK enc k w0 blk off d wr) := S1
        clear S1
        by_cases c1 : i < m ∧ m < e <;> by_cases c2 : a < i ∧ i < mid <;> by_cases c3 : mid < e ∧ e < b
        · have z1a : (i : Int) < (m : Int) := by omega
          have z1b : (m : Int) < (e : Int) := by omega
          have z2a : (a : Int) < (i : Int) := by omega
          have z2b : (i : Int) < (mid : Int) := by omega
          have z3a : (mid : Int) < (e : Int) := by omega
          have z3b : (e : Int) < (b : Int) := by omega
          go_wp2_with (first
            | (go_at_call 208; refine (HRot.out _ _ _ _ _ (by omega) (by omega) (by omega) rfl S4.out).mono ?_; rintro ee w4 ⟨rfl, S3⟩; have S4 : Aside _ := S3; clear S3)
            | (go_at_call 194; refine (HI.out _ _ _ _ _ (by omega) (by omega) (by omega) (by omega) (by simp only [size_symF, size_rotate]) S4.out).mono ?_; rintro ee w4 ⟨rfl, S3⟩; have S4 : Aside _ := S3; clear S3))
          all_goals (
            go_end0
            refine ⟨rfl, ?_⟩
            rw [HE.out, symRest]
            simp only [he]
            rw [if_pos c3, if_pos c2, if_pos c1]
            exact S4.out)
        · have z1a : (i : Int) < (m : Int) := by omega
          have z1b : (m : Int) < (e : Int) := by omega
          have z2a : (a : Int) < (i : Int) := by omega
          have z2b : (i : Int) < (mid : Int) := by omega
          have z3 : (decide ((mid : Int) < (e : Int)) && decide ((e : Int) < (b : Int))) = false := by simp only [Bool.and_eq_false_iff, decide_eq_false_iff_not]; omega
          go_wp2_with (first
            | (go_at_call 208; refine (HRot.out _ _ _ _ _ (by omega) (by omega) (by omega) rfl S4.out).mono ?_; rintro ee w4 ⟨rfl, S3⟩; have S4 : Aside _ := S3; clear S3)
            | (go_at_call 194; refine (HI.out _ _ _ _ _ (by omega) (by omega) (by omega) (by omega) (by simp only [size_symF, size_rotate]) S4.out).mono ?_; rintro ee w4 ⟨rfl, S3⟩; have S4 : Aside _ := S3; clear S3))
          all_goals (
            go_end0
            refine ⟨rfl, ?_⟩
            rw [HE.out, symRest]
            simp only [he]
            rw [if_neg c3, if_pos c2, if_pos c1]
            exact S4.out)
        · have z1a : (i : Int) < (m : Int) := by omega
          have z1b : (m : Int) < (e : Int) := by omega
          have z2 : (decide ((a : Int) < (i : Int)) && decide ((i : Int) < (mid : Int))) = false := by simp only [Bool.and_eq_false_iff, decide_eq_false_iff_not]; omega
          have z3a : (mid : Int) < (e : Int) := by omega
          have z3b : (e : Int) < (b : Int) := by omega
          go_wp2_with (first
            | (go_at_call 208; refine (HRot.out _ _ _ _ _ (by omega) (by omega) (by omega) rfl S4.out).mono ?_; rintro ee w4 ⟨rfl, S3⟩; have S4 : Aside _ := S3; clear S3)
            | (go_at_call 194; refine (HI.out _ _ _ _ _ (by omega) (by omega) (by omega) (by omega) (by simp only [size_symF, size_rotate]) S4.out).mono ?_; rintro ee w4 ⟨rfl, S3⟩; have S4 : Aside _ := S3; clear S3))
          all_goals (
            go_end0
            refine ⟨rfl, ?_⟩
            rw [HE.out, symRest]
            simp only [he]
            rw [if_pos c3, if_neg c2, if_pos c1]
            exact S4.out)
        · have z1a : (i : Int) < (m : Int) := by omega
          have z1b : (m : Int) < (e : Int) := by omega
          have z2 : (decide ((a : Int) < (i : Int)) && decide ((i : Int) < (mid : Int))) = false := by simp only [Bool.and_eq_false_iff, decide_eq_false_iff_not]; omega
          have z3 : (decide ((mid : Int) < (e : Int)) && decide ((e : Int) < (b : Int))) = false := by simp only [Bool.and_eq_false_iff, decide_eq_false_iff_not]; omega
          go_wp2_with (first
            | (go_at_call 208; refine (HRot.out _ _ _ _ _ (by omega) (by omega) (by omega) rfl S4.out).mono ?_; rintro ee w4 ⟨rfl, S3⟩; have S4 : Aside _ := S3; clear S3)
            | (go_at_call 194; refine (HI.out _ _ _ _ _ (by omega) (by omega) (by omega) (by omega) (by simp only [size_symF, size_rotate]) S4.out).mono ?_; rintro ee w4 ⟨rfl, S3⟩; have S4 : Aside _ := S3; clear S3))
          all_goals (
            go_end0
            refine ⟨rfl, ?_⟩
            rw [HE.out, symRest]
            simp only [he]
            rw [if_neg c3, if_neg c2, if_pos c1]
            exact S4.out)
        · have z1 : (decide ((i : Int) < (m : Int)) && decide ((m : Int) < (e : Int))) = false := by simp only [Bool.and_eq_false_iff, decide_eq_false_iff_not]; omega
          have z2a : (a : Int) < (i : Int) := by omega
          have z2b : (i : Int) < (mid : Int) := by omega
          have z3a : (mid : Int) < (e : Int) := by omega
          have z3b : (e : Int) < (b : Int) := by omega
          go_wp2_with (first
            | (go_at_call 208; refine (HRot.out _ _ _ _ _ (by omega) (by omega) (by omega) rfl S4.out).mono ?_; rintro ee w4 ⟨rfl, S3⟩; have S4 : Aside _ := S3; clear S3)
            | (go_at_call 194; refine (HI.out _ _ _ _ _ (by omega) (by omega) (by omega) (by omega) (by simp only [size_symF, size_rotate]) S4.out).mono ?_; rintro ee w4 ⟨rfl, S3⟩; have S4 : Aside _ := S3; clear S3))
          all_goals (
            go_end0
            refine ⟨rfl, ?_⟩
            rw [HE.out, symRest]
            simp only [he]
            rw [if_pos c3, if_pos c2, if_neg c1]
            exact S4.out)
        · have z1 : (decide ((i : Int) < (m : Int)) && decide ((m : Int) < (e : Int))) = false := by simp only [Bool.and_eq_false_iff, decide_eq_false_iff_not]; omega
          have z2a : (a : Int) < (i : Int) := by omega
          have z2b : (i : Int) < (mid : Int) := by omega
          have z3 : (decide ((mid : Int) < (e : Int)) && decide ((e : Int) < (b : Int))) = false := by simp only [Bool.and_eq_false_iff, decide_eq_false_iff_not]; omega
          go_wp2_with (first
            | (go_at_call 208; refine (HRot.out _ _ _ _ _ (by omega) (by omega) (by omega) rfl S4.out).mono ?_; rintro ee w4 ⟨rfl, S3⟩; have S4 : Aside _ := S3; clear S3)
            | (go_at_call 194; refine (HI.out _ _ _ _ _ (by omega) (by omega) (by omega) (by omega) (by simp only [size_symF, size_rotate]) S4.out).mono ?_; rintro ee w4 ⟨rfl, S3⟩; have S4 : Aside _ := S3; clear S3))
          all_goals (
            go_end0
            refine ⟨rfl, ?_⟩
            rw [HE.out, symRest]
            simp only [he]
            rw [if_neg c3, if_pos c2, if_neg c1]
            exact S4.out)
        · have z1 : (decide ((i : Int) < (m : Int)) && decide ((m : Int) < (e : Int))) = false := by simp only [Bool.and_eq_false_iff, decide_eq_false_iff_not]; omega
          have z2 : (decide ((a : Int) < (i : Int)) && decide ((i : Int) < (mid : Int))) = false := by simp only [Bool.and_eq_false_iff, decide_eq_false_iff_not]; omega
          have z3a : (mid : Int) < (e : Int) := by omega
          have z3b : (e : Int) < (b : Int) := by omega
          go_wp2_with (first
            | (go_at_call 208; refine (HRot.out _ _ _ _ _ (by omega) (by omega) (by omega) rfl S4.out).mono ?_; rintro ee w4 ⟨rfl, S3⟩; have S4 : Aside _ := S3; clear S3)
            | (go_at_call 194; refine (HI.out _ _ _ _ _ (by omega) (by omega) (by omega) (by omega) (by simp only [size_symF, size_rotate]) S4.out).mono ?_; rintro ee w4 ⟨rfl, S3⟩; have S4 : Aside _ := S3; clear S3))
          all_goals (
            go_end0
            refine ⟨rfl, ?_⟩
            rw [HE.out, symRest]
            simp only [he]
            rw [if_pos c3, if_neg c2, if_neg c1]
            exact S4.out)
        · have z1 : (decide ((i : Int) < (m : Int)) && decide ((m : Int) < (e : Int))) = false := by simp only [Bool.and_eq_false_iff, decide_eq_false_iff_not]; omega
          have z2 : (decide ((a : Int) < (i : Int)) && decide ((i : Int) < (mid : Int))) = false := by simp only [Bool.and_eq_false_iff, decide_eq_false_iff_not]; omega
          have z3 : (decide ((mid : Int) < (e : Int)) && decide ((e : Int) < (b : Int))) = false := by simp only [Bool.and_eq_false_iff, decide_eq_false_iff_not]; omega
          go_wp2_with (first
            | (go_at_call 208; refine (HRot.out _ _ _ _ _ (by omega) (by omega) (by omega) rfl S4.out).mono ?_; rintro ee w4 ⟨rfl, S3⟩; have S4 : Aside _ := S3; clear S3)
            | (go_at_call 194; refine (HI.out _ _ _ _ _ (by omega) (by omega) (by omega) (by omega) (by simp only [size_symF, size_rotate]) S4.out).mono ?_; rintro ee w4 ⟨rfl, S3⟩; have S4 : Aside _ := S3; clear S3))
          all_goals (
            go_end0
            refine ⟨rfl, ?_⟩
            rw [HE.out, symRest]
            simp only [he]
            rw [if_neg c3, if_neg c2, if_neg c1]
            exact S4.out)
  · have hmz : ¬ (mid : Int) < (m : Int) := by omega
    have hs0 : a = s0 := by rw [HS.out, if_neg hmm]
    have hr0 : m = r0 := by rw [HR.out, if_neg hmm]
    subst hs0
    subst hr0
    go_wp2_with fail
    go_loopg [20, 21] (m - a) (fun kx s20 s21 wr => ∃ (i j : Nat), s20 = .int .i64 i ∧ s21 = .int .i64 j ∧ a ≤ i ∧ i ≤ j ∧ j ≤ m ∧ j - i ≤ kx ∧ Aside (SWK enc k w0 blk off d wr) ∧ Aside (half test i j = half test a m))
    case atStart => exact ⟨a, m, by first | rfl | go_num, by first | rfl | go_num, by omega, by omega, by omega, by omega, S0, rfl⟩
    case round =>
      clear S0
      obtain ⟨i, j, rfl, rfl, hmi, hij, hjb, hkx, S1, HEQ⟩ := hrel
      by_cases hlt : i < j
      · have hltz : (i : Int) < (j : Int) := by omega
        obtain ⟨h, hh⟩ : ∃ h, (i + j) / 2 = h := ⟨_, rfl⟩
        have ehz : ((i : Int) + (j : Int)) / 2 = (h : Int) := by omega
        go_wp2_with fail
        first | rw [ehz] | skip
        clear ehz
        obtain ⟨ph, hph⟩ : ∃ ph, p - h = ph := ⟨_, rfl⟩
        have eph : IntKind.i64.wrap ((p : Int) - (h : Int)) = (ph : Int) := by rw [IntKind.wrap_i64]; omega
        have hzl : (h : Int) < (d.size : Int) := by omega
        have hza : (ph : Int) < (d.size : Int) := by omega
        have lj := fun n' os' => S1.out.ld R hs.symm P h (by omega) n' os'
        have la := fun n' os' => S1.out.ld R hs.symm P ph (by omega) n' os'
        have hcg := fun n' os' => S1.out.cmp HC.out hs.symm d[ph]! d[h]! n' os'
        have SG : Aside (∀ n os, SWK enc k w0 blk off d (grow (wr.drewN n) os)) := fun n os => S1.out.grown n os
        have htv : Hid (test h = !decide (cf d[ph]! d[h]! < 0)) := by show _ = _; rw [HT.out, ← hph]; rfl
        generalize d[h]! = xh at lj hcg htv
        generalize d[ph]! = xa at la hcg htv
        clear S1
        by_cases hlv : ¬ cf xa xh < 0
        · have HV : Hid (test h = true) := by show _ = _; rw [htv.out]; simpa using hlv
          clear htv
          go_quiet_grown (first | (go_at_fn g; refine Calls.grown_of (hcg _ _)))
          go_wp2
          go_roundg (j - (h + 1))
          case measure => omega
          case rel =>
            refine ⟨h + 1, j, by go_num, rfl, by omega, by omega, by omega, Nat.le_refl _, SG.out _ _, (show Aside _ from ?_)⟩
            have := HEQ.out
            rw [half_lt _ _ _ hlt, hh, if_pos HV.out] at this
            exact this
        · have HV : Hid (¬ test h = true) := by show ¬ _; rw [htv.out]; simpa using hlv
          rw [Classical.not_not] at hlv
          clear htv
          go_quiet_grown (first | (go_at_fn g; refine Calls.grown_of (hcg _ _)))
          go_wp2
          go_roundg (h - i)
          case measure => omega
          case rel =>
            refine ⟨i, h, rfl, rfl, by omega, by omega, by omega, Nat.le_refl _, SG.out _ _, (show Aside _ from ?_)⟩
            have := HEQ.out
            rw [half_lt _ _ _ hlt, hh, if_neg HV.out] at this
            exact this
      · have hltz : ¬ (i : Int) < (j : Int) := by omega
        have hE : i = half test a m := by have := HEQ.out; rw [half_ge _ _ _ hlt] at this; exact this
        have HE : Hid (half test a m = i) := hE.symm
        clear HEQ hE
        obtain ⟨e, he⟩ : ∃ e, n - i = e := ⟨_, rfl⟩
        have ewz : IntKind.i64.wrap ((n : Int) - (i : Int)) = (e : Int) := by rw [IntKind.wrap_i64]; omega
        have S4 : Aside (SWK enc k w0 blk off d wr) := S1
        clear S1
        by_cases c1 : i < m ∧ m < e <;> by_cases c2 : a < i ∧ i < mid <;> by_cases c3 : mid < e ∧ e < b
        · have z1a : (i : Int) < (m : Int) := by omega
          have z1b : (m : Int) < (e : Int) := by omega
          have z2a : (a : Int) < (i : Int) := by omega
          have z2b : (i : Int) < (mid : Int) := by omega
          have z3a : (mid : Int) < (e : Int) := by omega
          have z3b : (e : Int) < (b : Int) := by omega
          go_wp2_with (first
            | (go_at_call 208; refine (HRot.out _ _ _ _ _ (by omega) (by omega) (by omega) rfl S4.out).mono ?_; rintro ee w4 ⟨rfl, S3⟩; have S4 : Aside _ := S3; clear S3)
            | (go_at_call 194; refine (HI.out _ _ _ _ _ (by omega) (by omega) (by omega) (by omega) (by simp only [size_symF, size_rotate]) S4.out).mono ?_; rintro ee w4 ⟨rfl, S3⟩; have S4 : Aside _ := S3; clear S3))
          all_goals (
            go_end0
            refine ⟨rfl, ?_⟩
            rw [HE.out, symRest]
            simp only [he]
            rw [if_pos c3, if_pos c2, if_pos c1]
            exact S4.out)
        · have z1a : (i : Int) < (m : Int) := by omega
          have z1b : (m : Int) < (e : Int) := by omega
          have z2a : (a : Int) < (i : Int) := by omega
          have z2b : (i : Int) < (mid : Int) := by omega
          have z3 : (decide ((mid : Int) < (e : Int)) && decide ((e : Int) < (b : Int))) = false := by simp only [Bool.and_eq_false_iff, decide_eq_false_iff_not]; omega
          go_wp2_with (first
            | (go_at_call 208; refine (HRot.out _ _ _ _ _ (by omega) (by omega) (by omega) rfl S4.out).mono ?_; rintro ee w4 ⟨rfl, S3⟩; have S4 : Aside _ := S3; clear S3)
            | (go_at_call 194; refine (HI.out _ _ _ _ _ (by omega) (by omega) (by omega) (by omega) (by simp only [size_symF, size_rotate]) S4.out).mono ?_; rintro ee w4 ⟨rfl, S3⟩; have S4 : Aside _ := S3; clear S3))
          all_goals (
            go_end0
            refine ⟨rfl, ?_⟩
            rw [HE.out, symRest]
            simp only [he]
            rw [if_neg c3, if_pos c2, if_pos c1]
            exact S4.out)
        · have z1a : (i : Int) < (m : Int) := by omega
          have z1b : (m : Int) < (e : Int) := by omega
          have z2 : (decide ((a : Int) < (i : Int)) && decide ((i : Int) < (mid : Int))) = false := by simp only [Bool.and_eq_false_iff, decide_eq_false_iff_not]; omega
          have z3a : (mid : Int) < (e : Int) := by omega
          have z3b : (e : Int) < (b : Int) := by omega
          go_wp2_with (first
            | (go_at_call 208; refine (HRot.out _ _ _ _ _ (by omega) (by omega) (by omega) rfl S4.out).mono ?_; rintro ee w4 ⟨rfl, S3⟩; have S4 : Aside _ := S3; clear S3)
            | (go_at_call 194; refine (HI.out _ _ _ _ _ (by omega) (by omega) (by omega) (by omega) (by simp only [size_symF, size_rotate]) S4.out).mono ?_; rintro ee w4 ⟨rfl, S3⟩; have S4 : Aside _ := S3; clear S3))
          all_goals (
            go_end0
            refine ⟨rfl, ?_⟩
            rw [HE.out, symRest]
            simp only [he]
            rw [if_pos c3, if_neg c2, if_pos c1]
            exact S4.out)
        · have z1a : (i : Int) < (m : Int) := by omega
          have z1b : (m : Int) < (e : Int) := by omega
          have z2 : (decide ((a : Int) < (i : Int)) && decide ((i : Int) < (mid : Int))) = false := by simp only [Bool.and_eq_false_iff, decide_eq_false_iff_not]; omega
          have z3 : (decide ((mid : Int) < (e : Int)) && decide ((e : Int) < (b : Int))) = false := by simp only [Bool.and_eq_false_iff, decide_eq_false_iff_not]; omega
          go_wp2_with (first
            | (go_at_call 208; refine (HRot.out _ _ _ _ _ (by omega) (by omega) (by omega) rfl S4.out).mono ?_; rintro ee w4 ⟨rfl, S3⟩; have S4 : Aside _ := S3; clear S3)
            | (go_at_call 194; refine (HI.out _ _ _ _ _ (by omega) (by omega) (by omega) (by omega) (by simp only [size_symF, size_rotate]) S4.out).mono ?_; rintro ee w4 ⟨rfl, S3⟩; have S4 : Aside _ := S3; clear S3))
          all_goals (
            go_end0
            refine ⟨rfl, ?_⟩
            rw [HE.out, symRest]
            simp only [he]
            rw [if_neg c3, if_neg c2, if_pos c1]
            exact S4.out)
        · have z1 : (decide ((i : Int) < (m : Int)) && decide ((m : Int) < (e : Int))) = false := by simp only [Bool.and_eq_false_iff, decide_eq_false_iff_not]; omega
          have z2a : (a : Int) < (i : Int) := by omega
          have z2b : (i : Int) < (mid : Int) := by omega
          have z3a : (mid : Int) < (e : Int) := by omega
          have z3b : (e : Int) < (b : Int) := by omega
          go_wp2_with (first
            | (go_at_call 208; refine (HRot.out _ _ _ _ _ (by omega) (by omega) (by omega) rfl S4.out).mono ?_; rintro ee w4 ⟨rfl, S3⟩; have S4 : Aside _ := S3; clear S3)
            | (go_at_call 194; refine (HI.out _ _ _ _ _ (by omega) (by omega) (by omega) (by omega) (by simp only [size_symF, size_rotate]) S4.out).mono ?_; rintro ee w4 ⟨rfl, S3⟩; have S4 : Aside _ := S3; clear S3))
          all_goals (
            go_end0
            refine ⟨rfl, ?_⟩
            rw [HE.out, symRest]
            simp only [he]
            rw [if_pos c3, if_pos c2, if_neg c1]
            exact S4.out)
        · have z1 : (decide ((i : Int) < (m : Int)) && decide ((m : Int) < (e : Int))) = false := by simp only [Bool.and_eq_false_iff, decide_eq_false_iff_not]; omega
          have z2a : (a : Int) < (i : Int) := by omega
          have z2b : (i : Int) < (mid : Int) := by omega
          have z3 : (decide ((mid : Int) < (e : Int)) && decide ((e : Int) < (b : Int))) = false := by simp only [Bool.and_eq_false_iff, decide_eq_false_iff_not]; omega
          go_wp2_with (first
            | (go_at_call 208; refine (HRot.out _ _ _ _ _ (by omega) (by omega) (by omega) rfl S4.out).mono ?_; rintro ee w4 ⟨rfl, S3⟩; have S4 : Aside _ := S3; clear S3)
            | (go_at_call 194; refine (HI.out _ _ _ _ _ (by omega) (by omega) (by omega) (by omega) (by simp only [size_symF, size_rotate]) S4.out).mono ?_; rintro ee w4 ⟨rfl, S3⟩; have S4 : Aside _ := S3; clear S3))
          all_goals (
            go_end0
            refine ⟨rfl, ?_⟩
            rw [HE.out, symRest]
            simp only [he]
            rw [if_neg c3, if_pos c2, if_neg c1]
            exact S4.out)
        · have z1 : (decide ((i : Int) < (m : Int)) && decide ((m : Int) < (e : Int))) = false := by simp only [Bool.and_eq_false_iff, decide_eq_false_iff_not]; omega
          have z2 : (decide ((a : Int) < (i : Int)) && decide ((i : Int) < (mid : Int))) = false := by simp only [Bool.and_eq_false_iff, decide_eq_false_iff_not]; omega
          have z3a : (mid : Int) < (e : Int) := by omega
          have z3b : (e : Int) < (b : Int) := by omega
          go_wp2_with (first
            | (go_at_call 208; refine (HRot.out _ _ _ _ _ (by omega) (by omega) (by omega) rfl S4.out).mono ?_; rintro ee w4 ⟨rfl, S3⟩; have S4 : Aside _ := S3; clear S3)
            | (go_at_call 194; refine (HI.out _ _ _ _ _ (by omega) (by omega) (by omega) (by omega) (by simp only [size_symF, size_rotate]) S4.out).mono ?_; rintro ee w4 ⟨rfl, S3⟩; have S4 : Aside _ := S3; clear S3))
          all_goals (
            go_end0
            refine ⟨rfl, ?_⟩
            rw [HE.out, symRest]
            simp only [he]
            rw [if_pos c3, if_neg c2, if_neg c1]
            exact S4.out)
        · have z1 : (decide ((i : Int) < (m : Int)) && decide ((m : Int) < (e : Int))) = false := by simp only [Bool.and_eq_false_iff, decide_eq_false_iff_not]; omega
          have z2 : (decide ((a : Int) < (i : Int)) && decide ((i : Int) < (mid : Int))) = false := by simp only [Bool.and_eq_false_iff, decide_eq_false_iff_not]; omega
          have z3 : (decide ((mid : Int) < (e : Int)) && decide ((e : Int) < (b : Int))) = false := by simp only [Bool.and_eq_false_iff, decide_eq_false_iff_not]; omega
          go_wp2_with (first
            | (go_at_call 208; refine (HRot.out _ _ _ _ _ (by omega) (by omega) (by omega) rfl S4.out).mono ?_; rintro ee w4 ⟨rfl, S3⟩; have S4 : Aside _ := S3; clear S3)
            | (go_at_call 194; refine (HI.out _ _ _ _ _ (by omega) (by omega) (by omega) (by omega) (by simp only [size_symF, size_rotate]) S4.out).mono ?_; rintro ee w4 ⟨rfl, S3⟩; have S4 : Aside _ := S3; clear S3))
          all_goals (
            go_end0
            refine ⟨rfl, ?_⟩
            rw [HE.out, symRest]
            simp only [he]
            rw [if_neg c3, if_neg c2, if_neg c1]
            exact S4.out)

theorem sym_any {k : Nat} (L : Srt P k) (enc : α → List Value) (cf : α → α → Int) (g : Nat) (cb : Array Value) (blk off cap : Nat) (d0 : Array α) (w0 : World)
    (eg : ∀ args w, (callFunc g args).run P w = .ok (.enter g args) w) (hC : CmpLays P g cb enc k cf blk off d0.size w0) (R : RowK enc k w0 blk off d0) (hsz : d0.size < 4611686018427387904) :
    ∀ (f a m b : Nat) (d : Array α) (w : World), b - a < f → a < m → m < b → b ≤ d0.size → d.size = d0.size → SWK enc k w0 blk off d w →
    Calls P 194 #[.slice (some ⟨blk, off, none⟩) d0.size cap, .int .i64 a, .int .i64 m, .int .i64 b, .func (.func g) #[] cb] w fun e w' => e = .returned (.tuple #[]) ∧ SWK enc k w0 blk off (symF (ltOf cf) f d a m b) w'
  | 0, a, m, b, d, w, h, _, _, _, _, _ => absurd h (Nat.not_lt_zero _)
  | f + 1, a, m, b, d, w, hf, ha, hm, hb, hd, S => by
    have ih := sym_any L enc cf g cb blk off cap d0 w0 eg hC R hsz f
    rw [symF]
    rw [← hd] at hb hsz ih ⊢
    split
    · rename_i h1
      exact sym_first L enc cf g cb blk off cap a m b d0 d w0 w eg hC R hd.symm S ha hm hb hsz h1
    · rename_i h1
      split
      · rename_i h2
        exact sym_last L enc cf g cb blk off cap a m b d0 d w0 w eg hC R hd.symm S ha hm hb hsz h1 h2
      · rename_i h2
        exact sym_rest L enc cf g f cb blk off cap a m b ((a + b) / 2) ((a + b) / 2 + m) _ _ d0 d w0 w eg hC ih R hd.symm S ha hm hb hsz h1 h2 hf rfl rfl rfl rfl
end Go.Proofs.YtfmceonbejlhlaaGreatDoor

/-
  The stable sort: insertion by the shelf's contract; blocks; the whole.
-/
namespace Go.Proofs.YtfmceonbejlhlaaGreatDoor
open Go.Shelf Go.RowKit Go.Lib Go.Sort
set_option linter.unusedVariables false
variable {P : Program} {α : Type} [Inhabited α]

/-- The shelf's numbers, ours. -/
def sren : Ren := ⟨fun n => if n = 20 then 193 else n, fun n => if n = 22 then 259 else if n = 24 then 261 else if n = 25 then 263 else n, fun n => n⟩
theorem Srt.lays {k : Nat} (L : Srt P k) : SlLaysF0.n20 P sren where
  mixed := L.mixed
  f20 := ⟨Tryz.f193.name, by kernel_rfl, L.f193⟩
  t0 := L.t0
  a0 := L.a0
  z0 := L.z0
  v0 := L.v0
  t3 := L.t3
  a3 := L.a3
  z3 := L.z3
  v3 := L.v3
  t4 := L.t4
  a4 := L.a4
  z4 := L.z4
  v4 := L.v4
  t22 := L.t259
  a22 := L.a259
  z22 := L.z259
  v22 := L.v259
  t25 := L.t263
  a25 := L.a263
  z25 := L.z263
  v25 := L.v263
theorem cmp_on {k g : Nat} {cb : Array Value} {enc : α → List Value} {cf : α → α → Int} {blk off size : Nat} {w0 W : World} {d : Array α} (hC : CmpLays P g cb enc k cf blk off size w0) (S : SWK enc k w0 blk off d W) (hblk : blk < w0.heap.size) (hd : d.size = size) : CmpLays P g cb enc k cf blk off size W :=
  fun m os dk hs x y => by
    obtain ⟨n, os', e⟩ := S.on hblk m dk os (hs.trans hd.symm)
    rw [e]
    exact hC n os' dk hs x y
theorem ins_any {k : Nat} (L : Srt P k) (enc : α → List Value) (cf : α → α → Int) (g : Nat) (cb : Array Value) (blk off cap : Nat) (d0 : Array α) (w0 : World)
    (eg : ∀ args w, (callFunc g args).run P w = .ok (.enter g args) w) (hC : CmpLays P g cb enc k cf blk off d0.size w0) (R : RowK enc k w0 blk off d0) (hsz : d0.size < 4611686018427387904)
    (a b : Nat) (d : Array α) (w : World) (hab : a ≤ b) (hb : b ≤ d0.size) (hd : d.size = d0.size) (S : SWK enc k w0 blk off d w) :
    Calls P 193 #[.slice (some ⟨blk, off, none⟩) d0.size cap, .int .i64 a, .int .i64 b, .func (.func g) #[] cb] w fun e w' => e = .returned (.tuple #[]) ∧ SWK enc k w0 blk off (insertionSort (ltOf cf) d a b) w' := by
  have h := AnyQ.insertionSortCmpFunc L.lays k L.aE L.zE enc R.hk R.h1 cf g cb blk off cap a b d w eg (by rw [hd]; exact cmp_on hC S R.hblk hd) (S.holds R.hblk R.hH hd) (S.lt R.hblk) hab (by omega) (by omega)
  rw [hd] at h
  refine h.mono ?_
  rintro e w' ⟨rfl, n, os, rfl⟩
  exact ⟨rfl, S.on R.hblk n _ os (size_insertionSort _ _ _ _)⟩

set_option maxHeartbeats 4000000 in
set_option maxRecDepth 1000000 in
theorem stableCmp_any {k : Nat} (L : Srt P k) (enc : α → List Value) (cf : α → α → Int) (g : Nat) (cb : Array Value) (blk off cap n : Nat) (d0 : Array α) (w0 : World)
    (eg : ∀ args w, (callFunc g args).run P w = .ok (.enter g args) w) (hC : CmpLays P g cb enc k cf blk off d0.size w0) (R : RowK enc k w0 blk off d0) (hsz : d0.size < 1152921504606846976) (hn : d0.size = n) :
    Calls P 174 #[.slice (some ⟨blk, off, none⟩) d0.size cap, .int .i64 n, .func (.func g) #[] cb] w0 fun e w' => e = .returned (.tuple #[]) ∧ SWK enc k w0 blk off (stable (ltOf cf) d0 n) w' := by
  have mixed := L.mixed; have t0 := L.t0; have a0 := L.a0; have z0 := L.z0; have v0 := L.v0; have t3 := L.t3; have a3 := L.a3; have z3 := L.z3; have v3 := L.v3; have t4 := L.t4; have a4 := L.a4; have z4 := L.z4; have v4 := L.v4
  have t259 := L.t259; have a259 := L.a259; have z259 := L.z259; have v259 := L.v259; have t263 := L.t263; have a263 := L.a263; have z263 := L.z263; have v263 := L.v263; have aE := L.aE; have zE := L.zE
  have FG := L.f174
  have e193 := L.e193
  have e194 := L.e194
  have S0 : Aside (SWK enc k w0 blk off d0 w0) := SWK.start R.hH
  have HIns : Aside (∀ (a b : Nat) (dk : Array α) (W : World), a ≤ b → b ≤ n → dk.size = n → SWK enc k w0 blk off dk W → Calls P 193 #[.slice (some ⟨blk, off, none⟩) d0.size cap, .int .i64 a, .int .i64 b, .func (.func g) #[] cb] W fun e w' => e = .returned (.tuple #[]) ∧ SWK enc k w0 blk off (insertionSort (ltOf cf) dk a b) w') :=
    fun a b dk W h1 h2 h3 S => ins_any L enc cf g cb blk off cap d0 w0 eg hC R (by omega) a b dk W h1 (by omega) (by omega) S
  have HSym : Aside (∀ (a m b : Nat) (dk : Array α) (W : World), a < m → m < b → b ≤ n → dk.size = n → SWK enc k w0 blk off dk W → Calls P 194 #[.slice (some ⟨blk, off, none⟩) d0.size cap, .int .i64 a, .int .i64 m, .int .i64 b, .func (.func g) #[] cb] W fun e w' => e = .returned (.tuple #[]) ∧ SWK enc k w0 blk off (symF (ltOf cf) (n + 1) dk a m b) w') :=
    fun a m b dk W h1 h2 h3 h4 S => sym_any L enc cf g cb blk off cap d0 w0 eg hC R (by omega) (n + 1) a m b dk W (by omega) h1 h2 (by omega) (by omega) S
  clear hC R
  have hnn : n < 1152921504606846976 := by omega
  have HN : Hid (d0.size = n) := hn
  rw [hn] at HIns HSym ⊢
  clear hn
  obtain ⟨st, hst⟩ : ∃ st : Array α, st = stable (ltOf cf) d0 n := ⟨_, rfl⟩
  rw [← hst]
  have HST : Hid _ := hst
  clear hst
  go_enter FG, Tryz.ntmps174
  go_wp2
  go_loopg [7, 8] n (fun kx s7 s8 wr => ∃ (a : Nat) (dk : Array α), s7 = .int .i64 a ∧ s8 = .int .i64 ((a : Int) + 20) ∧ a ≤ n ∧ n - a ≤ kx ∧ dk.size = n ∧ Aside (SWK enc k w0 blk off dk wr) ∧ Aside (insBlocks (ltOf cf) n a dk = insBlocks (ltOf cf) n 0 d0))
  case atStart => exact ⟨0, d0, rfl, rfl, by omega, by omega, HN.out, S0, rfl⟩
  case round =>
    clear S0
    obtain ⟨a, dk, rfl, rfl, han, hkx, hds, S1, HEQ⟩ := hrel
    by_cases hlt : a + 20 ≤ n
    · have hltz : (a : Int) + 20 ≤ (n : Int) := by omega
      have w1 : IntKind.i64.wrap ((a : Int) + 20 + 20) = (a : Int) + 20 + 20 := by rw [IntKind.wrap_i64]; omega
      have HCall : Aside (Calls P 193 #[.slice (some ⟨blk, off, none⟩) n cap, .int .i64 a, .int .i64 ((a : Int) + 20), .func (.func g) #[] cb] wr fun e w' => e = .returned (.tuple #[]) ∧ SWK enc k w0 blk off (insertionSort (ltOf cf) dk a (a + 20)) w') := HIns.out a (a + 20) dk wr (by omega) hlt hds S1.out
      go_wp2_with (go_at_call 193; refine HCall.out.mono ?_; rintro e w3 ⟨rfl, S3⟩; have S4 : Aside _ := S3; clear S3)
      go_roundg (n - (a + 20))
      case measure => omega
      case rel =>
        refine ⟨a + 20, _, by go_num, by go_num, by omega, Nat.le_refl _, by rw [size_insertionSort]; exact hds, S4, (show Aside _ from ?_)⟩
        have := HEQ.out
        rw [insBlocks, if_pos hlt] at this
        exact this
    · have hltz : ¬ (a : Int) + 20 ≤ (n : Int) := by omega
      go_wp2_with (go_at_call 193; refine (HIns.out a n dk wr (by omega) (Nat.le_refl _) hds S1.out).mono ?_; rintro e w3 ⟨rfl, S3⟩; have S4 : Aside _ := S3; clear S3)
      clear S1
      obtain ⟨d1, hd1⟩ : ∃ d1, insertionSort (ltOf cf) dk a n = d1 := ⟨_, rfl⟩
      have hds1 : d1.size = n := by rw [← hd1, size_insertionSort]; exact hds
      rw [hd1] at S4
      have HE1 : Aside (d1 = insBlocks (ltOf cf) n 0 d0) := by
        have := HEQ.out
        rw [insBlocks, if_neg hlt] at this
        exact hd1.symm.trans this
      clear HEQ hd1
      go_loopg [6] n (fun kx s6 wr => ∃ (s : Nat) (dk : Array α), s6 = .int .i64 s ∧ 20 ≤ s ∧ s ≤ 2 * n + 20 ∧ n - s ≤ kx ∧ dk.size = n ∧ Aside (SWK enc k w0 blk off dk wr) ∧ Aside (stableLoop (ltOf cf) n s dk = stableLoop (ltOf cf) n 20 d1))
      case atStart => exact ⟨20, d1, rfl, by omega, by omega, by omega, hds1, S4, rfl⟩
      case round =>
        clear S4
        obtain ⟨s, dk, rfl, hs20, hs2, hkx, hds, S1, HEQ⟩ := hrel
        by_cases hlt : s < n
        · have hltz : (s : Int) < (n : Int) := by omega
          have w1 : IntKind.i64.wrap (2 * (s : Int)) = 2 * (s : Int) := by rw [IntKind.wrap_i64]; omega
          have w2 : IntKind.i64.wrap ((s : Int) * 2) = (s : Int) * 2 := by rw [IntKind.wrap_i64]; omega
          go_wp2
          go_loopg [7, 8] n (fun kx s7 s8 wr => ∃ (a : Nat) (dj : Array α), s7 = .int .i64 a ∧ s8 = .int .i64 ((a : Int) + 2 * (s : Int)) ∧ a ≤ n ∧ n - a ≤ kx ∧ dj.size = n ∧ Aside (SWK enc k w0 blk off dj wr) ∧ Aside (symBlocks (ltOf cf) s n a dj = symBlocks (ltOf cf) s n 0 dk))
          case atStart => exact ⟨0, dk, rfl, by go_num, by omega, by omega, hds, S1, rfl⟩
          case round =>
            clear S1
            obtain ⟨a, dj, rfl, rfl, han, hkx2, hdj, S1, HEQ2⟩ := hrel
            have w3 : IntKind.i64.wrap ((a : Int) + (s : Int)) = (a : Int) + (s : Int) := by rw [IntKind.wrap_i64]; omega
            by_cases hle : a + 2 * s ≤ n
            · have hlez : (a : Int) + 2 * (s : Int) ≤ (n : Int) := by omega
              have w4 : IntKind.i64.wrap ((a : Int) + 2 * (s : Int) + 2 * (s : Int)) = (a : Int) + 2 * (s : Int) + 2 * (s : Int) := by rw [IntKind.wrap_i64]; omega
              have HCall : Aside (Calls P 194 #[.slice (some ⟨blk, off, none⟩) n cap, .int .i64 a, .int .i64 ((a : Int) + (s : Int)), .int .i64 ((a : Int) + 2 * (s : Int)), .func (.func g) #[] cb] wr fun e w' => e = .returned (.tuple #[]) ∧ SWK enc k w0 blk off (symF (ltOf cf) (n + 1) dj a (a + s) (a + 2 * s)) w') := by
                have := HSym.out a (a + s) (a + 2 * s) dj wr (by omega) (by omega) hle hdj S1.out
                rw [show (((a + s : Nat)) : Int) = (a : Int) + (s : Int) by omega, show (((a + 2 * s : Nat)) : Int) = (a : Int) + 2 * (s : Int) by omega] at this
                exact this
              go_wp2_with (go_at_call 194; refine HCall.out.mono ?_; rintro e w3 ⟨rfl, S3⟩; have S4 : Aside _ := S3; clear S3)
              go_roundg (n - (a + 2 * s))
              case measure => omega
              case rel =>
                refine ⟨a + 2 * s, _, by go_num, by first | go_num | (congr 1; omega), by omega, Nat.le_refl _, by rw [size_symF]; exact hdj, S4, (show Aside _ from ?_)⟩
                have := HEQ2.out
                rw [symBlocks, if_pos ⟨hle, by omega⟩] at this
                exact this
            · have hlez : ¬ (a : Int) + 2 * (s : Int) ≤ (n : Int) := by omega
              by_cases hle2 : a + s < n
              · have hle2z : (a : Int) + (s : Int) < (n : Int) := by omega
                have HCall : Aside (Calls P 194 #[.slice (some ⟨blk, off, none⟩) n cap, .int .i64 a, .int .i64 ((a : Int) + (s : Int)), .int .i64 (n : Int), .func (.func g) #[] cb] wr fun e w' => e = .returned (.tuple #[]) ∧ SWK enc k w0 blk off (symF (ltOf cf) (n + 1) dj a (a + s) n) w') := by
                  have := HSym.out a (a + s) n dj wr (by omega) (by omega) (Nat.le_refl _) hdj S1.out
                  rw [show (((a + s : Nat)) : Int) = (a : Int) + (s : Int) by omega] at this
                  exact this
                go_wp2_with (go_at_call 194; refine HCall.out.mono ?_; rintro e w3 ⟨rfl, S3⟩; have S4 : Aside _ := S3; clear S3)
                go_roundg (n - s * 2)
                case measure => omega
                case rel =>
                  refine ⟨s * 2, _, by first | go_num | (congr 1; omega), by omega, by omega, Nat.le_refl _, by rw [size_symF]; exact hdj, S4, (show Aside _ from ?_)⟩
                  have h1 := HEQ.out
                  have h2 := HEQ2.out
                  rw [stableLoop, if_pos ⟨hlt, by omega⟩] at h1
                  rw [symBlocks, if_neg (by omega), if_pos hle2] at h2
                  show _ = _
                  rw [← h1, ← h2]
              · have hle2z : ¬ (a : Int) + (s : Int) < (n : Int) := by omega
                go_wp2
                go_roundg (n - s * 2)
                case measure => omega
                case rel =>
                  refine ⟨s * 2, dj, by first | go_num | (congr 1; omega), by omega, by omega, Nat.le_refl _, hdj, S1, (show Aside _ from ?_)⟩
                  have h1 := HEQ.out
                  have h2 := HEQ2.out
                  rw [stableLoop, if_pos ⟨hlt, by omega⟩] at h1
                  rw [symBlocks, if_neg (by omega), if_neg hle2] at h2
                  show _ = _
                  rw [← h1, ← h2]
        · have hltz : ¬ (s : Int) < (n : Int) := by omega
          go_wp2
          go_end0
          refine ⟨rfl, ?_⟩
          have h1 := HEQ.out
          rw [stableLoop, if_neg (by omega)] at h1
          rw [HST.out, stable, ← HE1.out, ← h1]
          exact S1.out
set_option maxHeartbeats 4000000 in
theorem stableFunc_any {k : Nat} (L : Srt P k) (enc : α → List Value) (cf : α → α → Int) (g : Nat) (cb : Array Value) (blk off cap : Nat) (d0 : Array α) (w0 : World)
    (eg : ∀ args w, (callFunc g args).run P w = .ok (.enter g args) w) (hC : CmpLays P g cb enc k cf blk off d0.size w0) (R : RowK enc k w0 blk off d0) (hsz : d0.size < 1152921504606846976) :
    Calls P 153 #[.slice (some ⟨blk, off, none⟩) d0.size cap, .func (.func g) #[] cb] w0 fun e w' => e = .returned (.tuple #[]) ∧ SWK enc k w0 blk off (stable (ltOf cf) d0 d0.size) w' := by
  have mixed := L.mixed; have t0 := L.t0; have a0 := L.a0; have z0 := L.z0; have v0 := L.v0; have t3 := L.t3; have a3 := L.a3; have z3 := L.z3; have v3 := L.v3
  have t259 := L.t259; have a259 := L.a259; have z259 := L.z259; have v259 := L.v259; have t263 := L.t263; have a263 := L.a263; have z263 := L.z263; have v263 := L.v263
  have FG := L.f153
  have e174 := L.e174
  obtain ⟨n, hn⟩ : ∃ n, d0.size = n := ⟨_, rfl⟩
  have hcon := stableCmp_any L enc cf g cb blk off cap n d0 w0 eg hC R hsz hn
  rw [hn] at hcon ⊢
  clear hC R
  obtain ⟨st, hst⟩ : ∃ st : Array α, st = stable (ltOf cf) d0 n := ⟨_, rfl⟩
  rw [← hst] at hcon ⊢
  have HCon := Lib.hid hcon
  clear hcon
  clear hst hn
  go_enter FG, Tryz.ntmps153
  go_wp2_with (go_at_call 174; refine HCon.out.mono ?_; rintro e w3 ⟨rfl, S3⟩)
  go_end0
  exact ⟨rfl, S3⟩
end Go.Proofs.YtfmceonbejlhlaaGreatDoor

/-
  The stable sort moves its elements about; it loses none and makes none.
-/
namespace Go.Proofs.YtfmceonbejlhlaaGreatDoor
open Go.Sort
set_option linter.unusedVariables false
set_option linter.unusedSectionVars false
variable {α : Type} [Inhabited α]

/-- The same elements. -/
def Pm (d' d : Array α) : Prop := d'.toList.Perm d.toList
theorem Pm.refl (d : Array α) : Pm d d := List.Perm.refl _
theorem Pm.trans {a b c : Array α} (h : Pm a b) (k : Pm b c) : Pm a c := List.Perm.trans h k
theorem pm_swp (d : Array α) (i j : Nat) (hi : i < d.size) (hj : j < d.size) : Pm (swp d i j) d := by
  unfold Pm swp
  rw [Array.toList_setIfInBounds, Array.toList_setIfInBounds, getElem!_pos d i hi, getElem!_pos d j hj]
  have := perm_set_set d.toList i j (by rw [Array.length_toList]; exact hi) (by rw [Array.length_toList]; exact hj)
  simpa using this
theorem pm_swapFrom (a b n i : Nat) (d : Array α) (ha : a + n ≤ d.size) (hb : b + n ≤ d.size) : Pm (swapFrom a b n i d) d := by
  fun_induction swapFrom a b n i d with
  | case1 i d h ih => exact (ih (by rw [size_swp]; exact ha) (by rw [size_swp]; exact hb)).trans (pm_swp _ _ _ (by omega) (by omega))
  | case2 => exact Pm.refl _
theorem pm_rotLoop (m i j : Nat) (d : Array α) (hi : i ≤ m) (hj : m + j ≤ d.size) (hi0 : 0 < i) (hj0 : 0 < j) : Pm (rotLoop m i j d) d := by
  fun_induction rotLoop m i j d with
  | case1 i j d h => exact pm_swapFrom _ _ _ _ _ (by omega) (by omega)
  | case2 i j d h1 h2 ih => exact (ih (by omega) (by rw [size_swapRange]; exact hj) (by omega) hj0).trans (pm_swapFrom _ _ _ _ _ (by omega) (by omega))
  | case3 i j d h1 h2 ih => exact (ih (by omega) (by rw [size_swapRange]; omega) hi0 (by omega)).trans (pm_swapFrom _ _ _ _ _ (by omega) (by omega))
theorem pm_upTo (e k : Nat) (d : Array α) (he : e < d.size) : Pm (upTo e k d) d := by
  fun_induction upTo e k d with
  | case1 k d h ih => exact (ih (by rw [size_swp]; exact he)).trans (pm_swp _ _ _ (by omega) (by omega))
  | case2 => exact Pm.refl _
theorem pm_downTo (i k : Nat) (d : Array α) (hk : k < d.size) : Pm (downTo i k d) d := by
  induction k generalizing d with
  | zero => exact Pm.refl _
  | succ k ih =>
    unfold downTo
    split
    · exact (ih _ (by rw [size_swp]; omega)).trans (pm_swp _ _ _ (by omega) (by omega))
    · exact Pm.refl _
section
variable (lt : α → α → Bool)
theorem pm_insInner (a j : Nat) (d : Array α) (hj : j < d.size) : Pm (insInner lt a j d) d := by
  induction j generalizing d with
  | zero => exact Pm.refl _
  | succ j ih =>
    unfold insInner
    split
    · exact (ih _ (by rw [size_swp]; omega)).trans (pm_swp _ _ _ (by omega) (by omega))
    · exact Pm.refl _
theorem pm_insOuter (a b i : Nat) (d : Array α) (hb : b ≤ d.size) : Pm (insOuter lt a b i d) d := by
  fun_induction insOuter lt a b i d with
  | case1 i d h ih => exact (ih (by rw [size_insInner]; exact hb)).trans (pm_insInner lt _ _ _ (by omega))
  | case2 => exact Pm.refl _
theorem pm_symF (f : Nat) (d : Array α) (a m b : Nat) (ha : a < m) (hm : m < b) (hb : b ≤ d.size) : Pm (symF lt f d a m b) d := by
  induction f generalizing d a m b with
  | zero => exact Pm.refl _
  | succ f ih =>
    unfold symF
    split
    · exact pm_upTo _ _ _ (by have := half_le (fun h => lt d[h]! d[a]!) m b (by omega); omega)
    split
    · exact pm_downTo _ _ _ (by omega)
    simp only []
    obtain ⟨mid, hmid⟩ : ∃ mid, (a + b) / 2 = mid := ⟨_, rfl⟩
    rw [hmid]
    obtain ⟨s0, hs0⟩ : ∃ s, (if mid < m then mid + m - b else a) = s := ⟨_, rfl⟩
    obtain ⟨r0, hr0⟩ : ∃ r, (if mid < m then mid else m) = r := ⟨_, rfl⟩
    rw [hs0, hr0]
    have hsr : s0 ≤ r0 := by rw [← hs0, ← hr0]; split <;> omega
    obtain ⟨st, hst⟩ : ∃ st, half (fun c => !lt d[mid + m - 1 - c]! d[c]!) s0 r0 = st := ⟨_, rfl⟩
    have hh := half_le (fun c => !lt d[mid + m - 1 - c]! d[c]!) s0 r0 hsr
    rw [hst] at hh ⊢
    have hse : mid + m - st ≤ b := by
      rw [← hs0] at hh
      split at hh <;> omega
    obtain ⟨d1, hd1⟩ : ∃ d1, (if st < m ∧ m < mid + m - st then rotate d st m (mid + m - st) else d) = d1 := ⟨_, rfl⟩
    rw [hd1]
    have p1 : Pm d1 d := by
      rw [← hd1]
      split
      · exact pm_rotLoop _ _ _ _ (by omega) (by omega) (by omega) (by omega)
      · exact Pm.refl _
    have z1 : d1.size = d.size := by rw [← hd1]; split; exact size_rotate _ _ _ _; rfl
    obtain ⟨d2, hd2⟩ : ∃ d2, (if a < st ∧ st < mid then symF lt f d1 a st mid else d1) = d2 := ⟨_, rfl⟩
    rw [hd2]
    have p2 : Pm d2 d := by
      rw [← hd2]
      split
      · exact (ih _ _ _ _ (by omega) (by omega) (by omega)).trans p1
      · exact p1
    have z2 : d2.size = d.size := by rw [← hd2]; split; rw [size_symF]; exact z1; exact z1
    split
    · exact (ih _ _ _ _ (by omega) (by omega) (by omega)).trans p2
    · exact p2
theorem pm_insBlocks (n a : Nat) (d : Array α) (hn : n ≤ d.size) : Pm (insBlocks lt n a d) d := by
  fun_induction insBlocks lt n a d with
  | case1 a d h ih => exact (ih (by rw [size_insertionSort]; exact hn)).trans (pm_insOuter lt _ _ _ _ (by omega))
  | case2 => exact pm_insOuter lt _ _ _ _ hn
theorem pm_symBlocks (s n a : Nat) (d : Array α) (hs : 0 < s) (hn : n ≤ d.size) : Pm (symBlocks lt s n a d) d := by
  fun_induction symBlocks lt s n a d with
  | case1 a d h ih => exact (ih (by rw [size_symF]; exact hn)).trans (pm_symF lt _ _ _ _ _ (by omega) (by omega) (by omega))
  | case2 a d h1 h2 => exact pm_symF lt _ _ _ _ _ (by omega) (by omega) hn
  | case3 => exact Pm.refl _
theorem pm_stableLoop (n s : Nat) (d : Array α) (hn : n ≤ d.size) : Pm (stableLoop lt n s d) d := by
  fun_induction stableLoop lt n s d with
  | case1 s d h ih => exact (ih (by rw [size_symBlocks]; exact hn)).trans (pm_symBlocks lt _ _ _ _ h.2 hn)
  | case2 => exact Pm.refl _
theorem pm_stable (d : Array α) (n : Nat) (hn : n ≤ d.size) : Pm (stable lt d n) d :=
  (pm_stableLoop lt _ _ _ (by rw [size_insBlocks]; exact hn)).trans (pm_insBlocks lt _ _ _ hn)
end
end Go.Proofs.YtfmceonbejlhlaaGreatDoor
