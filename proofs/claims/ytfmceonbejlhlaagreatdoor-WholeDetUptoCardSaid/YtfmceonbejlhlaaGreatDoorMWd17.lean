import Derived.Test.YtfmceonbejlhlaaGreatDoorMWd15
import Derived.Test.YtfmceonbejlhlaaGreatDoorMWd16
/-
  det's tree, Plain and Encode.
-/
namespace Go.Proofs.YtfmceonbejlhlaaGreatDoor
open Go.RowKit Go.Proofs.YtfmceonbejlhlaaGreatDoorW.PrintWords Go.Proofs.YtfmceonbejlhlaaGreatDoorW.PrintLast Go.Proofs.YtfmceonbejlhlaaGreatDoorW.PrintMore
set_option linter.unusedVariables false

set_option maxRecDepth 100000 in
set_option maxHeartbeats 8000000 in
theorem tree_any (t : T) (a : Option Addr) (c : Nat) (w : World) (P : Nat → Prop) (hP : ∀ g, P g → g < w.heap.size) (hT : Tree w P t a) (hc : t.f4.length ≤ c) (hwf : Wf t) (htg : Tg t) (hck : checkF t = 0) (hsy : saysF t = true) (hb : bulk t ≤ 2147483648) :
    Calls Tryz.prog 47 #[.agg #[.int .i64 t.f0, .bool t.f1, .int .u64 t.f2, .string t.f3, .slice a t.f4.length c]] w (PlainPost t w) := by
  have R0 := ((Row5.new w (.int .i64 t.f0) (.bool t.f1) (.int .u64 t.f2) (.string t.f3) (.slice a t.f4.length c)).alloc (.cells #[.int .i64 0, .bool false, .int .u64 0, .string ⟨#[]⟩, .slice none 0 0] 25))
  have k0 := R0.c0
  have k1 := R0.c1
  have k2 := R0.c2
  have k3 := R0.c3
  have k4 := R0.c4
  have hTW : ∀ W, Below w.heap.size w W → Tree W P t a := fun W h => tree_keep (fun _ h => h) (fun g hg => h.block g (hP g hg)) hT
  have hChk : ∀ W, Below w.heap.size w W → Calls Tryz.prog 16 #[.agg #[.int .i64 t.f0, .bool t.f1, .int .u64 t.f2, .string t.f3, .slice a t.f4.length c]] W (Ret (.int .i64 0) W) := fun W h => by
    have := checkT_any t a c W P (fun g hg => Nat.lt_of_lt_of_le (hP g hg) h.size) (hTW W h) hc hb
    rw [hck] at this
    exact this
  have hSay : ∀ W, Below w.heap.size w W → Calls Tryz.prog 81 #[.agg #[.int .i64 t.f0, .bool t.f1, .int .u64 t.f2, .string t.f3, .slice a t.f4.length c]] W (Ret (.bool true) W) := fun W h => by
    have := dsays_any t a c W P (fun g hg => Nat.lt_of_lt_of_le (hP g hg) h.size) (hTW W h) (by omega)
    rw [hsy] at this
    exact this
  have hPl : ∀ W, Below w.heap.size w W → Calls Tryz.prog 82 #[.agg #[.int .i64 t.f0, .bool t.f1, .int .u64 t.f2, .string t.f3, .slice a t.f4.length c]] W (PlainPost t W) := fun W h => plain_any t a c W P (fun g hg => Nat.lt_of_lt_of_le (hP g hg) h.size) (hTW W h) hwf htg hsy hb
  have HC := Lib.hid hChk
  have HS := Lib.hid hSay
  have HL := Lib.hid hPl
  clear hChk hSay hPl hTW
  have B1 := Blk.new (w.alloc (.cells #[.int .i64 t.f0, .bool t.f1, .int .u64 t.f2, .string t.f3, .slice a t.f4.length c] 25)) 25 #[.int .i64 0, .bool false, .int .u64 0, .string ⟨#[]⟩, .slice none 0 0]
  rw [World.size_alloc] at B1
  have HB2 := Lib.hid (((Below.refl _ w).alloc (Nat.le_refl _) (.cells #[.int .i64 t.f0, .bool t.f1, .int .u64 t.f2, .string t.f3, .slice a t.f4.length c] 25)).alloc (by simp) (.cells #[.int .i64 0, .bool false, .int .u64 0, .string ⟨#[]⟩, .slice none 0 0] 25))
  go_enter Tryz.func47, Tryz.ntmps47
  obtain ⟨pf, hpf⟩ : ∃ p, plainF t = p := ⟨_, rfl⟩
  cases pf with
  | none =>
    go_wp2_with (first
      | (go_at_call 16; refine (HC.out _ HB2.out).mono ?_; rintro e w1 ⟨rfl, hb1⟩; have R1 := (show Row5 w1 w.heap.size _ _ _ _ _ from (hb1.block _ R0.lt).trans R0); have k0 := R1.c0; have k1 := R1.c1; have k2 := R1.c2; have k3 := R1.c3; have k4 := R1.c4)
      | (go_at_call 81; refine (HS.out _ (HB2.out.trans (hb1.mono HB2.out.size))).mono ?_; rintro e w2 ⟨rfl, hb2⟩; have hb12 := hb1.trans (hb2.mono hb1.size); have R2 := (show Row5 w2 w.heap.size _ _ _ _ _ from (hb12.block _ R0.lt).trans R0); have k0 := R2.c0; have k1 := R2.c1; have k2 := R2.c2; have k3 := R2.c3; have k4 := R2.c4)
      | (go_at_call 82; refine (HL.out _ (HB2.out.trans (hb12.mono HB2.out.size))).mono ?_; rintro e w3 ⟨hb3, hpp⟩; rw [hpf] at hpp; obtain ⟨t0, a0, c0, rfl⟩ := hpp; have hb13 := hb12.trans (hb3.mono hb12.size); have D : Row5 w3 (w.heap.size + 1) _ _ _ _ _ := B1.below hb13 B1.lt; have d0 := D.c0; have d1 := D.c1; have d2 := D.c2; have d3 := D.c3; have d4 := D.c4; have g0 := Blk.frozen D 0; have g1 := Blk.frozen D 1; have g2 := Blk.frozen D 2; have g3 := Blk.frozen D 3; have g4 := Blk.frozen D 4))
    change bodyPost _ _ _ _ _ (st5 w3 (w.heap.size + 1) 0 (.int .i64 t0.f0) (.bool t0.f1) (.int .u64 t0.f2) (.string t0.f3) (.slice a0 t0.f4.length c0))
    have D7 := st5_row (v0 := .int .i64 t0.f0) (v1 := .bool t0.f1) (v2 := .int .u64 t0.f2) (v3 := .string t0.f3) (v4 := .slice a0 t0.f4.length c0) D
    have hb7 := st5_below (b := w.heap.size + 1) (o := 0) (v0 := .int .i64 t0.f0) (v1 := .bool t0.f1) (v2 := .int .u64 t0.f2) (v3 := .string t0.f3) (v4 := .slice a0 t0.f4.length c0) (HB2.out.trans (hb13.mono HB2.out.size)) (Nat.le_succ _)
    have hs7 := st5_size (W := w3) (b := w.heap.size + 1) (o := 0) (v0 := .int .i64 t0.f0) (v1 := .bool t0.f1) (v2 := .int .u64 t0.f2) (v3 := .string t0.f3) (v4 := .slice a0 t0.f4.length c0)
    have hk7 := fun g (hg : g ≠ w.heap.size + 1) => st5_heap (W := w3) (o := 0) (v0 := .int .i64 t0.f0) (v1 := .bool t0.f1) (v2 := .int .u64 t0.f2) (v3 := .string t0.f3) (v4 := .slice a0 t0.f4.length c0) hg
    generalize st5 w3 (w.heap.size + 1) 0 (.int .i64 t0.f0) (.bool t0.f1) (.int .u64 t0.f2) (.string t0.f3) (.slice a0 t0.f4.length c0) = W7 at D7 hb7 hs7 hk7 ⊢
    have e0 := D7.c0
    have e1 := D7.c1
    have e2 := D7.c2
    have e3 := D7.c3
    have e4 := D7.c4
    refine bodyPost_ret (v := .tuple #[.agg #[.int .i64 t0.f0, .bool t0.f1, .int .u64 t0.f2, .string t0.f3, .slice a0 t0.f4.length c0], refusal]) (by simp [results, Tryz.results47, go_sem, e0, e1, e2, e3, e4]) rfl ⟨hb7, ?_⟩
    rw [hpf]
    exact ⟨t0, a0, c0, rfl⟩
  | some t' =>
    go_wp2_with (first
      | (go_at_call 16; refine (HC.out _ HB2.out).mono ?_; rintro e w1 ⟨rfl, hb1⟩; have R1 := (show Row5 w1 w.heap.size _ _ _ _ _ from (hb1.block _ R0.lt).trans R0); have k0 := R1.c0; have k1 := R1.c1; have k2 := R1.c2; have k3 := R1.c3; have k4 := R1.c4)
      | (go_at_call 81; refine (HS.out _ (HB2.out.trans (hb1.mono HB2.out.size))).mono ?_; rintro e w2 ⟨rfl, hb2⟩; have hb12 := hb1.trans (hb2.mono hb1.size); have R2 := (show Row5 w2 w.heap.size _ _ _ _ _ from (hb12.block _ R0.lt).trans R0); have k0 := R2.c0; have k1 := R2.c1; have k2 := R2.c2; have k3 := R2.c3; have k4 := R2.c4)
      | (go_at_call 82; refine (HL.out _ (HB2.out.trans (hb12.mono HB2.out.size))).mono ?_; rintro e w3 ⟨hb3, hpp⟩; rw [hpf] at hpp; obtain ⟨a0, c0, rfl, hrow⟩ := hpp; have hb13 := hb12.trans (hb3.mono hb12.size); have D : Row5 w3 (w.heap.size + 1) _ _ _ _ _ := B1.below hb13 B1.lt; have d0 := D.c0; have d1 := D.c1; have d2 := D.c2; have d3 := D.c3; have d4 := D.c4; have g0 := Blk.frozen D 0; have g1 := Blk.frozen D 1; have g2 := Blk.frozen D 2; have g3 := Blk.frozen D 3; have g4 := Blk.frozen D 4))
    change bodyPost _ _ _ _ _ (st5 w3 (w.heap.size + 1) 0 (.int .i64 t'.f0) (.bool t'.f1) (.int .u64 t'.f2) (.string t'.f3) (.slice a0 t'.f4.length c0))
    have D7 := st5_row (v0 := .int .i64 t'.f0) (v1 := .bool t'.f1) (v2 := .int .u64 t'.f2) (v3 := .string t'.f3) (v4 := .slice a0 t'.f4.length c0) D
    have hb7 := st5_below (b := w.heap.size + 1) (o := 0) (v0 := .int .i64 t'.f0) (v1 := .bool t'.f1) (v2 := .int .u64 t'.f2) (v3 := .string t'.f3) (v4 := .slice a0 t'.f4.length c0) (HB2.out.trans (hb13.mono HB2.out.size)) (Nat.le_succ _)
    have hs7 := st5_size (W := w3) (b := w.heap.size + 1) (o := 0) (v0 := .int .i64 t'.f0) (v1 := .bool t'.f1) (v2 := .int .u64 t'.f2) (v3 := .string t'.f3) (v4 := .slice a0 t'.f4.length c0)
    have hk7 := fun g (hg : g ≠ w.heap.size + 1) => st5_heap (W := w3) (o := 0) (v0 := .int .i64 t'.f0) (v1 := .bool t'.f1) (v2 := .int .u64 t'.f2) (v3 := .string t'.f3) (v4 := .slice a0 t'.f4.length c0) hg
    generalize st5 w3 (w.heap.size + 1) 0 (.int .i64 t'.f0) (.bool t'.f1) (.int .u64 t'.f2) (.string t'.f3) (.slice a0 t'.f4.length c0) = W7 at D7 hb7 hs7 hk7 ⊢
    have e0 := D7.c0
    have e1 := D7.c1
    have e2 := D7.c2
    have e3 := D7.c3
    have e4 := D7.c4
    refine bodyPost_ret (v := .tuple #[.agg #[.int .i64 t'.f0, .bool t'.f1, .int .u64 t'.f2, .string t'.f3, .slice a0 t'.f4.length c0], .nilIface]) (by simp [results, Tryz.results47, go_sem, e0, e1, e2, e3, e4]) rfl ⟨hb7, ?_⟩
    rw [hpf]
    have hs2 := HB2.out.size
    have hb12s := hb12.size
    have hB1 := B1.lt
    exact ⟨a0, c0, rfl, hrow.keep (fun g hg => ⟨by have h1 := hg.1; omega, by have h1 := hg.2; omega⟩) (fun g hg => hk7 g (by have h1 := hg.1; omega))⟩
end Go.Proofs.YtfmceonbejlhlaaGreatDoor

/-
  det's Plain and Encode.
-/
namespace Go.Proofs.YtfmceonbejlhlaaGreatDoor
open Go.RowKit Go.Proofs.YtfmceonbejlhlaaGreatDoorW.PrintWords Go.Proofs.YtfmceonbejlhlaaGreatDoorW.PrintLast Go.Proofs.YtfmceonbejlhlaaGreatDoorW.PrintMore
set_option linter.unusedVariables false

theorem kr_ne (w : World) : (binOp .neq 88 refusal .nilIface).run Tryz.prog w = .ok (.bool true) w := by kernel_rfl
theorem kr_eq (w : World) : (binOp .neq 88 .nilIface .nilIface).run Tryz.prog w = .ok (.bool false) w := by kernel_rfl

/-- What Plain hands back. -/
def Plain2Post (t : T) (w : World) (e : Ending) (w' : World) : Prop := Below w.heap.size w w' ∧ match plainF t with
  | none => e = .returned (.tuple #[.agg #[.int .i64 0, .bool false, .int .u64 0, .string ⟨#[]⟩, .slice none 0 0], .int .i64 4])
  | some t' => ∃ a c, e = .returned (.tuple #[.agg #[.int .i64 t'.f0, .bool t'.f1, .int .u64 t'.f2, .string t'.f3, .slice a t'.f4.length c], .int .i64 0]) ∧ RowOk w' (New w w') (t', a, c)

set_option maxRecDepth 100000 in
set_option maxHeartbeats 8000000 in
theorem plain2_any (t : T) (a : Option Addr) (c : Nat) (w : World) (P : Nat → Prop) (hP : ∀ g, P g → g < w.heap.size) (hT : Tree w P t a) (hc : t.f4.length ≤ c) (hwf : Wf t) (htg : Tg t) (hck : checkF t = 0) (hsy : saysF t = true) (hb : bulk t ≤ 2147483648) :
    Calls Tryz.prog 23 #[.agg #[.int .i64 t.f0, .bool t.f1, .int .u64 t.f2, .string t.f3, .slice a t.f4.length c]] w (Plain2Post t w) := by
  have R0 := ((Row5.new w (.int .i64 t.f0) (.bool t.f1) (.int .u64 t.f2) (.string t.f3) (.slice a t.f4.length c)).alloc (.cells #[.int .i64 0, .bool false, .int .u64 0, .string ⟨#[]⟩, .slice none 0 0] 25))
  have k0 := R0.c0
  have k1 := R0.c1
  have k2 := R0.c2
  have k3 := R0.c3
  have k4 := R0.c4
  have hTr : ∀ W, Below w.heap.size w W → Calls Tryz.prog 47 #[.agg #[.int .i64 t.f0, .bool t.f1, .int .u64 t.f2, .string t.f3, .slice a t.f4.length c]] W (PlainPost t W) := fun W h => tree_any t a c W P (fun g hg => Nat.lt_of_lt_of_le (hP g hg) h.size) (tree_keep (fun _ h => h) (fun g hg => h.block g (hP g hg)) hT) hc hwf htg hck hsy hb
  have HL := Lib.hid hTr
  have n1 := kr_ne
  have n2 := kr_eq
  have hto := Lib.hid told_any
  clear hTr
  have B1 := Blk.new (w.alloc (.cells #[.int .i64 t.f0, .bool t.f1, .int .u64 t.f2, .string t.f3, .slice a t.f4.length c] 25)) 25 #[.int .i64 0, .bool false, .int .u64 0, .string ⟨#[]⟩, .slice none 0 0]
  rw [World.size_alloc] at B1
  have HB2 := Lib.hid (((Below.refl _ w).alloc (Nat.le_refl _) (.cells #[.int .i64 t.f0, .bool t.f1, .int .u64 t.f2, .string t.f3, .slice a t.f4.length c] 25)).alloc (by simp) (.cells #[.int .i64 0, .bool false, .int .u64 0, .string ⟨#[]⟩, .slice none 0 0] 25))
  obtain ⟨q, hq⟩ : ∃ q, w.heap.size = q := ⟨_, rfl⟩
  have HQ := Lib.hid hq
  rw [hq] at k0 k1 k2 k3 k4 B1 R0
  go_enter Tryz.func23, Tryz.ntmps23
  obtain ⟨pf, hpf⟩ : ∃ p, plainF t = p := ⟨_, rfl⟩
  cases pf with
  | none =>
    go_wp2_with (first
      | (go_at_call 47; refine (HL.out _ HB2.out).mono ?_; rintro e w1 ⟨hb1, hpp⟩; rw [hpf] at hpp; obtain ⟨t0, a0, c0, he⟩ := (show ∃ (t0 : T) (a0 : Option Addr) (c0 : Nat), e = .returned (.tuple #[.agg #[.int .i64 t0.f0, .bool t0.f1, .int .u64 t0.f2, .string t0.f3, .slice a0 t0.f4.length c0], .iface 147 (.agg #[.iface 27 (.int .i64 4)])]) from hpp); subst he; have D1 : Row5 w1 (q + 1) (.int .i64 0) (.bool false) (.int .u64 0) (.string ⟨#[]⟩) (.slice none 0 0) := B1.below hb1 B1.lt; have hb1' := HB2.out.trans (hb1.mono HB2.out.size); have hlt1 : q + 1 < w1.heap.size := Blk.lt D1; have D2 : Row5 (w1.alloc (.cells #[.int .i64 t0.f0, .bool t0.f1, .int .u64 t0.f2, .string t0.f3, .slice a0 t0.f4.length c0] 25)) (q + 1) (.int .i64 0) (.bool false) (.int .u64 0) (.string ⟨#[]⟩) (.slice none 0 0) := Row5.alloc D1 _; have N2 := Row5.new w1 (.int .i64 t0.f0) (.bool t0.f1) (.int .u64 t0.f2) (.string t0.f3) (.slice a0 t0.f4.length c0); have hb2' := hb1'.alloc hb1'.size (.cells #[.int .i64 t0.f0, .bool t0.f1, .int .u64 t0.f2, .string t0.f3, .slice a0 t0.f4.length c0] 25); have HD2 := Lib.hid D2; have Hb2 := Lib.hid hb2'; have Hb1 := Lib.hid hb1'; have HL1 := Lib.hid hlt1; have d0 := D2.c0; have d1 := D2.c1; have d2 := D2.c2; have d3 := D2.c3; have d4 := D2.c4; have f0 := Blk.frozen D2 0; have f1 := Blk.frozen D2 1; have f2 := Blk.frozen D2 2; have f3 := Blk.frozen D2 3; have f4 := Blk.frozen D2 4; have j0 := N2.c0; have j1 := N2.c1; have j2 := N2.c2; have j3 := N2.c3; have j4 := N2.c4; clear D2 N2 hb2' hb1' hlt1 hb1 HL)
      | (go_at_call 48; refine (hto.out _).mono ?_; rintro e w2 ⟨rfl, hb2⟩; have D3 : Row5 w2 (q + 1) (.int .i64 0) (.bool false) (.int .u64 0) (.string ⟨#[]⟩) (.slice none 0 0) := (hb2.block _ (Blk.lt HD2.out)).trans HD2.out; have d0 := D3.c0; have d1 := D3.c1; have d2 := D3.c2; have d3 := D3.c3; have d4 := D3.c4; have f0 := Blk.frozen D3 0; have f1 := Blk.frozen D3 1; have f2 := Blk.frozen D3 2; have f3 := Blk.frozen D3 3; have f4 := Blk.frozen D3 4; have HD3 := Lib.hid D3; have H2 := Lib.hid hb2; clear D3 hb2))
    change bodyPost _ _ _ _ _ (st5 w2 (q + 1) 0 (.int .i64 0) (.bool false) (.int .u64 0) (.string ⟨#[]⟩) (.slice none 0 0))
    have D7 := st5_row (v0 := .int .i64 0) (v1 := .bool false) (v2 := .int .u64 0) (v3 := .string ⟨#[]⟩) (v4 := .slice none 0 0) HD3.out
    have hb7 := st5_below (b := q + 1) (o := 0) (v0 := .int .i64 0) (v1 := .bool false) (v2 := .int .u64 0) (v3 := .string ⟨#[]⟩) (v4 := .slice none 0 0) (Hb2.out.trans (H2.out.mono Hb2.out.size)) (by have := HQ.out; omega)
    have e0 := D7.c0
    have e1 := D7.c1
    have e2 := D7.c2
    have e3 := D7.c3
    have e4 := D7.c4
    refine bodyPost_ret (v := .tuple #[.agg #[.int .i64 0, .bool false, .int .u64 0, .string ⟨#[]⟩, .slice none 0 0], .int .i64 4]) (by simp [results, Tryz.results23, go_sem, e0, e1, e2, e3, e4]) rfl ⟨hb7, ?_⟩
    rw [hpf]
  | some t' =>
    go_wp2_with (first
      | (go_at_call 47; refine (HL.out _ HB2.out).mono ?_; rintro e w1 ⟨hb1, hpp⟩; rw [hpf] at hpp; obtain ⟨a0, c0, he, hrow⟩ := hpp; subst he; have HRow := Lib.hid hrow; clear hrow; have D1 : Row5 w1 (q + 1) (.int .i64 0) (.bool false) (.int .u64 0) (.string ⟨#[]⟩) (.slice none 0 0) := B1.below hb1 B1.lt; have hb1' := HB2.out.trans (hb1.mono HB2.out.size); have hlt1 : q + 1 < w1.heap.size := Blk.lt D1; have D2 : Row5 (w1.alloc (.cells #[.int .i64 t'.f0, .bool t'.f1, .int .u64 t'.f2, .string t'.f3, .slice a0 t'.f4.length c0] 25)) (q + 1) (.int .i64 0) (.bool false) (.int .u64 0) (.string ⟨#[]⟩) (.slice none 0 0) := Row5.alloc D1 _; have N2 := Row5.new w1 (.int .i64 t'.f0) (.bool t'.f1) (.int .u64 t'.f2) (.string t'.f3) (.slice a0 t'.f4.length c0); have hb2' := hb1'.alloc hb1'.size (.cells #[.int .i64 t'.f0, .bool t'.f1, .int .u64 t'.f2, .string t'.f3, .slice a0 t'.f4.length c0] 25); have HD2 := Lib.hid D2; have Hb2 := Lib.hid hb2'; have Hb1 := Lib.hid hb1'; have HL1 := Lib.hid hlt1; have d0 := D2.c0; have d1 := D2.c1; have d2 := D2.c2; have d3 := D2.c3; have d4 := D2.c4; have f0 := Blk.frozen D2 0; have f1 := Blk.frozen D2 1; have f2 := Blk.frozen D2 2; have f3 := Blk.frozen D2 3; have f4 := Blk.frozen D2 4; have j0 := N2.c0; have j1 := N2.c1; have j2 := N2.c2; have j3 := N2.c3; have j4 := N2.c4; clear D2 N2 hb2' hb1' hlt1 hb1 HL))
    change bodyPost _ _ _ _ _ (st5 (w1.alloc (.cells #[.int .i64 t'.f0, .bool t'.f1, .int .u64 t'.f2, .string t'.f3, .slice a0 t'.f4.length c0] 25)) (q + 1) 0 (.int .i64 t'.f0) (.bool t'.f1) (.int .u64 t'.f2) (.string t'.f3) (.slice a0 t'.f4.length c0))
    have D7 := st5_row (v0 := .int .i64 t'.f0) (v1 := .bool t'.f1) (v2 := .int .u64 t'.f2) (v3 := .string t'.f3) (v4 := .slice a0 t'.f4.length c0) HD2.out
    have hb7 := st5_below (b := q + 1) (o := 0) (v0 := .int .i64 t'.f0) (v1 := .bool t'.f1) (v2 := .int .u64 t'.f2) (v3 := .string t'.f3) (v4 := .slice a0 t'.f4.length c0) Hb2.out (by have := HQ.out; omega)
    have hs7 := st5_size (W := (w1.alloc (.cells #[.int .i64 t'.f0, .bool t'.f1, .int .u64 t'.f2, .string t'.f3, .slice a0 t'.f4.length c0] 25))) (b := q + 1) (o := 0) (v0 := .int .i64 t'.f0) (v1 := .bool t'.f1) (v2 := .int .u64 t'.f2) (v3 := .string t'.f3) (v4 := .slice a0 t'.f4.length c0)
    have hk7 := fun g (hg : g ≠ q + 1) => st5_heap (W := (w1.alloc (.cells #[.int .i64 t'.f0, .bool t'.f1, .int .u64 t'.f2, .string t'.f3, .slice a0 t'.f4.length c0] 25))) (o := 0) (v0 := .int .i64 t'.f0) (v1 := .bool t'.f1) (v2 := .int .u64 t'.f2) (v3 := .string t'.f3) (v4 := .slice a0 t'.f4.length c0) hg
    have e0 := D7.c0
    have e1 := D7.c1
    have e2 := D7.c2
    have e3 := D7.c3
    have e4 := D7.c4
    refine bodyPost_ret (v := .tuple #[.agg #[.int .i64 t'.f0, .bool t'.f1, .int .u64 t'.f2, .string t'.f3, .slice a0 t'.f4.length c0], .int .i64 0]) (by simp [results, Tryz.results23, go_sem, e0, e1, e2, e3, e4]) rfl ⟨hb7, ?_⟩
    rw [hpf]
    have hq1 := HQ.out
    have hl1 := HL1.out
    have hs2 := HB2.out.size
    have hB1 := B1.lt
    rw [World.size_alloc] at hs7
    exact ⟨a0, c0, rfl, HRow.out.keep (fun g hg => ⟨by have h1 := hg.1; omega, by have h1 := hg.2; omega⟩) (fun g hg => (hk7 g (by have h1 := hg.1; omega)).trans (Below.heap_alloc w1 _ g hg.2))⟩
end Go.Proofs.YtfmceonbejlhlaaGreatDoor

/-
  det's Encode.
-/
namespace Go.Proofs.YtfmceonbejlhlaaGreatDoor
open Go.RowKit Go.Proofs.YtfmceonbejlhlaaGreatDoorW.PrintWords Go.Proofs.YtfmceonbejlhlaaGreatDoorW.PrintLast Go.Proofs.YtfmceonbejlhlaaGreatDoorW.PrintMore
set_option linter.unusedVariables false

/-- det.Encode's error, and its bytes. -/
noncomputable def detE (t : T) : Int := match plainF t with | none => 4 | some t' => encE t'
noncomputable def detB (t : T) : List Int := match plainF t with | none => [] | some t' => if encE t' = 0 then itemF false t' else []
/-- What det.Encode hands back. -/
def DetPost (t : T) (w : World) (e : Ending) (w' : World) : Prop := ∃ v, e = .returned (.tuple #[v, .int .i64 (detE t)]) ∧ Below w.heap.size w w' ∧ ((v = .slice none 0 0 ∧ detB t = []) ∨ ∃ base, w.heap.size ≤ base ∧ w'.ownsRow base 5 1 v (detB t).length ((detB t).map (Value.int .u8)))

set_option maxRecDepth 100000 in
set_option maxHeartbeats 8000000 in
theorem denc_any (t : T) (a : Option Addr) (c : Nat) (w : World) (P : Nat → Prop) (hP : ∀ g, P g → g < w.heap.size) (hT : Tree w P t a) (hc : t.f4.length ≤ c) (hwf : Wf t) (htg : Tg t) (hck : checkF t = 0) (hsy : saysF t = true) (hb : bulk t ≤ 2147483648) :
    Calls Tryz.prog 9 #[.agg #[.int .i64 t.f0, .bool t.f1, .int .u64 t.f2, .string t.f3, .slice a t.f4.length c]] w (DetPost t w) := by
  have R0 := (Row5.new w (.int .i64 t.f0) (.bool t.f1) (.int .u64 t.f2) (.string t.f3) (.slice a t.f4.length c))
  have k0 := R0.c0
  have k1 := R0.c1
  have k2 := R0.c2
  have k3 := R0.c3
  have k4 := R0.c4
  have hTr : ∀ W, Below w.heap.size w W → Calls Tryz.prog 23 #[.agg #[.int .i64 t.f0, .bool t.f1, .int .u64 t.f2, .string t.f3, .slice a t.f4.length c]] W (Plain2Post t W) := fun W h => plain2_any t a c W P (fun g hg => Nat.lt_of_lt_of_le (hP g hg) h.size) (tree_keep (fun _ h => h) (fun g hg => h.block g (hP g hg)) hT) hc hwf htg hck hsy hb
  have HL := Lib.hid hTr
  clear hTr
  have HB1 := Lib.hid ((Below.refl _ w).alloc (Nat.le_refl _) (.cells #[.int .i64 t.f0, .bool t.f1, .int .u64 t.f2, .string t.f3, .slice a t.f4.length c] 25))
  go_enter Tryz.func9, Tryz.ntmps9
  obtain ⟨pf, hpf⟩ : ∃ p, plainF t = p := ⟨_, rfl⟩
  cases pf with
  | none =>
    have HE : Hid (detE t = 4 ∧ detB t = []) := Lib.hid (by unfold detE detB; rw [hpf]; exact ⟨rfl, rfl⟩)
    go_wp2_with (go_at_call 23; refine (HL.out _ HB1.out).mono ?_; rintro e w1 ⟨hb1, hpp⟩; rw [hpf] at hpp; subst hpp; have Hb1 := Lib.hid (HB1.out.trans (hb1.mono HB1.out.size)); clear hb1 HL)
    refine bodyPost_ret (v := .tuple #[.slice none 0 0, .int .i64 4]) (by simp [results, Tryz.results9, go_sem]) rfl ⟨_, by rw [HE.out.1], Hb1.out.alloc Hb1.out.size _, .inl ⟨rfl, HE.out.2⟩⟩
  | some t' =>
    obtain ⟨hw', hbk'⟩ := plainF_ok t t' hpf hwf htg
    have HE : Hid (detE t = encE t' ∧ detB t = if encE t' = 0 then itemF false t' else []) := Lib.hid (by unfold detE detB; rw [hpf]; exact ⟨rfl, rfl⟩)
    have HW := Lib.hid (show Wf t' ∧ bulk t' ≤ 2147483648 from ⟨hw', by omega⟩)
    clear hw' hbk'
    go_wp2_with (first
      | (go_at_call 23; refine (HL.out _ HB1.out).mono ?_; rintro e w1 ⟨hb1, hpp⟩; rw [hpf] at hpp; obtain ⟨a0, c0, he, hrow⟩ := hpp; subst he; have HRow := Lib.hid hrow; have Hb1 := Lib.hid (HB1.out.trans (hb1.mono HB1.out.size)); have N2 := Row5.new w1 (.int .i64 t'.f0) (.bool t'.f1) (.int .u64 t'.f2) (.string t'.f3) (.slice a0 t'.f4.length c0); have j0 := N2.c0; have j1 := N2.c1; have j2 := N2.c2; have j3 := N2.c3; have j4 := N2.c4; clear hb1 hrow HL N2)
      | (go_at_call 5; refine (encode_any false t' a0 c0 (w1.alloc (.cells #[.int .i64 t'.f0, .bool t'.f1, .int .u64 t'.f2, .string t'.f3, .slice a0 t'.f4.length c0] 25)) (New _ w1) (fun g hg => Nat.lt_of_lt_of_le hg.2 (by simp)) (tree_keep (fun _ h => h) (fun g hg => Below.heap_alloc w1 _ g hg.2) HRow.out.2) HRow.out.1 HW.out.1 HW.out.2).mono ?_; rintro e w2 ⟨v, he, hb2, hno, hyes⟩; subst he; have H2 := Lib.hid (show _ ∧ _ ∧ _ from ⟨hb2, hno, hyes⟩); clear hb2 hno hyes))
    refine bodyPost_ret (v := .tuple #[v, .int .i64 (encE t')]) (by simp [results, Tryz.results9, go_sem]) rfl ?_
    obtain ⟨hb2, hno, hyes⟩ := H2.out
    have hb1 := Hb1.out.alloc Hb1.out.size (.cells #[.int .i64 t'.f0, .bool t'.f1, .int .u64 t'.f2, .string t'.f3, .slice a0 t'.f4.length c0] 25)
    refine ⟨v, by rw [HE.out.1], hb1.trans (hb2.mono hb1.size), ?_⟩
    by_cases h0 : encE t' = 0
    · have hd : detB t = itemF false t' := by rw [HE.out.2, if_pos h0]
      rw [hd]
      exact .inr ⟨_, hb1.size, hyes h0⟩
    · exact .inl ⟨hno h0, by rw [HE.out.2, if_neg h0]⟩
end Go.Proofs.YtfmceonbejlhlaaGreatDoor
