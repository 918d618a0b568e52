import Derived.Test.YtfmceonbejlhlaaGreatDoorMWd12
import Derived.Test.YtfmceonbejlhlaaGreatDoorMWd17
/-
  A right tree is one that det takes.
-/
namespace Go.Proofs.YtfmceonbejlhlaaGreatDoor
open Go.RowKit Go.Proofs.YtfmceonbejlhlaaGreatDoorW.PrintWords Go.Proofs.YtfmceonbejlhlaaGreatDoorW.PrintLast Go.Proofs.YtfmceonbejlhlaaGreatDoorW.PrintMore
set_option linter.unusedVariables false

theorem tgL_of {l : List T} (h : ∀ x ∈ l, Tg x) : TgL l := by
  induction l with
  | nil => simp [TgL]
  | cons x r ih =>
    simp only [TgL]
    exact ⟨h x (by simp), ih fun y hy => h y (by simp [hy])⟩
theorem tg_of_rt : ∀ t : T, Rt t → Tg t := by
  intro t
  induction t using T.ind with
  | h k neg n s l ih =>
    intro h
    simp only [Rt] at h
    simp only [Tg]
    refine ⟨fun h13 => ?_, tgL_of fun x hx => ih x hx (rtL_mem h.2 hx)⟩
    subst h13
    obtain ⟨x, hx, _⟩ := ro_tag h.1.1
    rw [hx]
    simp
/-- What a tree that Encode takes is. -/
theorem enc_right {t : T} (h : encE t = 0) : checkF t = 0 ∧ saysF t = true ∧ Rt t ∧ Tg t ∧ depthF t ≤ 64 ∧ (preF t).length ≤ 65536 := by
  have hc : checkF t = 0 := by
    by_cases h0 : checkF t = 0
    · exact h0
    · unfold encE at h; rw [if_pos h0] at h; exact h
  have hs : saysF t = true := by
    unfold encE at h
    rw [if_neg (by rw [hc]; simp)] at h
    cases hs : saysF t
    · rw [hs] at h; simp at h
    · rfl
  have hr := rt_of_check hc
  have hd : depthF t ≤ 64 ∧ (preF t).length ≤ 65536 := by
    unfold checkF at hc
    split at hc
    · cases hc
    · omega
  exact ⟨hc, hs, hr, tg_of_rt t hr, hd.1, hd.2⟩
end Go.Proofs.YtfmceonbejlhlaaGreatDoor

/-
  The card's small functions.
-/
namespace Go.Proofs.YtfmceonbejlhlaaGreatDoor
open Go.RowKit Go.Proofs.YtfmceonbejlhlaaGreatDoorW.PrintWords Go.Proofs.YtfmceonbejlhlaaGreatDoorW.PrintLast Go.Proofs.YtfmceonbejlhlaaGreatDoorW.PrintMore
set_option linter.unusedVariables false

/-- all: what Decode is told. -/
theorem all_any (w : World) : Calls Tryz.prog 8 #[] w fun e w' => e = .returned (.agg #[.int .i64 64, .int .i64 1048576, .bool false]) ∧ Below w.heap.size w w' := by
  have B := Blk.new w 36 #[.int .i64 64, .int .i64 1048576, .bool false]
  have b0 := B.cell (i := 0) rfl
  have b1 := B.cell (i := 1) rfl
  have b2 := B.cell (i := 2) rfl
  go_enter Tryz.func8, Tryz.ntmps8
  go_wp2
  refine bodyPost_ret (v := .agg #[.int .i64 64, .int .i64 1048576, .bool false]) (by simp [results, Tryz.results8, go_sem, b0, b1, b2]) rfl ⟨rfl, (Below.refl _ _).alloc (Nat.le_refl _) _⟩
theorem zero_enc : encE ⟨0, false, 0, ⟨#[]⟩, []⟩ = 0 := by
  simp [encE, checkF, depthF, preF, nodeB, oneF, bitsF, tailF, saysF, leafF, preL, saysL]
theorem zero_item : (itemF false ⟨0, false, 0, ⟨#[]⟩, []⟩).length = 1 := by
  simp [itemF, putF]
theorem zero_pre : (preF ⟨0, false, 0, ⟨#[]⟩, []⟩).length = 1 := by
  simp [preF, preL]
set_option maxRecDepth 100000 in
set_option maxHeartbeats 2000000 in
/-- awake: the zero value is one byte, one node. -/
theorem awake_any (w : World) : Calls Tryz.prog 6 #[] w fun e w' => e = .returned (.bool true) ∧ Below w.heap.size w w' := by
  have hE := Lib.hid fun W : World => encode_any false ⟨0, false, 0, ⟨#[]⟩, []⟩ none 0 W (fun _ => False) (fun _ h => h.elim) (by simp [Tree]) (Nat.le_refl _) (by simp only [Wf, WfL]; decide) (by simp only [bulk, bulkL]; decide)
  have hC := Lib.hid fun W : World => count_any ⟨0, false, 0, ⟨#[]⟩, []⟩ none 0 W (fun _ => False) (fun _ h => h.elim) (by simp [Tree]) (Nat.le_refl _) (by simp only [bulk, bulkL]; decide)
  go_enter Tryz.func6, Tryz.ntmps6
  go_wp2_with (first
    | (go_at_call 5; refine (hE.out _).mono ?_; rintro e w1 ⟨v, he, hb, hno, hyes⟩; rw [zero_enc] at he; subst he; obtain hl := (hyes zero_enc); rw [zero_item] at hl; obtain ⟨g, cap, hv⟩ : ∃ g cap, v = .slice (some ⟨g, 0, none⟩) 1 cap := (hl.2.elim (fun h => absurd h.2 (by decide)) fun ⟨g, cap, _, h, _⟩ => ⟨g, cap, h⟩); have HB := Lib.hid hb; clear hno hyes hl hb; subst hv)
    | (go_at_call 14; refine (hC.out _).mono ?_; rintro e w2 ⟨he, hb2⟩; rw [zero_pre] at he; subst he; have HB2 := Lib.hid hb2; clear hb2))
  refine bodyPost_ret (v := .bool true) (by simp [results, Tryz.results6, go_sem]) rfl ⟨rfl, HB.out.trans (HB2.out.mono HB.out.size)⟩
end Go.Proofs.YtfmceonbejlhlaaGreatDoor

/-
  det.Is at the bytes of a tree.
-/
namespace Go.Proofs.YtfmceonbejlhlaaGreatDoor
open Go.RowKit Go.Proofs.YtfmceonbejlhlaaGreatDoorW.PrintWords Go.Proofs.YtfmceonbejlhlaaGreatDoorW.PrintLast Go.Proofs.YtfmceonbejlhlaaGreatDoorW.PrintMore
set_option linter.unusedVariables false

theorem bytes_of_own {w : World} {base bg n cap : Nat} {bs : List Int} (h : w.ownsRow base 5 1 (.slice (some ⟨bg, 0, none⟩) n cap) n (bs.map (Value.int .u8))) : BytesAt w bg 0 bs := by
  intro j b hb
  have := h.cells (g := bg) rfl j (.int .u8 b) (by rw [List.getElem?_map, hb]; rfl)
  have ha : (⟨bg, 0, none⟩ : Addr).add j = ⟨bg, 0 + j, none⟩ := by unfold Addr.add; split <;> simp_all
  rwa [ha] at this
theorem own_below {w w' : World} {base B n size : Nat} {e : TypeId} {v : Value} {xs : List Value} (h : w.ownsRow base e size v n xs) (hb : Below B w w') (hlt : ∀ g, w.heap[g]? ≠ none → g < B) : w'.ownsRow base e size v n xs := by
  refine ⟨h.1, h.2.imp id ?_⟩
  rintro ⟨g, cap, cur, hv, hg, hc, r⟩
  exact ⟨g, cap, cur, hv, hg, (hb.block g (hlt g (by rw [hc]; simp))).trans hc, r⟩
theorem own_next {w w' : World} {base n size : Nat} {e : TypeId} {v : Value} {xs : List Value} (h : w.ownsRow base e size v n xs) (hb : Below w.heap.size w w') : w'.ownsRow base e size v n xs :=
  own_below h hb fun g hg => by
    by_cases hl : g < w.heap.size
    · exact hl
    · exact absurd (Array.getElem?_eq_none (by omega)) hg
end Go.Proofs.YtfmceonbejlhlaaGreatDoor

/-
  det.Is at the bytes of a tree.
-/
namespace Go.Proofs.YtfmceonbejlhlaaGreatDoor
open Go.RowKit Go.Proofs.YtfmceonbejlhlaaGreatDoorW.PrintWords Go.Proofs.YtfmceonbejlhlaaGreatDoorW.PrintLast Go.Proofs.YtfmceonbejlhlaaGreatDoorW.PrintMore
set_option linter.unusedVariables false

theorem det_own {t : T} {W0 W : World} {v : Value} (h : (v = .slice none 0 0 ∧ detB t = []) ∨ ∃ base, W0.heap.size ≤ base ∧ W.ownsRow base 5 1 v (detB t).length ((detB t).map (Value.int .u8))) : ∃ base, W.ownsRow base 5 1 v (detB t).length (nums .u8 (detB t)) := by
  rcases h with ⟨rfl, h⟩ | ⟨base, _, h⟩
  · rw [h]; exact ⟨0, World.ownsRow_nil _ _ _ _⟩
  · exact ⟨base, h⟩
set_option maxRecDepth 100000 in
set_option maxHeartbeats 8000000 in
theorem is_any (t : T) (bg n cap base : Nat) (w : World) (hE : encE t = 0) (hwf : Wf t) (hbk : bulk t ≤ 1073741824) (hn : (itemF false t).length = n) (hsm : n ≤ 1048576) (hown : w.ownsRow base 5 1 (.slice (some ⟨bg, 0, none⟩) n cap) n (nums .u8 (itemF false t))) :
    Calls Tryz.prog 10 #[.slice (some ⟨bg, 0, none⟩) n cap] w (fun e w' => e = .returned (.bool (decide (detE t = 0) && ((strOfNums (detB t)).toList == (strOfNums (itemF false t)).toList))) ∧ Below w.heap.size w w') := by
  obtain ⟨hck, hsy, hrt, htg, hd, hpl⟩ := enc_right hE
  have hlt := own_lt hown bg rfl
  have hncap : n ≤ cap := by
    rcases hown.2 with h | ⟨g, c', cur, h, _, _, h1, _⟩
    · exact absurd h.1 (by simp)
    · injection h with _ _ h; omega
  have hDec := Lib.hid (decode_any false t bg n cap w hrt hwf hsy hbk hd hpl hn hncap hsm hlt (bytes_of_own hown))
  have hEn : ∀ (a : Option Addr) (c : Nat) (W : World) (P : Nat → Prop), (∀ g, P g → g < W.heap.size) → RowOk W P (t, a, c) → Calls Tryz.prog 9 #[.agg #[.int .i64 t.f0, .bool t.f1, .int .u64 t.f2, .string t.f3, .slice a t.f4.length c]] W (DetPost t W) := fun a c W P hP h => denc_any t a c W P hP h.2 h.1 hwf htg hck hsy (by omega)
  have HEn := Lib.hid hEn
  have HOw := Lib.hid hown
  clear hEn hown hck hsy hrt htg hd hpl hE
  obtain ⟨de, hde⟩ : ∃ d, detE t = d := ⟨_, rfl⟩
  by_cases h0 : de = 0
  · subst h0
    go_enter Tryz.func10, Tryz.ntmps10
    go_wp2_with (first
      | (go_at_call 7; refine hDec.out.mono ?_; rintro e w1 ⟨a, c, he, hrow, hb1⟩; unfold treeV at he; subst he; have HRow := Lib.hid hrow; have HB1 := Lib.hid hb1; clear hrow hb1)
      | (go_at_call 9; refine (HEn.out a c (w1.alloc (.cells #[.int .i64 t.f0, .bool t.f1, .int .u64 t.f2, .string t.f3, .slice a t.f4.length c] 25)) (fun g => w.heap.size ≤ g ∧ g < w1.heap.size) (fun g hg => Nat.lt_of_lt_of_le hg.2 (by simp)) ⟨HRow.out.1, tree_keep (fun _ h => h) (fun g hg => Below.heap_alloc w1 _ g hg.2) HRow.out.2⟩).mono ?_; rintro e w2 ⟨v, he, hb2, hv⟩; rw [hde] at he; subst he; have hb12 := HB1.out.alloc HB1.out.size (.cells #[.int .i64 t.f0, .bool t.f1, .int .u64 t.f2, .string t.f3, .slice a t.f4.length c] 25); have hb := hb12.trans (hb2.mono hb12.size); have hc2 := own_string (P := Tryz.prog) (dst := 9) Tryz.underlying26 Tryz.underlying5 Tryz.underlying9 (own_next HOw.out hb); obtain ⟨b9, ho9⟩ := det_own hv; have hc1 := own_string (P := Tryz.prog) (dst := 9) Tryz.underlying26 Tryz.underlying5 Tryz.underlying9 ho9; have HB := Lib.hid hb; clear hb12 hb2 hv ho9 hb))
    refine bodyPost_ret (v := .bool ((strOfNums (detB t)).toList == (strOfNums (itemF false t)).toList)) (by simp [results, Tryz.results10, go_sem]) rfl ⟨by rw [hde]; simp, HB.out⟩
  · have hmb : (de != 0) = true := by simpa using h0
    have hmc : (de == 0) = false := by simpa using h0
    go_enter Tryz.func10, Tryz.ntmps10
    go_wp2_with (first
      | (go_at_call 7; refine hDec.out.mono ?_; rintro e w1 ⟨a, c, he, hrow, hb1⟩; unfold treeV at he; subst he; have HRow := Lib.hid hrow; have HB1 := Lib.hid hb1; clear hrow hb1)
      | (go_at_call 9; refine (HEn.out a c (w1.alloc (.cells #[.int .i64 t.f0, .bool t.f1, .int .u64 t.f2, .string t.f3, .slice a t.f4.length c] 25)) (fun g => w.heap.size ≤ g ∧ g < w1.heap.size) (fun g hg => Nat.lt_of_lt_of_le hg.2 (by simp)) ⟨HRow.out.1, tree_keep (fun _ h => h) (fun g hg => Below.heap_alloc w1 _ g hg.2) HRow.out.2⟩).mono ?_; rintro e w2 ⟨v, he, hb2, hv⟩; rw [hde] at he; subst he; have hb12 := HB1.out.alloc HB1.out.size (.cells #[.int .i64 t.f0, .bool t.f1, .int .u64 t.f2, .string t.f3, .slice a t.f4.length c] 25); have hb := hb12.trans (hb2.mono hb12.size); have hc2 := own_string (P := Tryz.prog) (dst := 9) Tryz.underlying26 Tryz.underlying5 Tryz.underlying9 (own_next HOw.out hb); obtain ⟨b9, ho9⟩ := det_own hv; have hc1 := own_string (P := Tryz.prog) (dst := 9) Tryz.underlying26 Tryz.underlying5 Tryz.underlying9 ho9; have HB := Lib.hid hb; clear hb12 hb2 hv ho9 hb))
    refine bodyPost_ret (v := .bool false) (by simp [results, Tryz.results10, go_sem]) rfl ⟨by rw [hde]; simp [h0], HB.out⟩
end Go.Proofs.YtfmceonbejlhlaaGreatDoor

/-
  The card WholeDet: what is read of a tree's bytes is the same value, however its items are written.
-/
namespace Go.Proofs.YtfmceonbejlhlaaGreatDoor
open Go.RowKit Go.Proofs.YtfmceonbejlhlaaGreatDoorW.PrintWords Go.Proofs.YtfmceonbejlhlaaGreatDoorW.PrintLast Go.Proofs.YtfmceonbejlhlaaGreatDoorW.PrintMore
set_option linter.unusedVariables false

theorem item_pos (op : Bool) {t : T} (hE : encE t = 0) (hW : Wf t) : 0 < (itemF op t).length := by
  obtain ⟨_, hs, hr, _⟩ := enc_right hE
  obtain ⟨b, r, h, _⟩ := itemF_first op t hr hW hs
  rw [h]
  simp
theorem own_some {w : World} {base n : Nat} {xs : List Value} {v : Value} (hn : 0 < n) (h : w.ownsRow base 5 1 v n xs) : ∃ g cap, v = .slice (some ⟨g, 0, none⟩) n cap ∧ n ≤ cap ∧ g < w.heap.size := by
  rcases h.2 with h0 | ⟨g, cap, cur, hv, h1⟩
  · have := h.1
    rw [h0.2] at this
    simp at this
    omega
  · refine ⟨g, cap, hv, ?_, own_lt h g (by rw [hv]; rfl)⟩
    obtain ⟨_, _, h2, _⟩ := h1
    exact h2
/-- What WholeDet tells. -/
def WdPost (w : World) (e : Ending) (w' : World) : Prop := e = .returned (.bool true) ∧ Below w.heap.size w w'

set_option maxRecDepth 100000 in
set_option maxHeartbeats 8000000 in
theorem wd_err (t : T) (a : Option Addr) (c : Nat) (w : World) (m : Int) (hm : encE t = m) (h0 : m ≠ 0)
    (hEn : ∀ op W, Below w.heap.size w W → Calls Tryz.prog 5 #[.agg #[.int .i64 t.f0, .bool t.f1, .int .u64 t.f2, .string t.f3, .slice a t.f4.length c], .agg #[.bool op, .int .i64 0, .bool false]] W (EncPost op t W)) :
    Calls Tryz.prog 3 #[.agg #[.int .i64 t.f0, .bool t.f1, .int .u64 t.f2, .string t.f3, .slice a t.f4.length c]] w (WdPost w) := by
  have R0 := (Row5.new w (.int .i64 t.f0) (.bool t.f1) (.int .u64 t.f2) (.string t.f3) (.slice a t.f4.length c))
  have k0 := R0.c0
  have k1 := R0.c1
  have k2 := R0.c2
  have k3 := R0.c3
  have k4 := R0.c4
  have HB1 := Lib.hid ((Below.refl _ w).alloc (Nat.le_refl _) (.cells #[.int .i64 t.f0, .bool t.f1, .int .u64 t.f2, .string t.f3, .slice a t.f4.length c] 25))
  have HEF := Lib.hid (hEn false)
  have HET := Lib.hid (hEn true)
  have HM := Lib.hid hm
  have hmb : (m != 0) = true := by simpa using h0
  clear hEn hm
  go_enter Tryz.func3, Tryz.ntmps3
  go_wp2_with (first
    | (go_at_call 5; refine (HEF.out _ HB1.out).mono ?_; rintro e w1 ⟨v1, he, hb1, hno, hyes⟩; rw [HM.out] at he; subst he; have R1 := (show Row5 w1 w.heap.size _ _ _ _ _ from (hb1.block _ R0.lt).trans R0); have k0 := R1.c0; have k1 := R1.c1; have k2 := R1.c2; have k3 := R1.c3; have k4 := R1.c4; have Hb1 := Lib.hid (HB1.out.trans (hb1.mono HB1.out.size)); clear hb1 hno hyes HEF)
    | (go_at_call 5; refine (HET.out _ Hb1.out).mono ?_; rintro e w2 ⟨v2, he, hb2, hno, hyes⟩; rw [HM.out] at he; subst he; have Hb2 := Lib.hid (Hb1.out.trans (hb2.mono Hb1.out.size)); clear hb2 hno hyes)
    | (go_at_call 6; refine (awake_any _).mono ?_; rintro e w3 ⟨rfl, hb3⟩; have Hb3 := Lib.hid (Hb2.out.trans (hb3.mono Hb2.out.size)); clear hb3))
  exact bodyPost_ret (v := .bool true) (by simp [results, Tryz.results3, go_sem]) rfl ⟨rfl, Hb3.out⟩

set_option maxRecDepth 100000 in
set_option maxHeartbeats 8000000 in
theorem wd_big (t : T) (a : Option Addr) (c : Nat) (w : World) (n1 n2 : Nat) (hE : encE t = 0) (hwf : Wf t) (h1 : (itemF false t).length = n1) (h2 : (itemF true t).length = n2) (hp1 : 0 < n1) (hp2 : 0 < n2) (hbig : 1048576 < max n1 n2)
    (hEn : ∀ op W, Below w.heap.size w W → Calls Tryz.prog 5 #[.agg #[.int .i64 t.f0, .bool t.f1, .int .u64 t.f2, .string t.f3, .slice a t.f4.length c], .agg #[.bool op, .int .i64 0, .bool false]] W (EncPost op t W)) :
    Calls Tryz.prog 3 #[.agg #[.int .i64 t.f0, .bool t.f1, .int .u64 t.f2, .string t.f3, .slice a t.f4.length c]] w (WdPost w) := by
  have R0 := (Row5.new w (.int .i64 t.f0) (.bool t.f1) (.int .u64 t.f2) (.string t.f3) (.slice a t.f4.length c))
  have k0 := R0.c0
  have k1 := R0.c1
  have k2 := R0.c2
  have k3 := R0.c3
  have k4 := R0.c4
  have HB1 := Lib.hid ((Below.refl _ w).alloc (Nat.le_refl _) (.cells #[.int .i64 t.f0, .bool t.f1, .int .u64 t.f2, .string t.f3, .slice a t.f4.length c] 25))
  have HEF := Lib.hid (hEn false)
  have HET := Lib.hid (hEn true)
  have HM := Lib.hid hE
  have HN := Lib.hid (show _ ∧ _ ∧ 0 < n1 ∧ 0 < n2 from ⟨h1, h2, hp1, hp2⟩)
  clear hEn hE h1 h2 hp1 hp2
  go_enter Tryz.func3, Tryz.ntmps3
  go_wp2_with (first
    | (go_at_call 5; refine (HEF.out _ HB1.out).mono ?_; rintro e w1 ⟨v1, he, hb1, hno, hyes⟩; rw [HM.out] at he; subst he; have hl1 := hyes HM.out; rw [HN.out.1] at hl1; obtain ⟨g1, c1, hv1, hc1, hg1⟩ := own_some HN.out.2.2.1 hl1; subst hv1; have R1 := (show Row5 w1 w.heap.size _ _ _ _ _ from (hb1.block _ R0.lt).trans R0); have k0 := R1.c0; have k1 := R1.c1; have k2 := R1.c2; have k3 := R1.c3; have k4 := R1.c4; have Hb1 := Lib.hid (HB1.out.trans (hb1.mono HB1.out.size)); clear hb1 hno hyes HEF hl1)
    | (go_at_call 5; refine (HET.out _ Hb1.out).mono ?_; rintro e w2 ⟨v2, he, hb2, hno, hyes⟩; rw [HM.out] at he; subst he; have hl2 := hyes HM.out; rw [HN.out.2.1] at hl2; obtain ⟨g2, c2, hv2, hc2, hg2⟩ := own_some HN.out.2.2.2 hl2; subst hv2; have Hb2 := Lib.hid (Hb1.out.trans (hb2.mono Hb1.out.size)); clear hb2 hno hyes hl2)
    | (go_at_call 6; refine (awake_any _).mono ?_; rintro e w3 ⟨rfl, hb3⟩; have Hb3 := Lib.hid (Hb2.out.trans (hb3.mono Hb2.out.size)); clear hb3))
  exact bodyPost_ret (v := .bool true) (by simp [results, Tryz.results3, go_sem]) rfl ⟨rfl, Hb3.out⟩

-- MAIN
/-- What stays while WholeDet goes on. -/
def Fr3 (w w1 w2 W : World) : Prop := Below w.heap.size w W ∧ Below w1.heap.size w1 W ∧ Below w2.heap.size w2 W
theorem Fr3.next {w w1 w2 W W' : World} (h : Fr3 w w1 w2 W) (hb : Below W.heap.size W W') : Fr3 w w1 w2 W' := ⟨h.1.trans (hb.mono h.1.size), h.2.1.trans (hb.mono h.2.1.size), h.2.2.trans (hb.mono h.2.2.size)⟩
theorem Fr3.alloc {w w1 w2 W : World} (h : Fr3 w w1 w2 W) (o : Obj) : Fr3 w w1 w2 (W.alloc o) := ⟨h.1.alloc h.1.size o, h.2.1.alloc h.2.1.size o, h.2.2.alloc h.2.2.size o⟩

set_option maxRecDepth 100000 in
set_option maxHeartbeats 16000000 in
theorem wd_main (t : T) (a : Option Addr) (c : Nat) (w : World) (n1 n2 : Nat) (hE : encE t = 0) (hwf : Wf t) (hbk : bulk t ≤ 1073741824) (h1 : (itemF false t).length = n1) (h2 : (itemF true t).length = n2) (hp1 : 0 < n1) (hp2 : 0 < n2) (hsm : max n1 n2 ≤ 1048576)
    (hEn : ∀ op W, Below w.heap.size w W → Calls Tryz.prog 5 #[.agg #[.int .i64 t.f0, .bool t.f1, .int .u64 t.f2, .string t.f3, .slice a t.f4.length c], .agg #[.bool op, .int .i64 0, .bool false]] W (EncPost op t W)) :
    Calls Tryz.prog 3 #[.agg #[.int .i64 t.f0, .bool t.f1, .int .u64 t.f2, .string t.f3, .slice a t.f4.length c]] w (WdPost w) := by
  obtain ⟨hck, hsy, hrt, htg, hd, hpl⟩ := enc_right hE
  have R0 := (Row5.new w (.int .i64 t.f0) (.bool t.f1) (.int .u64 t.f2) (.string t.f3) (.slice a t.f4.length c))
  have k0 := R0.c0
  have k1 := R0.c1
  have k2 := R0.c2
  have k3 := R0.c3
  have k4 := R0.c4
  have HB1 := Lib.hid ((Below.refl _ w).alloc (Nat.le_refl _) (.cells #[.int .i64 t.f0, .bool t.f1, .int .u64 t.f2, .string t.f3, .slice a t.f4.length c] 25))
  have HEF := Lib.hid (hEn false)
  have HET := Lib.hid (hEn true)
  have HM := Lib.hid hE
  have HN := Lib.hid (show _ ∧ _ ∧ 0 < n1 ∧ 0 < n2 from ⟨h1, h2, hp1, hp2⟩)
  have hD' : ∀ (op : Bool) (n : Nat), (itemF op t).length = n → n ≤ 1048576 → 0 < n → ∀ (b g cap : Nat) (W : World), n ≤ cap → W.ownsRow b 5 1 (.slice (some ⟨g, 0, none⟩) n cap) n ((itemF op t).map (Value.int .u8)) → Calls Tryz.prog 7 #[.slice (some ⟨g, 0, none⟩) n cap, .agg #[.int .i64 64, .int .i64 1048576, .bool false]] W (DecPost n t W) := fun op n hn hs hp b g cap W hc ho => decode_any op t g n cap W hrt hwf hsy hbk hd hpl hn hc hs (own_lt ho g rfl) (bytes_of_own ho)
  have HD1 : Hid (∀ (b g cap : Nat) (W : World), n1 ≤ cap → W.ownsRow b 5 1 (.slice (some ⟨g, 0, none⟩) n1 cap) n1 ((itemF false t).map (Value.int .u8)) → Calls Tryz.prog 7 #[.slice (some ⟨g, 0, none⟩) n1 cap, .agg #[.int .i64 64, .int .i64 1048576, .bool false]] W (DecPost n1 t W)) := Lib.hid (hD' false n1 h1 (by omega) hp1)
  have HD2 : Hid (∀ (b g cap : Nat) (W : World), n2 ≤ cap → W.ownsRow b 5 1 (.slice (some ⟨g, 0, none⟩) n2 cap) n2 ((itemF true t).map (Value.int .u8)) → Calls Tryz.prog 7 #[.slice (some ⟨g, 0, none⟩) n2 cap, .agg #[.int .i64 64, .int .i64 1048576, .bool false]] W (DecPost n2 t W)) := Lib.hid (hD' true n2 h2 (by omega) hp2)
  have hX : ∀ (a : Option Addr) (c : Nat) (W : World) (P : Nat → Prop), (∀ g, P g → g < W.heap.size) → RowOk W P (t, a, c) → Calls Tryz.prog 9 #[.agg #[.int .i64 t.f0, .bool t.f1, .int .u64 t.f2, .string t.f3, .slice a t.f4.length c]] W (DetPost t W) := fun a c W P hP h => denc_any t a c W P hP h.2 h.1 hwf htg hck hsy (by omega)
  have HX1 := Lib.hid hX
  have HX2 := Lib.hid hX
  have hIs : ∀ (b g cap : Nat) (W : World), W.ownsRow b 5 1 (.slice (some ⟨g, 0, none⟩) n1 cap) n1 ((itemF false t).map (Value.int .u8)) → Calls Tryz.prog 10 #[.slice (some ⟨g, 0, none⟩) n1 cap] W (fun e w' => e = .returned (.bool (decide (detE t = 0) && ((strOfNums (detB t)).toList == (strOfNums (itemF false t)).toList))) ∧ Below W.heap.size W w') := fun b g cap W ho => is_any t g n1 cap b W hE hwf hbk h1 (by omega) ho
  have HIs := Lib.hid hIs
  have HA1 := Lib.hid all_any
  have HA2 := Lib.hid all_any
  clear hD' hX hIs hEn hE h1 h2 hp1 hp2 hck hsy hrt htg hd hpl hbk hwf
  have hsm1 : max (n1 : Int) n2 ≤ 1048576 := by omega
  obtain ⟨de, hde⟩ : ∃ d, detE t = d := ⟨_, rfl⟩
  have HDe := Lib.hid hde
  clear hde
  go_enter Tryz.func3, Tryz.ntmps3
  by_cases h0 : de = 0
  · subst h0
    go_wp2_with (first
      | (go_at_call 5; refine (HEF.out _ HB1.out).mono ?_; rintro e w1 ⟨v1, he, hb1, hno, hyes⟩; rw [HM.out] at he; subst he; have hl1 := hyes HM.out; rw [HN.out.1] at hl1; obtain ⟨g1, c1, hv1, hc1, hg1⟩ := own_some HN.out.2.2.1 hl1; subst hv1; have HO1 := Lib.hid hl1; have HC1 := Lib.hid hc1; have R1 := (show Row5 w1 w.heap.size _ _ _ _ _ from (hb1.block _ R0.lt).trans R0); have k0 := R1.c0; have k1 := R1.c1; have k2 := R1.c2; have k3 := R1.c3; have k4 := R1.c4; have Hb1 := Lib.hid (HB1.out.trans (hb1.mono HB1.out.size)); clear hb1 hno hyes HEF hl1 hc1 hg1)
      | (go_at_call 5; refine (HET.out _ Hb1.out).mono ?_; rintro e w2 ⟨v2, he, hb2, hno, hyes⟩; rw [HM.out] at he; subst he; have hl2 := hyes HM.out; rw [HN.out.2.1] at hl2; obtain ⟨g2, c2, hv2, hc2, hg2⟩ := own_some HN.out.2.2.2 hl2; subst hv2; have HO2 := Lib.hid hl2; have HC2 := Lib.hid hc2; have HF2 := Lib.hid (Below.refl w2.heap.size w2); have HF1 := Lib.hid hb2; have Hb2 := Lib.hid (Hb1.out.trans (hb2.mono Hb1.out.size)); clear hb2 hno hyes hl2 HET hc2 hg2)
      | (go_at_call 8; refine (HA1.out _).mono ?_; rintro e w3 ⟨rfl, hb3⟩; have HG3 := Lib.hid (show Fr3 w w1 w2 w3 from Fr3.next ⟨Hb2.out, HF1.out, HF2.out⟩ hb3); clear hb3 HA1)
      | (go_at_call 7; refine (HD1.out _ g1 c1 w3 HC1.out (own_next HO1.out HG3.out.2.1)).mono ?_; rintro e w4 ⟨a4, c4, he, hrow, hb4⟩; unfold treeV at he; subst he; have HRow4 := Lib.hid hrow; have R4 := Row5.new w4 (.int .i64 t.f0) (.bool t.f1) (.int .u64 t.f2) (.string t.f3) (.slice a4 t.f4.length c4); have HR4 := Lib.hid R4; have HG4 := Lib.hid (Fr3.alloc (Fr3.next HG3.out hb4) (.cells #[.int .i64 t.f0, .bool t.f1, .int .u64 t.f2, .string t.f3, .slice a4 t.f4.length c4] 25)); clear hrow hb4 HD1 R4)
      | (go_at_call 8; refine (HA2.out _).mono ?_; rintro e w5 ⟨rfl, hb5⟩; have HG5 := Lib.hid (Fr3.next HG4.out hb5); have HQ5 := Lib.hid hb5; clear hb5 HA2)
      | (go_at_call 7; refine (HD2.out _ g2 c2 w5 HC2.out (own_next HO2.out HG5.out.2.2)).mono ?_; rintro e w6 ⟨a6, c6, he, hrow, hb6⟩; unfold treeV at he; subst he; have HRow6 := Lib.hid hrow; have R6 := Row5.new w6 (.int .i64 t.f0) (.bool t.f1) (.int .u64 t.f2) (.string t.f3) (.slice a6 t.f4.length c6); have HR6 := Lib.hid R6; have HQ6 := Lib.hid ((HQ5.out.trans (hb6.mono HQ5.out.size)).alloc (Nat.le_trans HQ5.out.size hb6.size) (.cells #[.int .i64 t.f0, .bool t.f1, .int .u64 t.f2, .string t.f3, .slice a6 t.f4.length c6] 25)); have HP6 := Lib.hid (hb6.alloc hb6.size (.cells #[.int .i64 t.f0, .bool t.f1, .int .u64 t.f2, .string t.f3, .slice a6 t.f4.length c6] 25)); have HG6 := Lib.hid (Fr3.alloc (Fr3.next HG5.out hb6) (.cells #[.int .i64 t.f0, .bool t.f1, .int .u64 t.f2, .string t.f3, .slice a6 t.f4.length c6] 25)); have X4 := (show Row5 (w6.alloc (.cells #[.int .i64 t.f0, .bool t.f1, .int .u64 t.f2, .string t.f3, .slice a6 t.f4.length c6] 25)) w4.heap.size _ _ _ _ _ from (HQ6.out.block _ HR4.out.lt).trans HR4.out); have x0 := X4.c0; have x1 := X4.c1; have x2 := X4.c2; have x3 := X4.c3; have x4 := X4.c4; clear hrow hb6 HD2 R6)
      | (go_at_call 9; refine (HX1.out a4 c4 (w6.alloc (.cells #[.int .i64 t.f0, .bool t.f1, .int .u64 t.f2, .string t.f3, .slice a6 t.f4.length c6] 25)) (fun g => w3.heap.size ≤ g ∧ g < w4.heap.size) (fun g hg => Nat.lt_of_lt_of_le hg.2 (by have := HQ6.out.size; rw [World.size_alloc] at this; omega)) ⟨HRow4.out.1, tree_keep (fun _ h => h) (fun g hg => (HQ6.out.block g (by rw [World.size_alloc]; omega)).trans (Below.heap_alloc w4 _ g hg.2)) HRow4.out.2⟩).mono ?_; rintro e w7 ⟨v7, he, hb7, hv7⟩; rw [HDe.out] at he; subst he; obtain ⟨b7, ho7⟩ := det_own hv7; have HV7 := Lib.hid ho7; have HQ7 := Lib.hid hb7; have HG7 := Lib.hid (Fr3.next HG6.out hb7); have X6 := (show Row5 w7 w6.heap.size _ _ _ _ _ from (hb7.block _ HR6.out.lt).trans HR6.out); have y0 := X6.c0; have y1 := X6.c1; have y2 := X6.c2; have y3 := X6.c3; have y4 := X6.c4; clear hb7 hv7 ho7 HX1)
      | (go_at_call 9; refine (HX2.out a6 c6 w7 (fun g => w5.heap.size ≤ g ∧ g < w6.heap.size) (fun g hg => Nat.lt_of_lt_of_le hg.2 (by have := HQ7.out.size; rw [World.size_alloc] at this; omega)) ⟨HRow6.out.1, tree_keep (fun _ h => h) (fun g hg => (HQ7.out.block g (by rw [World.size_alloc]; omega)).trans (Below.heap_alloc w6 _ g hg.2)) HRow6.out.2⟩).mono ?_; rintro e w8 ⟨v8, he, hb8, hv8⟩; rw [HDe.out] at he; subst he; obtain ⟨b8, ho8⟩ := det_own hv8; have HV8 := Lib.hid ho8; have HV78 := Lib.hid (own_next HV7.out hb8); have hcv8 := own_string (P := Tryz.prog) (dst := 9) Tryz.underlying26 Tryz.underlying5 Tryz.underlying9 ho8; have hcv7 := own_string (P := Tryz.prog) (dst := 9) Tryz.underlying26 Tryz.underlying5 Tryz.underlying9 HV78.out; have HG8 := Lib.hid (Fr3.next HG7.out hb8); clear hb8 hv8 ho8 HX2)
      | (go_at_call 10; refine (HIs.out _ g1 c1 w8 (own_next HO1.out HG8.out.2.1)).mono ?_; rintro e w9 ⟨he, hb9⟩; rw [HDe.out] at he; subst he; have hcv1 := own_string (P := Tryz.prog) (dst := 9) Tryz.underlying26 Tryz.underlying5 Tryz.underlying9 (own_next (own_next HO1.out HG8.out.2.1) (show Below w8.heap.size w8 w9 from hb9)); have hcv9 := own_string (P := Tryz.prog) (dst := 9) Tryz.underlying26 Tryz.underlying5 Tryz.underlying9 (own_next HV78.out hb9); have HG9 := Lib.hid (Fr3.next HG8.out hb9); clear hb9)
      | (go_at_call 6; refine (awake_any _).mono ?_; rintro e w10 ⟨rfl, hb10⟩; have HG10 := Lib.hid (Fr3.next HG9.out hb10); clear hb10))
    exact bodyPost_ret (v := .bool true) (by simp [results, Tryz.results3, go_sem]) rfl ⟨rfl, HG10.out.1⟩
    rename_i hx
    exact absurd BEq.comm hx
  · have hmb : (de != 0) = true := by simpa using h0
    have hmc : (de == 0) = false := by simpa using h0
    go_wp2_with (first
      | (go_at_call 5; refine (HEF.out _ HB1.out).mono ?_; rintro e w1 ⟨v1, he, hb1, hno, hyes⟩; rw [HM.out] at he; subst he; have hl1 := hyes HM.out; rw [HN.out.1] at hl1; obtain ⟨g1, c1, hv1, hc1, hg1⟩ := own_some HN.out.2.2.1 hl1; subst hv1; have HO1 := Lib.hid hl1; have HC1 := Lib.hid hc1; have R1 := (show Row5 w1 w.heap.size _ _ _ _ _ from (hb1.block _ R0.lt).trans R0); have k0 := R1.c0; have k1 := R1.c1; have k2 := R1.c2; have k3 := R1.c3; have k4 := R1.c4; have Hb1 := Lib.hid (HB1.out.trans (hb1.mono HB1.out.size)); clear hb1 hno hyes HEF hl1 hc1 hg1)
      | (go_at_call 5; refine (HET.out _ Hb1.out).mono ?_; rintro e w2 ⟨v2, he, hb2, hno, hyes⟩; rw [HM.out] at he; subst he; have hl2 := hyes HM.out; rw [HN.out.2.1] at hl2; obtain ⟨g2, c2, hv2, hc2, hg2⟩ := own_some HN.out.2.2.2 hl2; subst hv2; have HO2 := Lib.hid hl2; have HC2 := Lib.hid hc2; have HF2 := Lib.hid (Below.refl w2.heap.size w2); have HF1 := Lib.hid hb2; have Hb2 := Lib.hid (Hb1.out.trans (hb2.mono Hb1.out.size)); clear hb2 hno hyes hl2 HET hc2 hg2)
      | (go_at_call 8; refine (HA1.out _).mono ?_; rintro e w3 ⟨rfl, hb3⟩; have HG3 := Lib.hid (show Fr3 w w1 w2 w3 from Fr3.next ⟨Hb2.out, HF1.out, HF2.out⟩ hb3); clear hb3 HA1)
      | (go_at_call 7; refine (HD1.out _ g1 c1 w3 HC1.out (own_next HO1.out HG3.out.2.1)).mono ?_; rintro e w4 ⟨a4, c4, he, hrow, hb4⟩; unfold treeV at he; subst he; have HRow4 := Lib.hid hrow; have R4 := Row5.new w4 (.int .i64 t.f0) (.bool t.f1) (.int .u64 t.f2) (.string t.f3) (.slice a4 t.f4.length c4); have HR4 := Lib.hid R4; have HG4 := Lib.hid (Fr3.alloc (Fr3.next HG3.out hb4) (.cells #[.int .i64 t.f0, .bool t.f1, .int .u64 t.f2, .string t.f3, .slice a4 t.f4.length c4] 25)); clear hrow hb4 HD1 R4)
      | (go_at_call 8; refine (HA2.out _).mono ?_; rintro e w5 ⟨rfl, hb5⟩; have HG5 := Lib.hid (Fr3.next HG4.out hb5); have HQ5 := Lib.hid hb5; clear hb5 HA2)
      | (go_at_call 7; refine (HD2.out _ g2 c2 w5 HC2.out (own_next HO2.out HG5.out.2.2)).mono ?_; rintro e w6 ⟨a6, c6, he, hrow, hb6⟩; unfold treeV at he; subst he; have HRow6 := Lib.hid hrow; have R6 := Row5.new w6 (.int .i64 t.f0) (.bool t.f1) (.int .u64 t.f2) (.string t.f3) (.slice a6 t.f4.length c6); have HR6 := Lib.hid R6; have HQ6 := Lib.hid ((HQ5.out.trans (hb6.mono HQ5.out.size)).alloc (Nat.le_trans HQ5.out.size hb6.size) (.cells #[.int .i64 t.f0, .bool t.f1, .int .u64 t.f2, .string t.f3, .slice a6 t.f4.length c6] 25)); have HP6 := Lib.hid (hb6.alloc hb6.size (.cells #[.int .i64 t.f0, .bool t.f1, .int .u64 t.f2, .string t.f3, .slice a6 t.f4.length c6] 25)); have HG6 := Lib.hid (Fr3.alloc (Fr3.next HG5.out hb6) (.cells #[.int .i64 t.f0, .bool t.f1, .int .u64 t.f2, .string t.f3, .slice a6 t.f4.length c6] 25)); have X4 := (show Row5 (w6.alloc (.cells #[.int .i64 t.f0, .bool t.f1, .int .u64 t.f2, .string t.f3, .slice a6 t.f4.length c6] 25)) w4.heap.size _ _ _ _ _ from (HQ6.out.block _ HR4.out.lt).trans HR4.out); have x0 := X4.c0; have x1 := X4.c1; have x2 := X4.c2; have x3 := X4.c3; have x4 := X4.c4; clear hrow hb6 HD2 R6)
      | (go_at_call 9; refine (HX1.out a4 c4 (w6.alloc (.cells #[.int .i64 t.f0, .bool t.f1, .int .u64 t.f2, .string t.f3, .slice a6 t.f4.length c6] 25)) (fun g => w3.heap.size ≤ g ∧ g < w4.heap.size) (fun g hg => Nat.lt_of_lt_of_le hg.2 (by have := HQ6.out.size; rw [World.size_alloc] at this; omega)) ⟨HRow4.out.1, tree_keep (fun _ h => h) (fun g hg => (HQ6.out.block g (by rw [World.size_alloc]; omega)).trans (Below.heap_alloc w4 _ g hg.2)) HRow4.out.2⟩).mono ?_; rintro e w7 ⟨v7, he, hb7, hv7⟩; rw [HDe.out] at he; subst he; obtain ⟨b7, ho7⟩ := det_own hv7; have HV7 := Lib.hid ho7; have HQ7 := Lib.hid hb7; have HG7 := Lib.hid (Fr3.next HG6.out hb7); have X6 := (show Row5 w7 w6.heap.size _ _ _ _ _ from (hb7.block _ HR6.out.lt).trans HR6.out); have y0 := X6.c0; have y1 := X6.c1; have y2 := X6.c2; have y3 := X6.c3; have y4 := X6.c4; clear hb7 hv7 ho7 HX1)
      | (go_at_call 9; refine (HX2.out a6 c6 w7 (fun g => w5.heap.size ≤ g ∧ g < w6.heap.size) (fun g hg => Nat.lt_of_lt_of_le hg.2 (by have := HQ7.out.size; rw [World.size_alloc] at this; omega)) ⟨HRow6.out.1, tree_keep (fun _ h => h) (fun g hg => (HQ7.out.block g (by rw [World.size_alloc]; omega)).trans (Below.heap_alloc w6 _ g hg.2)) HRow6.out.2⟩).mono ?_; rintro e w8 ⟨v8, he, hb8, hv8⟩; rw [HDe.out] at he; subst he; obtain ⟨b8, ho8⟩ := det_own hv8; have HV8 := Lib.hid ho8; have HV78 := Lib.hid (own_next HV7.out hb8); have hcv8 := own_string (P := Tryz.prog) (dst := 9) Tryz.underlying26 Tryz.underlying5 Tryz.underlying9 ho8; have hcv7 := own_string (P := Tryz.prog) (dst := 9) Tryz.underlying26 Tryz.underlying5 Tryz.underlying9 HV78.out; have HG8 := Lib.hid (Fr3.next HG7.out hb8); clear hb8 hv8 ho8 HX2)
      | (go_at_call 10; refine (HIs.out _ g1 c1 w8 (own_next HO1.out HG8.out.2.1)).mono ?_; rintro e w9 ⟨he, hb9⟩; rw [HDe.out] at he; subst he; have hcv1 := own_string (P := Tryz.prog) (dst := 9) Tryz.underlying26 Tryz.underlying5 Tryz.underlying9 (own_next (own_next HO1.out HG8.out.2.1) (show Below w8.heap.size w8 w9 from hb9)); have hcv9 := own_string (P := Tryz.prog) (dst := 9) Tryz.underlying26 Tryz.underlying5 Tryz.underlying9 (own_next HV78.out hb9); have HG9 := Lib.hid (Fr3.next HG8.out hb9); clear hb9)
      | (go_at_call 6; refine (awake_any _).mono ?_; rintro e w10 ⟨rfl, hb10⟩; have HG10 := Lib.hid (Fr3.next HG9.out hb10); clear hb10))
    exact bodyPost_ret (v := .bool true) (by simp [results, Tryz.results3, go_sem]) rfl ⟨rfl, HG10.out.1⟩
/-- WHOLEDET: true, at any tree. -/
theorem wd_any (t : T) (a : Option Addr) (c : Nat) (w : World) (P : Nat → Prop) (hP : ∀ g, P g → g < w.heap.size) (hT : Tree w P t a) (hc : t.f4.length ≤ c) (hwf : Wf t) (hb : bulk t ≤ 1073741824) :
    Calls Tryz.prog 3 #[.agg #[.int .i64 t.f0, .bool t.f1, .int .u64 t.f2, .string t.f3, .slice a t.f4.length c]] w (WdPost w) := by
  have hEn : ∀ op W, Below w.heap.size w W → Calls Tryz.prog 5 #[.agg #[.int .i64 t.f0, .bool t.f1, .int .u64 t.f2, .string t.f3, .slice a t.f4.length c], .agg #[.bool op, .int .i64 0, .bool false]] W (EncPost op t W) := fun op W h => encode_any op t a c W P (fun g hg => Nat.lt_of_lt_of_le (hP g hg) h.size) (tree_keep (fun _ h => h) (fun g hg => h.block g (hP g hg)) hT) hc hwf (by omega)
  by_cases hE : encE t = 0
  · by_cases hm : max (itemF false t).length (itemF true t).length ≤ 1048576
    · exact wd_main t a c w _ _ hE hwf hb rfl rfl (item_pos false hE hwf) (item_pos true hE hwf) hm hEn
    · exact wd_big t a c w _ _ hE hwf rfl rfl (item_pos false hE hwf) (item_pos true hE hwf) (by omega) hEn
  · exact wd_err t a c w _ rfl hE hEn
end Go.Proofs.YtfmceonbejlhlaaGreatDoor
