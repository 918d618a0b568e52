import Derived.WalkKit
import Derived.LaidEql
import Derived.Stop.Asserts
import Derived.RowKitTokens
import Derived.Handy
import Derived.Test.YtfmceonbejlhlaaGreatDoorMWd15
/-
  det's plain: the walk.
-/
namespace Go.Proofs.YtfmceonbejlhlaaGreatDoor
open Go.RowKit Go.Sort Go.Proofs.YtfmceonbejlhlaaGreatDoorW.PrintWords Go.Proofs.YtfmceonbejlhlaaGreatDoorW.PrintLast Go.Proofs.YtfmceonbejlhlaaGreatDoorW.PrintMore
set_option linter.unusedVariables false

/-- Five cells stored. -/
def st5 (W : World) (b o : Nat) (v0 v1 v2 v3 v4 : Value) : World := ((((W.setCell ⟨b, o, none⟩ v0).setCell ⟨b, o + 1, none⟩ v1).setCell ⟨b, o + 2, none⟩ v2).setCell ⟨b, o + 3, none⟩ v3).setCell ⟨b, o + 4, none⟩ v4
section
variable {W w : World} {b o : Nat} {v0 v1 v2 v3 v4 : Value}
theorem st5_heap {g : Nat} (hg : g ≠ b) : (st5 W b o v0 v1 v2 v3 v4).heap[g]? = W.heap[g]? := by
  unfold st5
  rw [Below.heap_setCell _ ⟨b, _, none⟩ _ g hg, Below.heap_setCell _ ⟨b, _, none⟩ _ g hg, Below.heap_setCell _ ⟨b, _, none⟩ _ g hg, Below.heap_setCell _ ⟨b, _, none⟩ _ g hg, Below.heap_setCell _ ⟨b, _, none⟩ _ g hg]
theorem st5_size : (st5 W b o v0 v1 v2 v3 v4).heap.size = W.heap.size := by unfold st5; simp
theorem st5_below {B : Nat} (h : Below B w W) (hb : B ≤ b) : Below B w (st5 W b o v0 v1 v2 v3 v4) :=
  ((((h.setCell (p := ⟨b, o, none⟩) hb v0).setCell (p := ⟨b, o + 1, none⟩) hb v1).setCell (p := ⟨b, o + 2, none⟩) hb v2).setCell (p := ⟨b, o + 3, none⟩) hb v3).setCell (p := ⟨b, o + 4, none⟩) hb v4
theorem st5_own {base e size n cap : Nat} {xs : List Value} (h : W.ownsRow base e size (.slice (some ⟨b, 0, none⟩) n cap) n xs) : (st5 W b o v0 v1 v2 v3 v4).ownsRow base e size (.slice (some ⟨b, 0, none⟩) n cap) n (((((xs.set o v0).set (o + 1) v1).set (o + 2) v2).set (o + 3) v3).set (o + 4) v4) :=
  ((((h.stored o v0).1.stored (o + 1) v1).1.stored (o + 2) v2).1.stored (o + 3) v3).1.stored (o + 4) v4 |>.1
theorem st5_row {a0 a1 a2 a3 a4 : Value} (h : Row5 W b a0 a1 a2 a3 a4) : Row5 (st5 W b 0 v0 v1 v2 v3 v4) b v0 v1 v2 v3 v4 := ((((h.s0 v0).s1 v1).s2 v2).s3 v3).s4 v4
theorem st5_far {g : Nat} {a0 a1 a2 a3 a4 : Value} (h : Row5 W g a0 a1 a2 a3 a4) (hg : g ≠ b) : Row5 (st5 W b o v0 v1 v2 v3 v4) g a0 a1 a2 a3 a4 := (st5_heap hg).trans h
end
/-- A list of rows, as the list of a new tree. -/
theorem list_new {W w : World} {q3 j base : Nat} {k n : Int} {neg : Bool} {s : ByteArray} {r : List RowT} {P : Nat → Prop} (h : W.ownsRow base 25 5 (.slice (some ⟨q3, 0, none⟩) j j) j (rowsCells r)) (hr : r.length = j) (hX : ∀ z ∈ r, RowOk W P z) (hP : ∀ g, P g → New w W g) (hq : w.heap.size ≤ q3) (hj : j ≤ 9223372036854775807) :
    RowOk W (New w W) (⟨k, neg, n, s, r.map (·.1)⟩, some ⟨q3, 0, none⟩, j) := by
  refine ⟨by simp [hr], ?_⟩
  simp only [Tree]
  refine ⟨by rw [List.length_map]; omega, .inr ⟨q3, 0, rfl, ⟨hq, own_lt h q3 rfl⟩, rows_tree h fun x hx => ?_⟩⟩
  have := (hX x hx).mono hP
  exact this
theorem list_new2 {W w : World} {A : Option Addr} {m c base : Nat} {k n : Int} {neg : Bool} {s : ByteArray} {r : List RowT} {l : List T} {P : Nat → Prop} (h : W.ownsRow base 25 5 (.slice A m c) m (rowsCells r)) (hl : r.map (·.1) = l) (hm : l.length = m) (hX : ∀ z ∈ r, RowOk W P z) (hP : ∀ g, P g → New w W g) (hq : w.heap.size ≤ base) :
    RowOk W (New w W) (⟨k, neg, n, s, l⟩, A, c) := by
  subst hl
  have hrm : r.length = m := by rw [List.length_map] at hm; exact hm
  rcases h.2 with ⟨h1, h2⟩ | ⟨g, cap, cur, h1, h2, h3, h4, h5, h6⟩
  · have hr0 : r = [] := List.eq_nil_of_length_eq_zero (by omega)
    subst hr0
    exact ⟨Nat.zero_le _, by simp [Tree]⟩
  · injection h1 with h7 h8 h9
    subst h7 h9
    refine ⟨by simpa [hrm] using h4, ?_⟩
    simp only [Tree]
    unfold maxLen at h5
    refine ⟨by rw [List.length_map]; omega, .inr ⟨g, 0, rfl, ⟨by omega, own_lt h g rfl⟩, rows_tree h fun x hx => ?_⟩⟩
    exact (hX x hx).mono hP
theorem plainL_ok : ∀ {l l' : List T}, plainL l = some l' → WfL l → TgL l → WfL l' ∧ bulkL l' ≤ bulkL l
  | [], l', h, _, _ => by
    simp only [plainL, Option.some.injEq] at h
    rw [← h]
    exact ⟨trivial, Nat.le_refl _⟩
  | x :: r, l', h, hw, hg => by
    simp only [plainL] at h
    obtain ⟨x', hx, h⟩ := Option.bind_eq_some_iff.1 h
    obtain ⟨y, hr, rfl⟩ := Option.map_eq_some_iff.1 h
    have h1 := plainF_ok x x' hx hw.1 hg.1
    have h2 := plainL_ok hr hw.2 hg.2
    exact ⟨⟨h1.1, h2.1⟩, by simp only [bulkL]; omega⟩
theorem tgL_mem : ∀ {l : List T} {t : T}, TgL l → t ∈ l → Tg t
  | x :: r, t, hw, h => by
    rcases List.mem_cons.1 h with rfl | h
    · exact hw.1
    · exact tgL_mem hw.2 h
theorem saysL_memN {k n : Int} {neg : Bool} {s : ByteArray} {l : List T} {t : T} (h : saysF ⟨k, neg, n, s, l⟩ = true) (ht : t ∈ l) : saysF t = true := by
  simp only [saysF, Bool.and_eq_true] at h
  have : ∀ r : List T, saysL r = true → t ∈ r → saysF t = true := by
    intro r
    induction r with
    | nil => intro _ h; simp at h
    | cons x r ih =>
      intro h ht
      simp only [saysL, Bool.and_eq_true] at h
      rcases List.mem_cons.1 ht with rfl | ht
      · exact h.1
      · exact ih h.2 ht
  exact this l h.1 ht
set_option maxHeartbeats 16000000 in
set_option maxRecDepth 100000 in
theorem plain_any : ∀ (t : T) (a : Option Addr) (c : Nat) (w : World) (P : Nat → Prop), (∀ g, P g → g < w.heap.size) → Tree w P t a → Wf t → Tg t → saysF t = true → bulk t ≤ 2147483648 →
    Calls Tryz.prog 82 #[.agg #[.int .i64 t.f0, .bool t.f1, .int .u64 t.f2, .string t.f3, .slice a t.f4.length c]] w (PlainPost t w) := by
  intro t
  induction t using T.ind with
  | h k neg n s l ih =>
    intro a c w P hP hT hwf htg hsy hb
    dsimp only
    have hlb := bulkL_len l
    have hb0 := hb
    simp only [bulk] at hb
    obtain ⟨h0, hT⟩ := tree_list hT
    dsimp only at hT h0
    obtain ⟨wf1, wf2, wf3⟩ := hwf
    obtain ⟨tg1, tg2⟩ := htg
    obtain ⟨m, hm⟩ : ∃ m, l.length = m := ⟨_, rfl⟩
    have hm2 : m ≤ 2147483648 := by omega
    have HIH : Hid (∀ x ∈ l, ∀ (xa : Option Addr) (xc : Nat) (W : World), Below w.heap.size w W → Tree W P x xa → Calls Tryz.prog 82 #[.agg #[.int .i64 x.f0, .bool x.f1, .int .u64 x.f2, .string x.f3, .slice xa x.f4.length xc]] W (PlainPost x W)) := Lib.hid (fun x hx xa xc W hW hTx => ih x hx xa xc W P (fun g hg => Nat.lt_of_lt_of_le (hP g hg) hW.size) hTx (wfL_mem wf3 hx) (tgL_mem tg2 hx) (saysL_memN hsy hx) (by have := bulkL_mem hx; omega))
    clear ih
    have S1 := (Row5.new w (.int .i64 k) (.bool neg) (.int .u64 n) (.string s) (.slice a l.length c)).alloc (.cells #[.int .i64 0, .bool false, .int .u64 0, .string ⟨#[]⟩, .slice none 0 0] 25)
    have S2 := Row5.new (w.alloc (.cells #[.int .i64 k, .bool neg, .int .u64 n, .string s, .slice a l.length c] 25)) (.int .i64 0) (.bool false) (.int .u64 0) (.string ⟨#[]⟩) (.slice none 0 0)
    have hB2 := ((Below.refl w.heap.size w).alloc (Nat.le_refl _) (.cells #[.int .i64 k, .bool neg, .int .u64 n, .string s, .slice a l.length c] 25)).alloc (by simp) (.cells #[.int .i64 0, .bool false, .int .u64 0, .string ⟨#[]⟩, .slice none 0 0] 25)
    rw [World.size_alloc] at S2
    rw [hm] at S1 S2 hB2 ⊢
    obtain ⟨W2, hW2⟩ : ∃ W, (w.alloc (.cells #[.int .i64 k, .bool neg, .int .u64 n, .string s, .slice a m c] 25)).alloc (.cells #[.int .i64 0, .bool false, .int .u64 0, .string ⟨#[]⟩, .slice none 0 0] 25) = W := ⟨_, rfl⟩
    have hsz : W2.heap.size = w.heap.size + 2 := by rw [← hW2]; simp
    rw [hW2] at S1 S2 hB2
    obtain ⟨q, hq⟩ : ∃ q, w.heap.size = q := ⟨_, rfl⟩
    have c4 := S1.c4
    rw [hq] at S1 S2 hB2 hsz
    have HS1 := Lib.hid S1
    have HS2 := Lib.hid S2
    have HB2 := Lib.hid hB2
    have HQ := Lib.hid hq
    have HM := Lib.hid hm
    obtain ⟨i25, hj, hy0, hy1, hy2⟩ := info_parts info25z
    clear S1 S2 hB2 hq
    go_enter Tryz.func82, Tryz.ntmps82
    have hbz : w.heap.size ≤ W2.heap.size := by have := HQ.out; omega
    go_wp2_with (at_make; refine wpList_make_full _ rfl (.tmp 10) (.tmp 10) 23 rfl w.heap.size 25 i25 (.agg #[.int .i64 0, .bool false, .int .u64 0, .string ⟨#[]⟩, .slice none 0 0]) 5 Tryz.underlying23 hj hy0 hy1 .i64 .i64 (m : Int) (m : Int) m rfl rfl rfl rfl (by rw [hy2]; omega) (by unfold maxLen; omega) hbz ?_; intro W3 hown hgr; have S13 := (show Row5 W3 q (.int .i64 k) (.bool neg) (.int .u64 n) (.string s) (.slice a m c) from (hgr.block q HS1.out.lt (fun e => by cases e)).trans HS1.out); have e4 := S13.c4; rw [← HQ.out] at e4; have HG3 := Lib.hid hgr; have HO3 := Lib.hid hown; have HS13 := Lib.hid S13; clear hown hgr S13)
    rw [HQ.out] at e4 ⊢
    have hB3 : Below q W2 W3 := (Below.refl q W2).grown HG3.out (by omega) (fun k e => by cases e)
    have hBw3 : Below q w W3 := HB2.out.trans hB3
    have S23 : Row5 W3 (q + 1) (.int .i64 0) (.bool false) (.int .u64 0) (.string ⟨#[]⟩) (.slice none 0 0) := (HG3.out.block (q + 1) HS2.out.lt (fun e => by cases e)).trans HS2.out
    obtain ⟨q3, hq23⟩ : ∃ q3, q + 2 = q3 := ⟨_, rfl⟩
    have hq3 : W2.heap.size = q3 := by omega
    have hq32 : q3 = q + 2 := by omega
    have hown0 : W3.ownsRow q 25 5 (.slice (some ⟨q3, 0, none⟩) m m) m (rowsCells ([] ++ List.replicate (m - 0) default)) := by
      have h := HO3.out
      rw [HQ.out, hq3, zero_rows] at h
      exact h
    have HOW0 := Lib.hid hown0
    have HB30 := Lib.hid hBw3
    have HS23 := Lib.hid S23
    have HQ3 := Lib.hid hq32
    first | rw [hq23] | rw [hq3]
    have HTr := Lib.hid hT
    have HPw : Hid (∀ g, P g → g < q) := Lib.hid (fun g hg => by have := hP g hg; rw [HQ.out] at this; exact this)
    clear hB3 hBw3 S23 hown0 hq32 hT e4 c4
    go_loopw [4, 15] (fun v4 i wr => ∃ (j : Nat) (r : List RowT), j ≤ m ∧ v4 = .nilIface ∧ i = .int .i64 j ∧ Hid (r.length = j) ∧ Hid (plainL (l.take j) = some (r.map (·.1))) ∧ Hid (wr.ownsRow q 25 5 (.slice (some ⟨q3, 0, none⟩) m m) m (rowsCells (r ++ List.replicate (m - j) default))) ∧ Hid (∀ x ∈ r, RowOk wr (fun g => q3 < g ∧ g < wr.heap.size) x) ∧ Hid (Row5 wr q (.int .i64 k) (.bool neg) (.int .u64 n) (.string s) (.slice a m c)) ∧ Hid (Row5 wr (q + 1) (.int .i64 0) (.bool false) (.int .u64 0) (.string ⟨#[]⟩) (.slice none 0 0)) ∧ Hid (Below q w wr)) (fun _ i _ => m - (intOf i).toNat)
    case atStart => exact ⟨0, [], by omega, rfl, rfl, Lib.hid rfl, Lib.hid (by rw [List.take_zero]; rfl), HOW0, Lib.hid (fun x hx => absurd hx (by simp)), HS13, HS23, HB30⟩
    case round =>
      clear HOW0 HS13 HS23 HB30
      obtain ⟨j, r, hjm, rfl, rfl, HR, HPL, HO, HX, HR1, HR2, HB⟩ := hrel
      by_cases hlt : j < m
      · have hltz : (j : Int) < (m : Int) := by omega
        obtain ⟨g, off, rfl, hg, hTL⟩ : ∃ g off, a = some ⟨g, off, none⟩ ∧ P g ∧ TreeL w P l g off := by
          rcases HTr.out with h | h
          · rw [h] at hm; simp at hm; omega
          · exact h
        obtain ⟨x, xa, xc, hx, e0, e1, e2, e3, e4, hxc, hxT⟩ := treeL_cells hTL (by rw [hm]; exact hlt)
        have hgw : g < q := HPw.out g hg
        have K0 := (HB.out.cell (p := ⟨g, off + j * 5, none⟩) hgw).trans e0
        have K1 := (HB.out.cell (p := ⟨g, off + j * 5 + 1, none⟩) hgw).trans e1
        have K2 := (HB.out.cell (p := ⟨g, off + j * 5 + 2, none⟩) hgw).trans e2
        have K3 := (HB.out.cell (p := ⟨g, off + j * 5 + 3, none⟩) hgw).trans e3
        have K4 := (HB.out.cell (p := ⟨g, off + j * 5 + 4, none⟩) hgw).trans e4
        have hq3w : q3 < wr.heap.size := own_lt HO.out q3 rfl
        have X4 := Row5.new wr (.int .i64 x.f0) (.bool x.f1) (.int .u64 x.f2) (.string x.f3) (.slice xa x.f4.length xc)
        have hb4 := (Below.refl wr.heap.size wr).alloc (Nat.le_refl _) (.cells #[.int .i64 x.f0, .bool x.f1, .int .u64 x.f2, .string x.f3, .slice xa x.f4.length xc] 25)
        obtain ⟨W4, hW4⟩ : ∃ W, wr.alloc (.cells #[.int .i64 x.f0, .bool x.f1, .int .u64 x.f2, .string x.f3, .slice xa x.f4.length xc] 25) = W := ⟨_, rfl⟩
        rw [hW4] at X4 hb4
        have x0 := X4.c0
        have x1 := X4.c1
        have x2 := X4.c2
        have x3 := X4.c3
        have x4 := X4.c4
        have hb4w : Below q w W4 := HB.out.trans (hb4.mono (by omega))
        have HC := Lib.hid (HIH.out x (List.mem_of_getElem? hx) xa xc W4 (by rw [HQ.out]; exact hb4w) (tree_keep (fun _ h => h) (fun g hg => hb4w.block g (HPw.out g hg)) hxT))
        have HX4 := Lib.hid hx
        have HB4 := Lib.hid hb4
        clear e0 e1 e2 e3 e4 hTL hxT hx X4 hb4w hb4
        have hZ : (r ++ List.replicate (m - j) default)[j]? = some default := by
          rw [List.getElem?_append_right (by rw [HR.out]; exact Nat.le_refl _), HR.out, Nat.sub_self, List.getElem?_replicate, if_pos (by omega)]
        have HB5 : Hid (∀ w5, Below W4.heap.size W4 w5 → Below wr.heap.size wr w5) := Lib.hid (fun w5 h => HB4.out.trans (h.mono HB4.out.size))
        have HG : Hid (∀ w5, Below W4.heap.size W4 w5 → ∀ i v, (default : RowT).cells[i]? = some v → w5.cell? ⟨q3, j * 5 + i, none⟩ = some v) := Lib.hid (fun w5 h i v hv => ((HB5.out w5 h).cell (p := ⟨q3, j * 5 + i, none⟩) hq3w).trans (row_cells HO.out hZ hv))
        have HFz : Hid (∀ w5, Below W4.heap.size W4 w5 → ∀ i, w5.frozen? ⟨q3, i, none⟩ = false) := Lib.hid (fun w5 h i => by
          obtain ⟨cs, hc⟩ := own_typed HO.out q3 rfl
          exact frozen_of_row w5 q3 i _ _ (((HB5.out w5 h).block q3 hq3w).trans hc))
        have hLT : l.take (j + 1) = l.take j ++ [x] := by
          rw [List.take_succ_eq_append_getElem (by omega)]
          have := HX4.out
          rw [List.getElem?_eq_getElem (by omega)] at this
          rw [Option.some.inj this]
        have HLT := Lib.hid hLT
        have hn1 : ∀ (v : Value) (w : World), (binOp BinOp.neq 88 (.iface 147 v) .nilIface).run Tryz.prog w = .ok (.bool true) w := fun _ _ => by kernel_rfl
        have hn2 : ∀ w : World, (binOp BinOp.neq 88 .nilIface .nilIface).run Tryz.prog w = .ok (.bool false) w := fun _ => by kernel_rfl
        clear hZ hLT
        have hC := HC.out
        unfold PlainPost at hC
        cases hpx : plainF x with
        | none =>
          rw [hpx] at hC
          have HC := Lib.hid hC
          have hPN : plainF ⟨k, neg, n, s, l⟩ = none := by
            have h1 : plainL (l.take (j + 1)) = none := by rw [HLT.out, plainL_snoc, HPL.out, hpx]; rfl
            have h2 := plainL_pre (r := l.drop (j + 1)) h1
            rw [List.take_append_drop] at h2
            simp only [plainF, h2, Option.bind_none]
          have HPN := Lib.hid hPN
          clear hC hPN hpx
          go_wp2_with (go_at_call 82; refine HC.out.mono ?_; rintro ee w5 ⟨hb5, t0, a5, c5, rfl⟩; unfold refusal; have g0 : w5.cell? ⟨q3, j * 5, none⟩ = _ := HG.out w5 hb5 0 _ rfl; have g1 := HG.out w5 hb5 1 _ rfl; have g2 := HG.out w5 hb5 2 _ rfl; have g3 := HG.out w5 hb5 3 _ rfl; have g4 := HG.out w5 hb5 4 _ rfl; have z0 := HFz.out w5 hb5 (j * 5); have z1 := HFz.out w5 hb5 (j * 5 + 1); have z2 := HFz.out w5 hb5 (j * 5 + 2); have z3 := HFz.out w5 hb5 (j * 5 + 3); have z4 := HFz.out w5 hb5 (j * 5 + 4); have R2 := HR2.out.below (HB5.out w5 hb5); have u0 := R2.c0; have u1 := R2.c1; have u2 := R2.c2; have u3 := R2.c3; have u4 := R2.c4; have y0 := R2.fz 0; have y1 := R2.fz 1; have y2 := R2.fz 2; have y3 := R2.fz 3; have y4 := R2.fz 4; have HRR := Lib.hid R2; have HW5 := Lib.hid hb5; clear R2 hb5)
          have hWf : Below q w w5 := HB.out.trans ((HB5.out w5 HW5.out).mono (by have := HQ3.out; omega))
          have h7 := st5_row (W := st5 w5 q3 (j * 5) (.int .i64 t0.f0) (.bool t0.f1) (.int .u64 t0.f2) (.string t0.f3) (.slice a5 t0.f4.length c5)) (v0 := .int .i64 0) (v1 := .bool false) (v2 := .int .u64 0) (v3 := .string ⟨#[]⟩) (v4 := .slice none 0 0) (st5_far HRR.out (by have := HQ3.out; omega))
          have hb7 := st5_below (b := q + 1) (o := 0) (v0 := .int .i64 0) (v1 := .bool false) (v2 := .int .u64 0) (v3 := .string ⟨#[]⟩) (v4 := .slice none 0 0) (st5_below (b := q3) (o := j * 5) (v0 := .int .i64 t0.f0) (v1 := .bool t0.f1) (v2 := .int .u64 t0.f2) (v3 := .string t0.f3) (v4 := .slice a5 t0.f4.length c5) hWf (by have := HQ3.out; omega)) (by omega)
          have hWW : ∃ W7, st5 (st5 w5 q3 (j * 5) (.int .i64 t0.f0) (.bool t0.f1) (.int .u64 t0.f2) (.string t0.f3) (.slice a5 t0.f4.length c5)) (q + 1) 0 (.int .i64 0) (.bool false) (.int .u64 0) (.string ⟨#[]⟩) (.slice none 0 0) = W7 := ⟨_, rfl⟩
          obtain ⟨W7, hWW⟩ := hWW
          rw [hWW] at h7 hb7
          have e0 := h7.c0
          have e1 := h7.c1
          have e2 := h7.c2
          have e3 := h7.c3
          have e4 := h7.c4
          change bodyPost _ _ _ _ _ (st5 (st5 w5 q3 (j * 5) (.int .i64 t0.f0) (.bool t0.f1) (.int .u64 t0.f2) (.string t0.f3) (.slice a5 t0.f4.length c5)) (q + 1) 0 (.int .i64 0) (.bool false) (.int .u64 0) (.string ⟨#[]⟩) (.slice none 0 0))
          rw [hWW]
          exact bodyPost_ret (v := .tuple #[.agg #[.int .i64 0, .bool false, .int .u64 0, .string ⟨#[]⟩, .slice none 0 0], .iface 147 (.agg #[.iface 27 (.int .i64 4)])]) (by simp [results, Tryz.results82, go_sem, e0, e1, e2, e3, e4]) rfl ⟨by rw [HQ.out]; exact hb7, by rw [HPN.out]; exact ⟨default, none, 0, rfl⟩⟩
        | some x' =>
          rw [hpx] at hC
          have HC := Lib.hid hC
          have hPS : plainL (l.take (j + 1)) = some (r.map (·.1) ++ [x']) := by rw [HLT.out, plainL_snoc, HPL.out, hpx]; rfl
          have HPS := Lib.hid hPS
          clear hC hPS hpx
          go_wp2_with (go_at_call 82; refine HC.out.mono ?_; rintro ee w5 ⟨hb5, a5, c5, rfl, hrow5⟩; have g0 : w5.cell? ⟨q3, j * 5, none⟩ = _ := HG.out w5 hb5 0 _ rfl; have g1 := HG.out w5 hb5 1 _ rfl; have g2 := HG.out w5 hb5 2 _ rfl; have g3 := HG.out w5 hb5 3 _ rfl; have g4 := HG.out w5 hb5 4 _ rfl; have z0 := HFz.out w5 hb5 (j * 5); have z1 := HFz.out w5 hb5 (j * 5 + 1); have z2 := HFz.out w5 hb5 (j * 5 + 2); have z3 := HFz.out w5 hb5 (j * 5 + 3); have z4 := HFz.out w5 hb5 (j * 5 + 4); have HW5 := Lib.hid hb5; have HX5 := Lib.hid hrow5; clear hb5 hrow5)
          obtain ⟨W6, hW6⟩ : ∃ W6, st5 w5 q3 (j * 5) (.int .i64 x'.f0) (.bool x'.f1) (.int .u64 x'.f2) (.string x'.f3) (.slice a5 x'.f4.length c5) = W6 := ⟨_, rfl⟩
          have hsz6 : W6.heap.size = w5.heap.size := by rw [← hW6, st5_size]
          have hk6 : ∀ g, g ≠ q3 → W6.heap[g]? = w5.heap[g]? := fun g hg => by rw [← hW6]; exact st5_heap hg
          have hBr := HB5.out w5 HW5.out
          have hO5 : w5.ownsRow q 25 5 (.slice (some ⟨q3, 0, none⟩) m m) m (rowsCells (r ++ List.replicate (m - j) default)) := own_move HO.out fun t ht => hBr.block t (own_lt HO.out t ht)
          have hO6 : W6.ownsRow q 25 5 (.slice (some ⟨q3, 0, none⟩) m m) m (rowsCells ((r ++ [(x', a5, c5)]) ++ List.replicate (m - (j + 1)) default)) := by
            have h1 := st5_own (o := j * 5) (v0 := .int .i64 x'.f0) (v1 := .bool x'.f1) (v2 := .int .u64 x'.f2) (v3 := .string x'.f3) (v4 := .slice a5 x'.f4.length c5) hO5
            rw [hW6, show m - j = (m - (j + 1)) + 1 by omega, List.replicate_succ] at h1
            rw [set_row r (List.replicate (m - (j + 1)) default) default (x', a5, c5) j HR.out] at h1
            rw [List.append_assoc]
            exact h1
          have hX6 : ∀ z ∈ r ++ [(x', a5, c5)], RowOk W6 (fun g => q3 < g ∧ g < W6.heap.size) z := by
            intro z hz
            rcases List.mem_append.1 hz with hz | hz
            · exact (HX.out z hz).keep (fun g hg => ⟨hg.1, by have := hBr.size; omega⟩) (fun g hg => (hk6 g (by omega)).trans (hBr.block g hg.2))
            · rw [List.mem_singleton] at hz
              subst hz
              exact HX5.out.keep (fun g hg => ⟨by have := HB4.out.size; have := hg.1; omega, by have := hg.2; omega⟩) (fun g hg => hk6 g (by have := HB4.out.size; have := hg.1; omega))
          have h1 : Row5 W6 q (.int .i64 k) (.bool neg) (.int .u64 n) (.string s) (.slice (some ⟨g, off, none⟩) m c) := (hk6 q (by have := HQ3.out; omega)).trans (HR1.out.below hBr)
          have h2 : Row5 W6 (q + 1) (.int .i64 0) (.bool false) (.int .u64 0) (.string ⟨#[]⟩) (.slice none 0 0) := (hk6 (q + 1) (by have := HQ3.out; omega)).trans (HR2.out.below hBr)
          have h3 : Below q w W6 := by rw [← hW6]; exact st5_below (HB.out.trans (hBr.mono (by have := HQ3.out; omega))) (by have := HQ3.out; omega)
          go_roundw
          case rel =>
            refine ⟨j + 1, r ++ [(x', a5, c5)], by omega, rfl, by go_num, Lib.hid (by rw [List.length_append, HR.out]; rfl), Lib.hid (by rw [HPS.out, List.map_append]; rfl), ?_⟩
            have hall : Hid (W6.ownsRow q 25 5 (.slice (some ⟨q3, 0, none⟩) m m) m (rowsCells ((r ++ [(x', a5, c5)]) ++ List.replicate (m - (j + 1)) default))) ∧ Hid (∀ z ∈ r ++ [(x', a5, c5)], RowOk W6 (fun g => q3 < g ∧ g < W6.heap.size) z) ∧ Hid (Row5 W6 q (.int .i64 k) (.bool neg) (.int .u64 n) (.string s) (.slice (some ⟨g, off, none⟩) m c)) ∧ Hid (Row5 W6 (q + 1) (.int .i64 0) (.bool false) (.int .u64 0) (.string ⟨#[]⟩) (.slice none 0 0)) ∧ Hid (Below q w W6) := ⟨hO6, hX6, h1, h2, h3⟩
            rw [← hW6] at hall
            exact hall
          case measure => simp [intOf]; omega
      · have hjm2 : j = m := by omega
        subst hjm2
        have hjj : ¬ (j : Int) < (j : Int) := by omega
        obtain ⟨l', hl'⟩ : ∃ l', r.map (·.1) = l' := ⟨_, rfl⟩
        have hOk : WfL l' ∧ bulkL l' ≤ bulkL l := by
          have h1 := HPL.out
          rw [List.take_of_length_le (by rw [hm]; exact Nat.le_refl _), hl'] at h1
          exact plainL_ok h1 wf3 tg2
        have HOk := Lib.hid hOk
        have hPF : plainF ⟨k, neg, n, s, l⟩ = plainK k neg n s l' := by
          have h1 := HPL.out
          rw [List.take_of_length_le (by rw [hm]; exact Nat.le_refl _), hl'] at h1
          simp only [plainF, h1, Option.bind_some]
        have hO1 : wr.ownsRow q 25 5 (.slice (some ⟨q3, 0, none⟩) j j) j (rowsCells r) := by
          have h1 := HO.out
          rw [Nat.sub_self, List.replicate_zero, List.append_nil] at h1
          exact h1
        have hll : l'.length = j := by rw [← hl', List.length_map]; exact HR.out
        have HPF := Lib.hid hPF
        have HO1 := Lib.hid hO1
        have HLL := Lib.hid hll
        have HL' := Lib.hid hl'
        have hq3w : q3 < wr.heap.size := own_lt hO1 q3 rfl
        have k14 : (k == 14) = false := by
          have : k ≠ 14 := by
            rintro rfl
            simp [saysF] at hsy
          simpa using this
        clear hPF hO1 hll hl' HO HPL hOk
        have d0 := HR1.out.c0
        have d1 := HR1.out.c1
        have d2 := HR1.out.c2
        have d3 := HR1.out.c3
        have d4 := HR1.out.c4
        have f4 := HR1.out.fz 4
        have HR6 := Lib.hid (HR1.out.s4 (.slice (some ⟨q3, 0, none⟩) j j))
        have HR7 := Lib.hid (HR2.out.far (p := ⟨q, 4, none⟩) (by show q + 1 ≠ q; omega) (.slice (some ⟨q3, 0, none⟩) j j))
        have HO7 := Lib.hid (own_move HO1.out (w1 := wr.setCell ⟨q, 4, none⟩ (.slice (some ⟨q3, 0, none⟩) j j)) (fun t ht => Below.heap_setCell _ ⟨q, 4, none⟩ _ t (by have h1 : q3 = t := Option.some.inj ht; have := HQ3.out; show t ≠ q; omega)))
        have HB7 := Lib.hid (HB.out.setCell (p := ⟨q, 4, none⟩) (Nat.le_refl _) (.slice (some ⟨q3, 0, none⟩) j j))
        have HX7 : Hid (∀ z ∈ r, RowOk (wr.setCell ⟨q, 4, none⟩ (.slice (some ⟨q3, 0, none⟩) j j)) (fun g => q3 < g ∧ g < (wr.setCell ⟨q, 4, none⟩ (.slice (some ⟨q3, 0, none⟩) j j)).heap.size) z) := Lib.hid (fun z hz => (HX.out z hz).keep (fun g hg => ⟨hg.1, by have := hg.2; simpa using this⟩) (fun g hg => Below.heap_setCell _ ⟨q, 4, none⟩ _ g (by have := HQ3.out; have := hg.1; show g ≠ q; omega)))
        by_cases hf : 6 ≤ k ∧ k ≤ 8
        · obtain ⟨K, N, hLT, hKN⟩ := leastT_of k n (wf_U64 wf2)
          have HEl : Hid (plainF ⟨k, neg, n, s, l⟩ = some ⟨K, false, N, ⟨#[]⟩, []⟩) := Lib.hid (by rw [HPF.out, plainK, if_pos hf, hLT])
          obtain ⟨hK, hN, hD⟩ := hKN
          clear hLT hm
          have hk3 : k = 6 ∨ k = 7 ∨ k = 8 := by omega
          clear hf
          rcases hk3 with rfl | rfl | rfl
          · have hsh : ∀ w, (Op.shift .shl .i64 16 .i64 (IntKind.i64.wrap 0)).run Tryz.prog w = .ok (.int .i64 16) w := fun _ => by kernel_rfl
            have HCall : Hid (∀ W, Calls Tryz.prog 121 #[.int .i64 16, .int .u64 n] W (Ret (.agg #[.int .i64 K, .bool false, .int .u64 N, .string ⟨#[]⟩, .slice none 0 0]) W)) := Lib.hid (fun W => hD W)
            clear hD
            go_wp2_with fail
            obtain ⟨W6, hW6⟩ : ∃ W, wr.setCell ⟨q, 4, none⟩ (.slice (some ⟨q3, 0, none⟩) j j) = W := ⟨_, rfl⟩
            rw [hW6] at HR6 HR7 HO7 HB7
            have g0 := HR6.out.c0
            have g2 := HR6.out.c2

            try rw [hW6]
            clear hW6 d0 d1 d2 d3 d4 f4
            go_region_with (first
              | (go_at_call 121; refine (HCall.out _).mono ?_; rintro ee w8 ⟨rfl, hb8⟩; have T2 := Row5.below (show Row5 W6.drew _ _ _ _ _ _ from HR7.out) hb8; have HT2 := Lib.hid T2; have HW8 := Lib.hid (HB7.out.drew.trans (hb8.mono (by have := HB7.out.size; have := HQ.out; show q ≤ W6.heap.size; omega))); have u0 := T2.c0; have u1 := T2.c1; have u2 := T2.c2; have u3 := T2.c3; have u4 := T2.c4; have y0 := T2.fz 0; have y1 := T2.fz 1; have y2 := T2.fz 2; have y3 := T2.fz 3; have y4 := T2.fz 4; clear T2 hb8))
            all_goals
              go_wp2
              have hk8 : ∀ g, q + 1 < g → (st5 w8 (q + 1) 0 (.int .i64 K) (.bool false) (.int .u64 N) (.string ⟨#[]⟩) (.slice none 0 0)).heap[g]? = w8.heap[g]? := fun g hg => st5_heap (by omega)
              have hsz8 : (st5 w8 (q + 1) 0 (.int .i64 K) (.bool false) (.int .u64 N) (.string ⟨#[]⟩) (.slice none 0 0)).heap.size = w8.heap.size := st5_size
              have h7 := st5_row (v0 := (.int .i64 K)) (v1 := (.bool false)) (v2 := (.int .u64 N)) (v3 := (.string ⟨#[]⟩)) (v4 := (.slice none 0 0)) HT2.out
              have hb7 := st5_below (b := q + 1) (o := 0) (v0 := (.int .i64 K)) (v1 := (.bool false)) (v2 := (.int .u64 N)) (v3 := (.string ⟨#[]⟩)) (v4 := (.slice none 0 0)) HW8.out (by omega)
              change bodyPost _ _ _ _ _ (st5 w8 (q + 1) 0 (.int .i64 K) (.bool false) (.int .u64 N) (.string ⟨#[]⟩) (.slice none 0 0))
              generalize st5 w8 (q + 1) 0 (.int .i64 K) (.bool false) (.int .u64 N) (.string ⟨#[]⟩) (.slice none 0 0) = W7 at h7 hb7 hk8 hsz8 ⊢
              have e0 := h7.c0
              have e1 := h7.c1
              have e2 := h7.c2
              have e3 := h7.c3
              have e4 := h7.c4
              refine bodyPost_ret (v := .tuple #[.agg #[(.int .i64 K), (.bool false), (.int .u64 N), (.string ⟨#[]⟩), (.slice none 0 0)], .nilIface]) (by simp [results, Tryz.results82, go_sem, e0, e1, e2, e3, e4]) rfl ⟨by rw [HQ.out]; exact hb7, ?_⟩
              rw [HEl.out]
              exact ⟨none, 0, rfl, Nat.le_refl _, by simp [Tree]⟩

          · have hsh : ∀ w, (Op.shift .shl .i64 16 .i64 (IntKind.i64.wrap 1)).run Tryz.prog w = .ok (.int .i64 32) w := fun _ => by kernel_rfl
            have HCall : Hid (∀ W, Calls Tryz.prog 121 #[.int .i64 32, .int .u64 n] W (Ret (.agg #[.int .i64 K, .bool false, .int .u64 N, .string ⟨#[]⟩, .slice none 0 0]) W)) := Lib.hid (fun W => hD W)
            clear hD
            go_wp2_with fail
            obtain ⟨W6, hW6⟩ : ∃ W, wr.setCell ⟨q, 4, none⟩ (.slice (some ⟨q3, 0, none⟩) j j) = W := ⟨_, rfl⟩
            rw [hW6] at HR6 HR7 HO7 HB7
            have g0 := HR6.out.c0
            have g2 := HR6.out.c2

            try rw [hW6]
            clear hW6 d0 d1 d2 d3 d4 f4
            go_region_with (first
              | (go_at_call 121; refine (HCall.out _).mono ?_; rintro ee w8 ⟨rfl, hb8⟩; have T2 := Row5.below (show Row5 W6.drew _ _ _ _ _ _ from HR7.out) hb8; have HT2 := Lib.hid T2; have HW8 := Lib.hid (HB7.out.drew.trans (hb8.mono (by have := HB7.out.size; have := HQ.out; show q ≤ W6.heap.size; omega))); have u0 := T2.c0; have u1 := T2.c1; have u2 := T2.c2; have u3 := T2.c3; have u4 := T2.c4; have y0 := T2.fz 0; have y1 := T2.fz 1; have y2 := T2.fz 2; have y3 := T2.fz 3; have y4 := T2.fz 4; clear T2 hb8))
            all_goals
              go_wp2
              have hk8 : ∀ g, q + 1 < g → (st5 w8 (q + 1) 0 (.int .i64 K) (.bool false) (.int .u64 N) (.string ⟨#[]⟩) (.slice none 0 0)).heap[g]? = w8.heap[g]? := fun g hg => st5_heap (by omega)
              have hsz8 : (st5 w8 (q + 1) 0 (.int .i64 K) (.bool false) (.int .u64 N) (.string ⟨#[]⟩) (.slice none 0 0)).heap.size = w8.heap.size := st5_size
              have h7 := st5_row (v0 := (.int .i64 K)) (v1 := (.bool false)) (v2 := (.int .u64 N)) (v3 := (.string ⟨#[]⟩)) (v4 := (.slice none 0 0)) HT2.out
              have hb7 := st5_below (b := q + 1) (o := 0) (v0 := (.int .i64 K)) (v1 := (.bool false)) (v2 := (.int .u64 N)) (v3 := (.string ⟨#[]⟩)) (v4 := (.slice none 0 0)) HW8.out (by omega)
              change bodyPost _ _ _ _ _ (st5 w8 (q + 1) 0 (.int .i64 K) (.bool false) (.int .u64 N) (.string ⟨#[]⟩) (.slice none 0 0))
              generalize st5 w8 (q + 1) 0 (.int .i64 K) (.bool false) (.int .u64 N) (.string ⟨#[]⟩) (.slice none 0 0) = W7 at h7 hb7 hk8 hsz8 ⊢
              have e0 := h7.c0
              have e1 := h7.c1
              have e2 := h7.c2
              have e3 := h7.c3
              have e4 := h7.c4
              refine bodyPost_ret (v := .tuple #[.agg #[(.int .i64 K), (.bool false), (.int .u64 N), (.string ⟨#[]⟩), (.slice none 0 0)], .nilIface]) (by simp [results, Tryz.results82, go_sem, e0, e1, e2, e3, e4]) rfl ⟨by rw [HQ.out]; exact hb7, ?_⟩
              rw [HEl.out]
              exact ⟨none, 0, rfl, Nat.le_refl _, by simp [Tree]⟩

          · have hsh : ∀ w, (Op.shift .shl .i64 16 .i64 (IntKind.i64.wrap 2)).run Tryz.prog w = .ok (.int .i64 64) w := fun _ => by kernel_rfl
            have HCall : Hid (∀ W, Calls Tryz.prog 121 #[.int .i64 64, .int .u64 n] W (Ret (.agg #[.int .i64 K, .bool false, .int .u64 N, .string ⟨#[]⟩, .slice none 0 0]) W)) := Lib.hid (fun W => hD W)
            clear hD
            go_wp2_with fail
            obtain ⟨W6, hW6⟩ : ∃ W, wr.setCell ⟨q, 4, none⟩ (.slice (some ⟨q3, 0, none⟩) j j) = W := ⟨_, rfl⟩
            rw [hW6] at HR6 HR7 HO7 HB7
            have g0 := HR6.out.c0
            have g2 := HR6.out.c2

            try rw [hW6]
            clear hW6 d0 d1 d2 d3 d4 f4
            go_region_with (first
              | (go_at_call 121; refine (HCall.out _).mono ?_; rintro ee w8 ⟨rfl, hb8⟩; have T2 := Row5.below (show Row5 W6.drew _ _ _ _ _ _ from HR7.out) hb8; have HT2 := Lib.hid T2; have HW8 := Lib.hid (HB7.out.drew.trans (hb8.mono (by have := HB7.out.size; have := HQ.out; show q ≤ W6.heap.size; omega))); have u0 := T2.c0; have u1 := T2.c1; have u2 := T2.c2; have u3 := T2.c3; have u4 := T2.c4; have y0 := T2.fz 0; have y1 := T2.fz 1; have y2 := T2.fz 2; have y3 := T2.fz 3; have y4 := T2.fz 4; clear T2 hb8))
            all_goals
              go_wp2
              have hk8 : ∀ g, q + 1 < g → (st5 w8 (q + 1) 0 (.int .i64 K) (.bool false) (.int .u64 N) (.string ⟨#[]⟩) (.slice none 0 0)).heap[g]? = w8.heap[g]? := fun g hg => st5_heap (by omega)
              have hsz8 : (st5 w8 (q + 1) 0 (.int .i64 K) (.bool false) (.int .u64 N) (.string ⟨#[]⟩) (.slice none 0 0)).heap.size = w8.heap.size := st5_size
              have h7 := st5_row (v0 := (.int .i64 K)) (v1 := (.bool false)) (v2 := (.int .u64 N)) (v3 := (.string ⟨#[]⟩)) (v4 := (.slice none 0 0)) HT2.out
              have hb7 := st5_below (b := q + 1) (o := 0) (v0 := (.int .i64 K)) (v1 := (.bool false)) (v2 := (.int .u64 N)) (v3 := (.string ⟨#[]⟩)) (v4 := (.slice none 0 0)) HW8.out (by omega)
              change bodyPost _ _ _ _ _ (st5 w8 (q + 1) 0 (.int .i64 K) (.bool false) (.int .u64 N) (.string ⟨#[]⟩) (.slice none 0 0))
              generalize st5 w8 (q + 1) 0 (.int .i64 K) (.bool false) (.int .u64 N) (.string ⟨#[]⟩) (.slice none 0 0) = W7 at h7 hb7 hk8 hsz8 ⊢
              have e0 := h7.c0
              have e1 := h7.c1
              have e2 := h7.c2
              have e3 := h7.c3
              have e4 := h7.c4
              refine bodyPost_ret (v := .tuple #[.agg #[(.int .i64 K), (.bool false), (.int .u64 N), (.string ⟨#[]⟩), (.slice none 0 0)], .nilIface]) (by simp [results, Tryz.results82, go_sem, e0, e1, e2, e3, e4]) rfl ⟨by rw [HQ.out]; exact hb7, ?_⟩
              rw [HEl.out]
              exact ⟨none, 0, rfl, Nat.le_refl _, by simp [Tree]⟩

        by_cases htag : k = 13 ∧ n / 2 = 1 ∧ (l'.getD 0 default).f0 = 9
        · obtain ⟨h13, hn1, h9⟩ := htag
          have hkf : ¬ (6 ≤ k ∧ k ≤ 8) := hf
          subst h13
          have hj0 : 0 < j := by rw [← hm]; exact tg1 rfl
          have hj0z : (0 : Int) < (j : Int) := by omega
          obtain ⟨z0, hz0⟩ : ∃ z, r[0]? = some z := ⟨_, List.getElem?_eq_getElem (by rw [HR.out]; exact hj0)⟩
          have HZ0 : l'.getD 0 default = z0.1 := by rw [← HL'.out, List.getD_eq_getElem?_getD, List.getElem?_map, hz0]; rfl
          have HEl : Hid (plainF ⟨13, neg, n, s, l⟩ = some (numberF n z0.1.f3)) := Lib.hid (by rw [HPF.out, plainK, if_neg hf, if_pos ⟨rfl, hn1, h9⟩, HZ0])
          have n1 : (n / 2 == 1) = true := by simpa using hn1
          rw [HZ0] at h9
          have hsz3 : z0.1.f3.size ≤ 4294967296 := by
            have h1 := own_bulk z0.1
            have h2 := bulkL_mem (show z0.1 ∈ l' by rw [← HL'.out]; exact List.mem_map_of_mem (List.mem_of_getElem? hz0))
            have := HOk.out.2
            omega
          obtain ⟨S3, hS3⟩ : ∃ S3, z0.1.f3 = S3 := ⟨_, rfl⟩
          have v0 : wr.cell? ⟨q3, 0, none⟩ = some (.int .i64 9) := by have := row_cells HO1.out hz0 (j := 0) rfl; rw [Nat.zero_mul, h9] at this; exact this
          have v3 : wr.cell? ⟨q3, 3, none⟩ = some (.string S3) := by have := row_cells HO1.out hz0 (j := 3) rfl; rw [Nat.zero_mul, hS3] at this; exact this
          have i0 : (wr.setCell ⟨q, 4, none⟩ (.slice (some ⟨q3, 0, none⟩) j j)).cell? ⟨q3, 0, none⟩ = some (.int .i64 9) := by have := row_cells HO7.out hz0 (j := 0) rfl; rw [Nat.zero_mul, h9] at this; exact this
          have i3 : (wr.setCell ⟨q, 4, none⟩ (.slice (some ⟨q3, 0, none⟩) j j)).cell? ⟨q3, 3, none⟩ = some (.string S3) := by have := row_cells HO7.out hz0 (j := 3) rfl; rw [Nat.zero_mul, hS3] at this; exact this
          rw [hS3] at HEl hsz3
          have hCall : ∀ W, Calls Tryz.prog 122 #[.int .u64 n, .string S3] W (NewTree (numberF n S3) W) := fun W => dnumber_any n S3 hsz3 W
          obtain ⟨N, hN⟩ : ∃ N, numberF n S3 = N := ⟨_, rfl⟩
          rw [hN] at HEl hCall
          have HCall := Lib.hid hCall
          clear hz0 HZ0 h9 hS3 hN hCall hn1 hf hkf hm
          go_wp2_with fail
          obtain ⟨W6, hW6⟩ : ∃ W, wr.setCell ⟨q, 4, none⟩ (.slice (some ⟨q3, 0, none⟩) j j) = W := ⟨_, rfl⟩
          rw [hW6] at HR6 HR7 HO7 HB7
          have g0 := HR6.out.c0
          have g2 := HR6.out.c2

          rw [hW6] at i0 i3
          try rw [hW6]
          clear hW6 d0 d1 d2 d3 d4 f4 v0 v3
          go_region_with (first
            | (go_at_call 122; refine (HCall.out _).mono ?_; rintro ee w8 ⟨a8, c8, rfl, hrow8, hb8⟩; have T2 := Row5.below (show Row5 W6.drew _ _ _ _ _ _ from HR7.out) hb8; have HT2 := Lib.hid T2; have HW8 := Lib.hid (HB7.out.drew.trans (hb8.mono (by have := HB7.out.size; have := HQ.out; show q ≤ W6.heap.size; omega))); have HX8 := Lib.hid hrow8; have u0 := T2.c0; have u1 := T2.c1; have u2 := T2.c2; have u3 := T2.c3; have u4 := T2.c4; have y0 := T2.fz 0; have y1 := T2.fz 1; have y2 := T2.fz 2; have y3 := T2.fz 3; have y4 := T2.fz 4; clear T2 hb8 hrow8))
          all_goals
            go_wp2
            have hk8 : ∀ g, q + 1 < g → (st5 w8 (q + 1) 0 (.int .i64 N.f0) (.bool N.f1) (.int .u64 N.f2) (.string N.f3) (.slice a8 N.f4.length c8)).heap[g]? = w8.heap[g]? := fun g hg => st5_heap (by omega)
            have hsz8 : (st5 w8 (q + 1) 0 (.int .i64 N.f0) (.bool N.f1) (.int .u64 N.f2) (.string N.f3) (.slice a8 N.f4.length c8)).heap.size = w8.heap.size := st5_size
            have h7 := st5_row (v0 := (.int .i64 N.f0)) (v1 := (.bool N.f1)) (v2 := (.int .u64 N.f2)) (v3 := (.string N.f3)) (v4 := (.slice a8 N.f4.length c8)) HT2.out
            have hb7 := st5_below (b := q + 1) (o := 0) (v0 := (.int .i64 N.f0)) (v1 := (.bool N.f1)) (v2 := (.int .u64 N.f2)) (v3 := (.string N.f3)) (v4 := (.slice a8 N.f4.length c8)) HW8.out (by omega)
            change bodyPost _ _ _ _ _ (st5 w8 (q + 1) 0 (.int .i64 N.f0) (.bool N.f1) (.int .u64 N.f2) (.string N.f3) (.slice a8 N.f4.length c8))
            generalize st5 w8 (q + 1) 0 (.int .i64 N.f0) (.bool N.f1) (.int .u64 N.f2) (.string N.f3) (.slice a8 N.f4.length c8) = W7 at h7 hb7 hk8 hsz8 ⊢
            have e0 := h7.c0
            have e1 := h7.c1
            have e2 := h7.c2
            have e3 := h7.c3
            have e4 := h7.c4
            refine bodyPost_ret (v := .tuple #[.agg #[(.int .i64 N.f0), (.bool N.f1), (.int .u64 N.f2), (.string N.f3), (.slice a8 N.f4.length c8)], .nilIface]) (by simp [results, Tryz.results82, go_sem, e0, e1, e2, e3, e4]) rfl ⟨by rw [HQ.out]; exact hb7, ?_⟩
            rw [HEl.out]
            have h6s : q + 1 < W6.heap.size := HR7.out.lt
            exact ⟨a8, c8, rfl, HX8.out.keep (fun g hg => ⟨by have := HQ.out; have h9 : W6.heap.size ≤ g := hg.1; omega, by have := hg.2; omega⟩) (fun g hg => hk8 g (by have h9 : W6.heap.size ≤ g := hg.1; omega))⟩

        by_cases hmap : k = 12
        · subst hmap
          have hS := sorted_any r q j j (some ⟨q3, 0, none⟩) (wr.setCell ⟨q, 4, none⟩ (.slice (some ⟨q3, 0, none⟩) j j)) (fun g => q3 < g ∧ g < (wr.setCell ⟨q, 4, none⟩ (.slice (some ⟨q3, 0, none⟩) j j)).heap.size) (fun g h => h.2) HR.out (by omega) HO7.out HX7.out (fun x hx => wfL_mem HOk.out.1 (by rw [← HL'.out]; exact List.mem_map_of_mem hx)) (fun x hx => by have := bulkL_mem (show x.1 ∈ l' by rw [← HL'.out]; exact List.mem_map_of_mem hx); have := HOk.out.2; omega)
          unfold SortPost at hS
          rw [HL'.out] at hS
          have hn1 : ∀ (v : Value) (w : World), (binOp BinOp.neq 88 (.iface 147 v) .nilIface).run Tryz.prog w = .ok (.bool true) w := fun _ _ => by kernel_rfl
          cases hso : sortedF l' with
          | none =>
            rw [hso] at hS
            have HS := Lib.hid hS
            have HEl : Hid (plainF ⟨12, neg, n, s, l⟩ = none) := Lib.hid (by rw [HPF.out, plainK, if_neg hf, if_neg htag, if_pos rfl, hso]; rfl)
            clear hS hso hf htag hm
            go_wp2_with (go_at_call 123; refine HS.out.mono ?_; rintro ee w8 ⟨hb8, rfl⟩; have T1 := HR6.out.below hb8; have T2 := HR7.out.below hb8; have HT2 := Lib.hid T2; have HSB := Lib.hid hb8; have HW8 := Lib.hid (HB7.out.trans (hb8.mono (by have := HQ3.out; simp; omega))); have s0 := T1.c0; have s1 := T1.c1; have s2 := T1.c2; have s3 := T1.c3; have s4 := T1.c4; have s5 := T1.fz 4; have u0 := T2.c0; have u1 := T2.c1; have u2 := T2.c2; have u3 := T2.c3; have u4 := T2.c4; have y0 := T2.fz 0; have y1 := T2.fz 1; have y2 := T2.fz 2; have y3 := T2.fz 3; have y4 := T2.fz 4; clear T1 T2 hb8)
            have hE : (st5 (w8.setCell ⟨q, 4, none⟩ (.slice none 0 0)) (q + 1) 0 (.int .i64 12) (.bool neg) (.int .u64 n) (.string s) (.slice none 0 0)).heap.size = w8.heap.size := by rw [st5_size]; simp
            have h7 := st5_row (v0 := .int .i64 12) (v1 := .bool neg) (v2 := .int .u64 n) (v3 := .string s) (v4 := .slice none 0 0) (HT2.out.far (p := ⟨q, 4, none⟩) (by show q + 1 ≠ q; omega) (.slice none 0 0))
            have hb7 := st5_below (b := q + 1) (o := 0) (v0 := .int .i64 12) (v1 := .bool neg) (v2 := .int .u64 n) (v3 := .string s) (v4 := .slice none 0 0) (HW8.out.setCell (p := ⟨q, 4, none⟩) (Nat.le_refl _) (.slice none 0 0)) (by omega)
            change bodyPost _ _ _ _ _ (st5 (w8.setCell ⟨q, 4, none⟩ (.slice none 0 0)) (q + 1) 0 (.int .i64 12) (.bool neg) (.int .u64 n) (.string s) (.slice none 0 0))
            generalize st5 (w8.setCell ⟨q, 4, none⟩ (.slice none 0 0)) (q + 1) 0 (.int .i64 12) (.bool neg) (.int .u64 n) (.string s) (.slice none 0 0) = W7 at h7 hb7 ⊢
            have e0 := h7.c0
            have e1 := h7.c1
            have e2 := h7.c2
            have e3 := h7.c3
            have e4 := h7.c4
            refine bodyPost_ret (v := .tuple #[.agg #[.int .i64 12, .bool neg, .int .u64 n, .string s, .slice none 0 0], .iface 147 (.agg #[.iface 27 (.int .i64 4)])]) (by simp [results, Tryz.results82, go_sem, e0, e1, e2, e3, e4]) rfl ⟨by rw [HQ.out]; exact hb7, ?_⟩
            rw [HEl.out]
            exact ⟨⟨12, neg, n, s, []⟩, none, 0, rfl⟩
          | some ms =>
            rw [hso] at hS
            have HS := Lib.hid hS
            have HEl : Hid (plainF ⟨12, neg, n, s, l⟩ = some ⟨12, neg, n, s, ms⟩) := Lib.hid (by rw [HPF.out, plainK, if_neg hf, if_neg htag, if_pos rfl, hso]; rfl)
            clear hS hso hf htag hm
            go_wp2_with (go_at_call 123; refine HS.out.mono ?_; rintro ee w8 ⟨hb8, sa, sc, rows', rfl, hsm, hso, hsx⟩; have HSO := Lib.hid hso; have HSX := Lib.hid hsx; have HSM := Lib.hid hsm; clear hso hsx hsm; have T1 := HR6.out.below hb8; have T2 := HR7.out.below hb8; have HT2 := Lib.hid T2; have HSB := Lib.hid hb8; have HW8 := Lib.hid (HB7.out.trans (hb8.mono (by have := HQ3.out; simp; omega))); have s0 := T1.c0; have s1 := T1.c1; have s2 := T1.c2; have s3 := T1.c3; have s4 := T1.c4; have s5 := T1.fz 4; have u0 := T2.c0; have u1 := T2.c1; have u2 := T2.c2; have u3 := T2.c3; have u4 := T2.c4; have y0 := T2.fz 0; have y1 := T2.fz 1; have y2 := T2.fz 2; have y3 := T2.fz 3; have y4 := T2.fz 4; clear T1 T2 hb8)
            have h7 := st5_row (v0 := .int .i64 12) (v1 := .bool neg) (v2 := .int .u64 n) (v3 := .string s) (v4 := .slice sa ms.length sc) (HT2.out.far (p := ⟨q, 4, none⟩) (by show q + 1 ≠ q; omega) (.slice sa ms.length sc))
            have hb7 := st5_below (b := q + 1) (o := 0) (v0 := .int .i64 12) (v1 := .bool neg) (v2 := .int .u64 n) (v3 := .string s) (v4 := .slice sa ms.length sc) (HW8.out.setCell (p := ⟨q, 4, none⟩) (Nat.le_refl _) (.slice sa ms.length sc)) (by omega)
            have hkp : ∀ g, q + 1 < g → (st5 (w8.setCell ⟨q, 4, none⟩ (.slice sa ms.length sc)) (q + 1) 0 (.int .i64 12) (.bool neg) (.int .u64 n) (.string s) (.slice sa ms.length sc)).heap[g]? = w8.heap[g]? := fun g hg => (st5_heap (by omega)).trans (Below.heap_setCell _ ⟨q, 4, none⟩ _ g (by show g ≠ q; omega))
            have hsz8 : (st5 (w8.setCell ⟨q, 4, none⟩ (.slice sa ms.length sc)) (q + 1) 0 (.int .i64 12) (.bool neg) (.int .u64 n) (.string s) (.slice sa ms.length sc)).heap.size = w8.heap.size := by rw [st5_size]; simp
            change bodyPost _ _ _ _ _ (st5 (w8.setCell ⟨q, 4, none⟩ (.slice sa ms.length sc)) (q + 1) 0 (.int .i64 12) (.bool neg) (.int .u64 n) (.string s) (.slice sa ms.length sc))
            generalize st5 (w8.setCell ⟨q, 4, none⟩ (.slice sa ms.length sc)) (q + 1) 0 (.int .i64 12) (.bool neg) (.int .u64 n) (.string s) (.slice sa ms.length sc) = W7 at h7 hb7 hkp hsz8 ⊢
            have e0 := h7.c0
            have e1 := h7.c1
            have e2 := h7.c2
            have e3 := h7.c3
            have e4 := h7.c4
            refine bodyPost_ret (v := .tuple #[.agg #[.int .i64 12, .bool neg, .int .u64 n, .string s, .slice sa ms.length sc], .nilIface]) (by simp [results, Tryz.results82, go_sem, e0, e1, e2, e3, e4]) rfl ⟨by rw [HQ.out]; exact hb7, ?_⟩
            rw [HEl.out]
            have h6s : (wr.setCell ⟨q, 4, none⟩ (.slice (some ⟨q3, 0, none⟩) j j)).heap.size = wr.heap.size := by simp
            have hq3s := HQ3.out
            refine ⟨sa, sc, rfl, list_new2 (own_move HSO.out fun t ht => hkp t (by have := own_base HSO.out t ht; omega)) HSM.out rfl (fun z hz => (HSX.out z hz).keep (fun g hg => hg) (fun g hg => hkp g (by have := hg.1; omega))) (fun g hg => ⟨by have := HQ.out; have := hg.1; omega, by have := hg.2; have := HSB.out.size; omega⟩) (by have := HQ.out; omega)⟩

        have HEl : Hid (plainF ⟨k, neg, n, s, l⟩ = some ⟨k, neg, n, s, l'⟩) := Lib.hid (by rw [HPF.out, plainK, if_neg hf, if_neg htag, if_neg hmap])
        have k12 : (k == 12) = false := by simpa using hmap
        by_cases h6 : 6 ≤ k
        · have h8 : ¬ k ≤ 8 := fun h => hf ⟨h6, h⟩
          by_cases h13 : k = 13
          · have k13 : (k == 13) = true := by simpa using h13
            have hj0 : 0 < j := by rw [← hm]; exact tg1 h13
            have hj0z : (0 : Int) < (j : Int) := by omega
            obtain ⟨z0, hz0⟩ : ∃ z, r[0]? = some z := ⟨_, List.getElem?_eq_getElem (by rw [HR.out]; exact hj0)⟩
            have HZ0 : Hid (l'.getD 0 default = z0.1) := Lib.hid (by rw [← HL'.out, List.getD_eq_getElem?_getD, List.getElem?_map, hz0]; rfl)
            have v0 : wr.cell? ⟨q3, 0, none⟩ = some (.int .i64 z0.1.f0) := by have := row_cells HO1.out hz0 (j := 0) rfl; rw [Nat.zero_mul] at this; exact this
            have v3 : wr.cell? ⟨q3, 3, none⟩ = some (.string z0.1.f3) := by have := row_cells HO1.out hz0 (j := 3) rfl; rw [Nat.zero_mul] at this; exact this
            clear hz0

            by_cases hn1 : n / 2 = 1
            · have n1 : (n / 2 == 1) = true := by simpa using hn1
              have z9 : (z0.1.f0 == 9) = false := by
                rw [beq_eq_false_iff_ne]
                intro h
                exact htag ⟨h13, hn1, by rw [HZ0.out]; exact h⟩
              clear hf htag hmap h13 hm hn1
              have u0 := HR2.out.c0
              have y0 := HR2.out.fz 0
              have u1 := HR2.out.c1
              have y1 := HR2.out.fz 1
              have u2 := HR2.out.c2
              have y2 := HR2.out.fz 2
              have u3 := HR2.out.c3
              have y3 := HR2.out.fz 3
              have u4 := HR2.out.c4
              have y4 := HR2.out.fz 4
              go_wp2
              have h7 := st5_row (v0 := .int .i64 k) (v1 := .bool neg) (v2 := .int .u64 n) (v3 := .string s) (v4 := .slice (some ⟨q3, 0, none⟩) j j) HR7.out
              have hb7 := st5_below (b := q + 1) (o := 0) (v0 := .int .i64 k) (v1 := .bool neg) (v2 := .int .u64 n) (v3 := .string s) (v4 := .slice (some ⟨q3, 0, none⟩) j j) HB7.out (by omega)
              have ho7 := own_move HO7.out (w1 := st5 (wr.setCell ⟨q, 4, none⟩ (.slice (some ⟨q3, 0, none⟩) j j)) (q + 1) 0 (.int .i64 k) (.bool neg) (.int .u64 n) (.string s) (.slice (some ⟨q3, 0, none⟩) j j)) (fun t ht => st5_heap (by have h1 : q3 = t := Option.some.inj ht; have := HQ3.out; omega))
              have hx7 : ∀ z ∈ r, RowOk (st5 (wr.setCell ⟨q, 4, none⟩ (.slice (some ⟨q3, 0, none⟩) j j)) (q + 1) 0 (.int .i64 k) (.bool neg) (.int .u64 n) (.string s) (.slice (some ⟨q3, 0, none⟩) j j)) (New w (st5 (wr.setCell ⟨q, 4, none⟩ (.slice (some ⟨q3, 0, none⟩) j j)) (q + 1) 0 (.int .i64 k) (.bool neg) (.int .u64 n) (.string s) (.slice (some ⟨q3, 0, none⟩) j j))) z := fun z hz => (HX7.out z hz).keep (fun g hg => ⟨by have := HQ.out; have := HQ3.out; have := hg.1; omega, by rw [st5_size]; exact hg.2⟩) (fun g hg => st5_heap (by have := HQ3.out; have := hg.1; omega))
              change bodyPost _ _ _ _ _ (st5 (wr.setCell ⟨q, 4, none⟩ (.slice (some ⟨q3, 0, none⟩) j j)) (q + 1) 0 (.int .i64 k) (.bool neg) (.int .u64 n) (.string s) (.slice (some ⟨q3, 0, none⟩) j j))
              generalize st5 (wr.setCell ⟨q, 4, none⟩ (.slice (some ⟨q3, 0, none⟩) j j)) (q + 1) 0 (.int .i64 k) (.bool neg) (.int .u64 n) (.string s) (.slice (some ⟨q3, 0, none⟩) j j) = W7 at h7 hb7 ho7 hx7 ⊢
              have e0 := h7.c0
              have e1 := h7.c1
              have e2 := h7.c2
              have e3 := h7.c3
              have e4 := h7.c4
              refine bodyPost_ret (v := .tuple #[.agg #[.int .i64 k, .bool neg, .int .u64 n, .string s, .slice (some ⟨q3, 0, none⟩) j j], .nilIface]) (by simp [results, Tryz.results82, go_sem, e0, e1, e2, e3, e4]) rfl ⟨by rw [HQ.out]; exact hb7, ?_⟩
              have hEl := HEl.out
              rw [hEl]
              have hnew := list_new (k := k) (neg := neg) (n := n) (s := s) (w := w) ho7 HR.out hx7 (fun g h => h) (by have := HQ.out; have := HQ3.out; omega) (by omega)
              rw [HL'.out] at hnew
              exact ⟨some ⟨q3, 0, none⟩, j, by rw [HLL.out], hnew⟩

            · have n1 : (n / 2 == 1) = false := by simpa using hn1
              clear hf htag hmap h13 hm hn1
              have u0 := HR2.out.c0
              have y0 := HR2.out.fz 0
              have u1 := HR2.out.c1
              have y1 := HR2.out.fz 1
              have u2 := HR2.out.c2
              have y2 := HR2.out.fz 2
              have u3 := HR2.out.c3
              have y3 := HR2.out.fz 3
              have u4 := HR2.out.c4
              have y4 := HR2.out.fz 4
              go_wp2
              have h7 := st5_row (v0 := .int .i64 k) (v1 := .bool neg) (v2 := .int .u64 n) (v3 := .string s) (v4 := .slice (some ⟨q3, 0, none⟩) j j) HR7.out
              have hb7 := st5_below (b := q + 1) (o := 0) (v0 := .int .i64 k) (v1 := .bool neg) (v2 := .int .u64 n) (v3 := .string s) (v4 := .slice (some ⟨q3, 0, none⟩) j j) HB7.out (by omega)
              have ho7 := own_move HO7.out (w1 := st5 (wr.setCell ⟨q, 4, none⟩ (.slice (some ⟨q3, 0, none⟩) j j)) (q + 1) 0 (.int .i64 k) (.bool neg) (.int .u64 n) (.string s) (.slice (some ⟨q3, 0, none⟩) j j)) (fun t ht => st5_heap (by have h1 : q3 = t := Option.some.inj ht; have := HQ3.out; omega))
              have hx7 : ∀ z ∈ r, RowOk (st5 (wr.setCell ⟨q, 4, none⟩ (.slice (some ⟨q3, 0, none⟩) j j)) (q + 1) 0 (.int .i64 k) (.bool neg) (.int .u64 n) (.string s) (.slice (some ⟨q3, 0, none⟩) j j)) (New w (st5 (wr.setCell ⟨q, 4, none⟩ (.slice (some ⟨q3, 0, none⟩) j j)) (q + 1) 0 (.int .i64 k) (.bool neg) (.int .u64 n) (.string s) (.slice (some ⟨q3, 0, none⟩) j j))) z := fun z hz => (HX7.out z hz).keep (fun g hg => ⟨by have := HQ.out; have := HQ3.out; have := hg.1; omega, by rw [st5_size]; exact hg.2⟩) (fun g hg => st5_heap (by have := HQ3.out; have := hg.1; omega))
              change bodyPost _ _ _ _ _ (st5 (wr.setCell ⟨q, 4, none⟩ (.slice (some ⟨q3, 0, none⟩) j j)) (q + 1) 0 (.int .i64 k) (.bool neg) (.int .u64 n) (.string s) (.slice (some ⟨q3, 0, none⟩) j j))
              generalize st5 (wr.setCell ⟨q, 4, none⟩ (.slice (some ⟨q3, 0, none⟩) j j)) (q + 1) 0 (.int .i64 k) (.bool neg) (.int .u64 n) (.string s) (.slice (some ⟨q3, 0, none⟩) j j) = W7 at h7 hb7 ho7 hx7 ⊢
              have e0 := h7.c0
              have e1 := h7.c1
              have e2 := h7.c2
              have e3 := h7.c3
              have e4 := h7.c4
              refine bodyPost_ret (v := .tuple #[.agg #[.int .i64 k, .bool neg, .int .u64 n, .string s, .slice (some ⟨q3, 0, none⟩) j j], .nilIface]) (by simp [results, Tryz.results82, go_sem, e0, e1, e2, e3, e4]) rfl ⟨by rw [HQ.out]; exact hb7, ?_⟩
              have hEl := HEl.out
              rw [hEl]
              have hnew := list_new (k := k) (neg := neg) (n := n) (s := s) (w := w) ho7 HR.out hx7 (fun g h => h) (by have := HQ.out; have := HQ3.out; omega) (by omega)
              rw [HL'.out] at hnew
              exact ⟨some ⟨q3, 0, none⟩, j, by rw [HLL.out], hnew⟩

          · have k13 : (k == 13) = false := by simpa using h13
            clear hf htag hmap h13 hm
            have u0 := HR2.out.c0
            have y0 := HR2.out.fz 0
            have u1 := HR2.out.c1
            have y1 := HR2.out.fz 1
            have u2 := HR2.out.c2
            have y2 := HR2.out.fz 2
            have u3 := HR2.out.c3
            have y3 := HR2.out.fz 3
            have u4 := HR2.out.c4
            have y4 := HR2.out.fz 4
            go_wp2
            have h7 := st5_row (v0 := .int .i64 k) (v1 := .bool neg) (v2 := .int .u64 n) (v3 := .string s) (v4 := .slice (some ⟨q3, 0, none⟩) j j) HR7.out
            have hb7 := st5_below (b := q + 1) (o := 0) (v0 := .int .i64 k) (v1 := .bool neg) (v2 := .int .u64 n) (v3 := .string s) (v4 := .slice (some ⟨q3, 0, none⟩) j j) HB7.out (by omega)
            have ho7 := own_move HO7.out (w1 := st5 (wr.setCell ⟨q, 4, none⟩ (.slice (some ⟨q3, 0, none⟩) j j)) (q + 1) 0 (.int .i64 k) (.bool neg) (.int .u64 n) (.string s) (.slice (some ⟨q3, 0, none⟩) j j)) (fun t ht => st5_heap (by have h1 : q3 = t := Option.some.inj ht; have := HQ3.out; omega))
            have hx7 : ∀ z ∈ r, RowOk (st5 (wr.setCell ⟨q, 4, none⟩ (.slice (some ⟨q3, 0, none⟩) j j)) (q + 1) 0 (.int .i64 k) (.bool neg) (.int .u64 n) (.string s) (.slice (some ⟨q3, 0, none⟩) j j)) (New w (st5 (wr.setCell ⟨q, 4, none⟩ (.slice (some ⟨q3, 0, none⟩) j j)) (q + 1) 0 (.int .i64 k) (.bool neg) (.int .u64 n) (.string s) (.slice (some ⟨q3, 0, none⟩) j j))) z := fun z hz => (HX7.out z hz).keep (fun g hg => ⟨by have := HQ.out; have := HQ3.out; have := hg.1; omega, by rw [st5_size]; exact hg.2⟩) (fun g hg => st5_heap (by have := HQ3.out; have := hg.1; omega))
            change bodyPost _ _ _ _ _ (st5 (wr.setCell ⟨q, 4, none⟩ (.slice (some ⟨q3, 0, none⟩) j j)) (q + 1) 0 (.int .i64 k) (.bool neg) (.int .u64 n) (.string s) (.slice (some ⟨q3, 0, none⟩) j j))
            generalize st5 (wr.setCell ⟨q, 4, none⟩ (.slice (some ⟨q3, 0, none⟩) j j)) (q + 1) 0 (.int .i64 k) (.bool neg) (.int .u64 n) (.string s) (.slice (some ⟨q3, 0, none⟩) j j) = W7 at h7 hb7 ho7 hx7 ⊢
            have e0 := h7.c0
            have e1 := h7.c1
            have e2 := h7.c2
            have e3 := h7.c3
            have e4 := h7.c4
            refine bodyPost_ret (v := .tuple #[.agg #[.int .i64 k, .bool neg, .int .u64 n, .string s, .slice (some ⟨q3, 0, none⟩) j j], .nilIface]) (by simp [results, Tryz.results82, go_sem, e0, e1, e2, e3, e4]) rfl ⟨by rw [HQ.out]; exact hb7, ?_⟩
            have hEl := HEl.out
            rw [hEl]
            have hnew := list_new (k := k) (neg := neg) (n := n) (s := s) (w := w) ho7 HR.out hx7 (fun g h => h) (by have := HQ.out; have := HQ3.out; omega) (by omega)
            rw [HL'.out] at hnew
            exact ⟨some ⟨q3, 0, none⟩, j, by rw [HLL.out], hnew⟩

        · have k13 : (k == 13) = false := by simpa using (show k ≠ 13 by omega)
          clear hf htag hmap hm
          have u0 := HR2.out.c0
          have y0 := HR2.out.fz 0
          have u1 := HR2.out.c1
          have y1 := HR2.out.fz 1
          have u2 := HR2.out.c2
          have y2 := HR2.out.fz 2
          have u3 := HR2.out.c3
          have y3 := HR2.out.fz 3
          have u4 := HR2.out.c4
          have y4 := HR2.out.fz 4
          go_wp2
          have h7 := st5_row (v0 := .int .i64 k) (v1 := .bool neg) (v2 := .int .u64 n) (v3 := .string s) (v4 := .slice (some ⟨q3, 0, none⟩) j j) HR7.out
          have hb7 := st5_below (b := q + 1) (o := 0) (v0 := .int .i64 k) (v1 := .bool neg) (v2 := .int .u64 n) (v3 := .string s) (v4 := .slice (some ⟨q3, 0, none⟩) j j) HB7.out (by omega)
          have ho7 := own_move HO7.out (w1 := st5 (wr.setCell ⟨q, 4, none⟩ (.slice (some ⟨q3, 0, none⟩) j j)) (q + 1) 0 (.int .i64 k) (.bool neg) (.int .u64 n) (.string s) (.slice (some ⟨q3, 0, none⟩) j j)) (fun t ht => st5_heap (by have h1 : q3 = t := Option.some.inj ht; have := HQ3.out; omega))
          have hx7 : ∀ z ∈ r, RowOk (st5 (wr.setCell ⟨q, 4, none⟩ (.slice (some ⟨q3, 0, none⟩) j j)) (q + 1) 0 (.int .i64 k) (.bool neg) (.int .u64 n) (.string s) (.slice (some ⟨q3, 0, none⟩) j j)) (New w (st5 (wr.setCell ⟨q, 4, none⟩ (.slice (some ⟨q3, 0, none⟩) j j)) (q + 1) 0 (.int .i64 k) (.bool neg) (.int .u64 n) (.string s) (.slice (some ⟨q3, 0, none⟩) j j))) z := fun z hz => (HX7.out z hz).keep (fun g hg => ⟨by have := HQ.out; have := HQ3.out; have := hg.1; omega, by rw [st5_size]; exact hg.2⟩) (fun g hg => st5_heap (by have := HQ3.out; have := hg.1; omega))
          change bodyPost _ _ _ _ _ (st5 (wr.setCell ⟨q, 4, none⟩ (.slice (some ⟨q3, 0, none⟩) j j)) (q + 1) 0 (.int .i64 k) (.bool neg) (.int .u64 n) (.string s) (.slice (some ⟨q3, 0, none⟩) j j))
          generalize st5 (wr.setCell ⟨q, 4, none⟩ (.slice (some ⟨q3, 0, none⟩) j j)) (q + 1) 0 (.int .i64 k) (.bool neg) (.int .u64 n) (.string s) (.slice (some ⟨q3, 0, none⟩) j j) = W7 at h7 hb7 ho7 hx7 ⊢
          have e0 := h7.c0
          have e1 := h7.c1
          have e2 := h7.c2
          have e3 := h7.c3
          have e4 := h7.c4
          refine bodyPost_ret (v := .tuple #[.agg #[.int .i64 k, .bool neg, .int .u64 n, .string s, .slice (some ⟨q3, 0, none⟩) j j], .nilIface]) (by simp [results, Tryz.results82, go_sem, e0, e1, e2, e3, e4]) rfl ⟨by rw [HQ.out]; exact hb7, ?_⟩
          have hEl := HEl.out
          rw [hEl]
          have hnew := list_new (k := k) (neg := neg) (n := n) (s := s) (w := w) ho7 HR.out hx7 (fun g h => h) (by have := HQ.out; have := HQ3.out; omega) (by omega)
          rw [HL'.out] at hnew
          exact ⟨some ⟨q3, 0, none⟩, j, by rw [HLL.out], hnew⟩

end Go.Proofs.YtfmceonbejlhlaaGreatDoor

/-
  errors.Is at det's refusal (the first round of told), and told.
-/
namespace Go.Proofs.YtfmceonbejlhlaaGreatDoor
open Go.RowKit Go.Extern.Stop Go.Stop Go.Extern
set_option linter.unusedVariables false

theorem ko_typeOf (v : Value) (w : World) : (Extern.ReflectliteType.typeOf #[.iface 27 v]).run Tryz.prog w = .ok (.iface 196 (.agg #[.pointer (some ⟨6, 27, none⟩)])) w := by kernel_rfl
def koM : Array Value → Sem Value := Extern.ReflectliteType.method fun t => do Rtype.noPackHeld "Comparable" t; pure (.bool (← typeInfo t).comparable)
theorem ko_comparable (w : World) : (koM #[.agg #[.pointer (some ⟨6, 27, none⟩)]]).run Tryz.prog w = .ok (.bool true) w := by unfold koM; kernel_rfl
theorem ko_method (v : Value) (w : World) : (Go.method (Tryz.prog.types.size + Made.depth) 196 v "Comparable").run Tryz.prog w = .ok (241, v) w := by kernel_rfl
theorem ko_unwrap (v : Value) (w : World) : (Go.method (Tryz.prog.types.size + Made.depth) 147 v "Unwrap").run Tryz.prog w = .ok (237, v) w := by kernel_rfl
theorem ko_noIs (v : Value) (xT : TypeId) (w : World) : (Instr.typeAssert (.iface 147 v) xT 265 true).run Tryz.prog w = .ok (.tuple #[.nilIface, .bool false]) w := run_typeAssert_lacksB Tryz.underlying265 (by kernel_rfl) (by kernel_rfl) v xT w
theorem ko_hasUnwrap (v : Value) (xT : TypeId) (w : World) : (Instr.typeAssert (.iface 147 v) xT 204 true).run Tryz.prog w = .ok (.tuple #[.iface 147 v, .bool true]) w := run_typeAssert_hasB Tryz.underlying204 (by kernel_rfl) v xT w
theorem ko_ne (v v' : Value) (w : World) : (binOp .eql 88 (.iface 147 v) (.iface 27 v')).run Tryz.prog w = .ok (.bool false) w := by kernel_rfl
theorem ko_eq (w : World) : (binOp .eql 88 (.iface 27 (.int .i64 4)) (.iface 27 (.int .i64 4))).run Tryz.prog w = .ok (.bool true) w := by kernel_rfl
theorem ko_nil (v : Value) (w : World) : (binOp .eql 88 (.iface 27 v) .nilIface).run Tryz.prog w = .ok (.bool false) w := by kernel_rfl
theorem ko_nil2 (v : Value) (w : World) : (binOp .eql 88 (.iface 147 v) .nilIface).run Tryz.prog w = .ok (.bool false) w := by kernel_rfl

theorem ko_index (w : World) : (Instr.index 148 (.agg #[.int .i64 4, .int .i64 10, .int .i64 2, .int .i64 9]) (.int .i64 0)).run Tryz.prog w = .ok (.int .i64 4) w := by kernel_rfl

/-- errors.is at det's refusal. -/
theorem is_refusal (w : World) : Calls Tryz.prog 124 #[refusal, .iface 27 (.int .i64 4), .bool true] w fun e w' => e = .returned (.bool true) ∧ Below w.heap.size w w' := by
  have h1 := ko_noIs
  have h2 := ko_hasUnwrap
  have h3 := ko_ne
  have h4 := ko_eq
  have h5 := ko_nil
  have hm := ko_unwrap
  unfold refusal
  go_enter Tryz.func124, Tryz.ntmps124
  go_wp2
  refine wp_loop_rounds 2 ?_
  rw [rounds_succ]
  go_wp2
  rw [rounds_succ]
  go_wp2
  go_ret
  exact ⟨rfl, (Below.refl _ _).alloc (Nat.le_refl _) _⟩

set_option maxHeartbeats 2000000 in
/-- errors.Is at det's refusal and its first reason. -/
theorem eis_refusal (w : World) : Calls Tryz.prog 83 #[refusal, .iface 27 (.int .i64 4)] w fun e w' => e = .returned (.bool true) ∧ Below w.heap.size w w' := by
  have h8 := @run_callFunc_extern Tryz.prog 107 _ Extern.ReflectliteType.typeOf Tryz.func107 (by kernel_rfl) (by kernel_rfl) (by kernel_rfl) (by kernel_rfl)
  have h32 := @run_callFunc_extern Tryz.prog 241 _ koM Tryz.func241 (by kernel_rfl) (by kernel_rfl) (by kernel_rfl) (by kernel_rfl)
  have tT := ko_typeOf
  have cT := ko_comparable
  have mR := ko_method
  have h5 := ko_nil
  have h6 := ko_nil2
  have hi := is_refusal
  unfold refusal at hi ⊢
  go_enter Tryz.func83, Tryz.ntmps83
  go_wp2_with (go_at_call 124; refine (hi _).mono ?_; rintro e w1 ⟨rfl, hB⟩)
  go_ret
  exact ⟨rfl, hB⟩

set_option maxRecDepth 20000 in
set_option maxHeartbeats 2000000 in
/-- told: the refusal is told as duplicate keys. -/
theorem told_any (w : World) : Calls Tryz.prog 48 #[refusal] w fun e w' => e = .returned (.int .i64 4) ∧ Below w.heap.size w w' := by
  have hi := eis_refusal w
  have hix := ko_index
  unfold refusal at hi ⊢
  go_enter Tryz.func48, Tryz.ntmps48
  go_wp2
  refine wp_loop_rounds 1 ?_
  rw [rounds_succ]
  go_wp2_with (go_at_call 83; refine hi.mono ?_; rintro e w1 ⟨rfl, hB⟩)
  go_ret
  exact ⟨rfl, hB⟩
end Go.Proofs.YtfmceonbejlhlaaGreatDoor
