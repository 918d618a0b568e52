import Derived.OwnWalk
import Derived.Shelf.SlicesQ.Reverse
import Derived.Test.YtfmceonbejlhlaaGreatDoorMWd2
import Derived.Test.YtfmceonbejlhlaaGreatDoorMWd4
import Derived.Test.YtfmceonbejlhlaaGreatDoorMWd6
import Derived.Test.YtfmceonbejlhlaaGreatDoorMWd13
import Derived.Test.YtfmceonbejlhlaaGreatDoorMWd14
/-
  det's says: what it computes of a tree.
-/
namespace Go.Proofs.YtfmceonbejlhlaaGreatDoor
open Go.RowKit Go.Proofs.YtfmceonbejlhlaaGreatDoorW.PrintWords Go.Proofs.YtfmceonbejlhlaaGreatDoorW.PrintLast Go.Proofs.YtfmceonbejlhlaaGreatDoorW.PrintMore
set_option linter.unusedVariables false

/-- The closure, of a value. -/
theorem dclos_any (x : T) (xa : Option Addr) (xc : Nat) (w : World) (b : Bool) (h : ∀ W, Below w.heap.size w W → Calls Tryz.prog 81 #[.agg #[.int .i64 x.f0, .bool x.f1, .int .u64 x.f2, .string x.f3, .slice xa x.f4.length xc]] W (Ret (.bool b) W)) :
    Calls Tryz.prog 120 #[.agg #[.int .i64 x.f0, .bool x.f1, .int .u64 x.f2, .string x.f3, .slice xa x.f4.length xc]] w (Ret (.bool (!b)) w) := by
  have R := Row5.new w (.int .i64 x.f0) (.bool x.f1) (.int .u64 x.f2) (.string x.f3) (.slice xa x.f4.length xc)
  have hB : Below w.heap.size w (w.alloc (.cells #[.int .i64 x.f0, .bool x.f1, .int .u64 x.f2, .string x.f3, .slice xa x.f4.length xc] 25)) := (Below.refl _ w).alloc (Nat.le_refl _) _
  have c0 := R.c0
  have c1 := R.c1
  have c2 := R.c2
  have c3 := R.c3
  have c4 := R.c4
  have HC := Lib.hid (h _ hB)
  have HB := Lib.hid hB
  clear h hB R
  go_enter Tryz.func120, Tryz.ntmps120
  go_wp2_with (go_at_call 81; refine HC.out.mono ?_; rintro e w2 ⟨rfl, hb2⟩)
  go_ret
  exact ⟨rfl, HB.out.trans (hb2.mono HB.out.size)⟩
/-- Where the first one is that the closure tells. -/
def IdxPost (bad : Bool) (w : World) (e : Ending) (w' : World) : Prop := ∃ i : Int, e = .returned (.int .i64 i) ∧ decide (0 ≤ i) = bad ∧ Below w.heap.size w w'
set_option maxHeartbeats 4000000 in
set_option maxRecDepth 100000 in
theorem dindex_any (l : List T) (a : Option Addr) (c : Nat) (w : World) (P : Nat → Prop) (hP : ∀ g, P g → g < w.heap.size) (hT : l = [] ∨ ∃ g off, a = some ⟨g, off, none⟩ ∧ P g ∧ TreeL w P l g off) (hb : l.length ≤ 4294967296)
    (ih : ∀ x ∈ l, ∀ (xa : Option Addr) (xc : Nat) (W : World), Below w.heap.size w W → Tree W P x xa → Calls Tryz.prog 81 #[.agg (five x xa xc)] W (Ret (.bool (saysF x)) W)) :
    Calls Tryz.prog 149 #[.slice a l.length c, .func (.func 120) #[] #[]] w (IdxPost (!saysL l) w) := by
  go_enter Tryz.func149, Tryz.ntmps149
  go_wp2
  go_loopw [8] (fun i wr => ∃ k' : Nat, k' ≤ l.length ∧ i = .int .i64 k' ∧ Hid (∀ (i : Nat) (t : T), i < k' → l[i]? = some t → saysF t = true) ∧ Below w.heap.size w wr) (fun i _ => l.length - (intOf i).toNat)
  case atStart => exact ⟨0, by omega, rfl, (fun i t h => absurd h (Nat.not_lt_zero i)), Below.refl _ _⟩
  case round =>
    obtain ⟨j, hj, rfl, hA, hB2⟩ := hrel
    by_cases hlt : j < l.length
    · rcases hT with rfl | ⟨g, off, rfl, hg, hTL⟩
      · simp at hlt
      obtain ⟨x, xa, xc, hx, e0, e1, e2, e3, e4, hxc, hxT⟩ := treeL_cells hTL hlt
      have hgw := hP g hg
      have K0 := (hB2.cell (p := ⟨g, off + j * 5, none⟩) hgw).trans e0
      have K1 := (hB2.cell (p := ⟨g, off + j * 5 + 1, none⟩) hgw).trans e1
      have K2 := (hB2.cell (p := ⟨g, off + j * 5 + 2, none⟩) hgw).trans e2
      have K3 := (hB2.cell (p := ⟨g, off + j * 5 + 3, none⟩) hgw).trans e3
      have K4 := (hB2.cell (p := ⟨g, off + j * 5 + 4, none⟩) hgw).trans e4
      have hC : Calls Tryz.prog 120 #[.agg #[.int .i64 x.f0, .bool x.f1, .int .u64 x.f2, .string x.f3, .slice xa x.f4.length xc]] wr (Ret (.bool (!saysF x)) wr) := dclos_any x xa xc wr (saysF x) fun W hW => by
        have hb' : Below w.heap.size w W := hB2.trans (hW.mono hB2.size)
        exact ih x (List.mem_of_getElem? hx) xa xc W hb' (tree_keep (fun _ h => h) (fun g hg => hb'.block g (hP g hg)) hxT)
      have hX := Lib.hid hx
      have HC := Lib.hid hC
      have hT := Lib.hid hTL
      clear e0 e1 e2 e3 e4 hTL hxT ih hx hC
      cases hs : saysF x
      · rw [hs] at HC
        have hf : saysL l = false := saysL_get hX.out hs
        rw [hf]
        go_wp2_with (go_at_call 120; refine HC.out.mono ?_; rintro e w2 ⟨rfl, hb3⟩)
        go_ret
        exact ⟨_, rfl, by simp, hB2.trans (hb3.mono hB2.size)⟩
      · rw [hs] at HC
        have HS := Lib.hid hs
        clear hs
        go_wp2_with (go_at_call 120; refine HC.out.mono ?_; rintro e w2 ⟨rfl, hb3⟩)
        go_roundw
        case rel =>
          refine ⟨j + 1, by omega, by go_num, ?_, hB2.trans (hb3.mono hB2.size)⟩
          intro i t hi e
          rcases Nat.lt_succ_iff_lt_or_eq.1 hi with h | rfl
          · exact hA i t h e
          · rw [hX.out] at e; cases e; exact HS.out
        case measure => simp [intOf]; omega
    · obtain rfl : j = l.length := by omega
      have hS : saysL l = true := saysL_all fun i t e => hA i t (List.getElem?_eq_some_iff.1 e).1 e
      rw [hS]
      clear ih hT hA
      go_wp2
      go_ret
      exact ⟨-1, rfl, by rw [hS]; decide, hB2⟩
theorem dcontains_any (l : List T) (a : Option Addr) (c n : Nat) (w : World) (bad : Bool) (h : Calls Tryz.prog 149 #[.slice a n c, .func (.func 120) #[] #[]] w (IdxPost bad w)) :
    Calls Tryz.prog 119 #[.slice a n c, .func (.func 120) #[] #[]] w (Ret (.bool bad) w) := by
  have H := Lib.hid h
  clear h
  go_enter Tryz.func119, Tryz.ntmps119
  go_wp2_with (go_at_call 149; refine H.out.mono ?_; rintro e w2 ⟨i, rfl, hi, hb2⟩)
  go_ret
  exact ⟨by rw [← hi]; rfl, hb2⟩
set_option maxHeartbeats 4000000 in
set_option maxRecDepth 100000 in
theorem dsays_any : ∀ (t : T) (a : Option Addr) (c : Nat) (W : World) (P : Nat → Prop), (∀ g, P g → g < W.heap.size) → Tree W P t a → bulk t ≤ 4294967296 →
    Calls Tryz.prog 81 #[.agg (five t a c)] W (Ret (.bool (saysF t)) W) := by
  intro t
  induction t using T.ind with
  | h k neg n s l ih =>
    intro a c w P hP hT hb
    have hlb := bulkL_len l
    simp only [bulk] at hb
    obtain ⟨h0, hT⟩ := tree_list hT
    dsimp only at hT h0
    unfold five
    dsimp only
    have R := Row5.new w (.int .i64 k) (.bool neg) (.int .u64 n) (.string s) (.slice a l.length c)
    have hB : Below w.heap.size w (w.alloc (.cells #[.int .i64 k, .bool neg, .int .u64 n, .string s, .slice a l.length c] 25)) := (Below.refl _ w).alloc (Nat.le_refl _) _
    have hc0 := R.c0
    have hc4 := R.c4
    obtain ⟨w1, hw1⟩ : ∃ w1, w.alloc (.cells #[.int .i64 k, .bool neg, .int .u64 n, .string s, .slice a l.length c] 25) = w1 := ⟨_, rfl⟩
    have hcon := dcontains_any l a c l.length w1 (!saysL l) (dindex_any l a c w1 P (fun g hg => by have := hP g hg; rw [← hw1]; simp; omega) (by
      rcases hT with h | ⟨g, off, rfl, hg, hTL⟩
      · exact .inl h
      · refine .inr ⟨g, off, rfl, hg, ?_⟩
        have := tree_keep (W := w) (W' := w1) (P := P) (P' := P) (fun _ h => h) (fun g hg => by rw [← hw1]; exact hB.block g (hP g hg)) (t := ⟨0, false, 0, ⟨#[]⟩, l⟩) (a := some ⟨g, off, none⟩) (by simp only [Tree]; exact ⟨h0, .inr ⟨g, off, rfl, hg, hTL⟩⟩)
        simp only [Tree] at this
        rcases this.2 with h | ⟨g', off', h1, h2, h3⟩
        · subst h; simp only [TreeL]
        · injection h1 with h1; injection h1 with h1 h4 _; subst h1 h4; exact h3) (by omega)
      (fun x hx xa xc W hW hxT => ih x hx xa xc W P (fun g hg => Nat.lt_of_lt_of_le (hP g hg) (Nat.le_trans hB.size (by rw [hw1]; exact hW.size))) hxT (by have := bulkL_mem hx; omega)))
    rw [hw1] at hB hc0 hc4
    have HCon := Lib.hid hcon
    have HB := Lib.hid hB
    clear hcon hB R ih hT
    go_enter Tryz.func81, Tryz.ntmps81
    by_cases h14 : k = 14
    · subst h14
      go_wp2
      go_ret
      refine ⟨?_, HB.out⟩
      simp [saysF]
    · have hk : (k != 14) = true := by simpa using h14
      have hk2 : (k == 14) = false := by simpa using h14
      go_wp2_with fail
      try rw [hw1]
      go_wp2_with (go_at_call 119; refine HCon.out.mono ?_; rintro e w2 ⟨rfl, hb2⟩)
      go_ret
      refine ⟨?_, HB.out.trans (hb2.mono HB.out.size)⟩
      simp [saysF, hk]
end Go.Proofs.YtfmceonbejlhlaaGreatDoor

/-
  det's sorted: what it computes; its comparison; the sort of its pairs.
-/
namespace Go.Proofs.YtfmceonbejlhlaaGreatDoor
open Go.RowKit Go.Sort Go.Proofs.YtfmceonbejlhlaaGreatDoorW.PrintWords Go.Proofs.YtfmceonbejlhlaaGreatDoorW.PrintLast Go.Proofs.YtfmceonbejlhlaaGreatDoorW.PrintMore
set_option linter.unusedVariables false

/-- A key's item. -/
def itL (t : T) : List Int := if encE t = 0 then itemF false t else []
def itS (t : T) : ByteArray := strOfNums (itL t)
def keyCmp (s t : ByteArray) : Int := Lib.compareBytes s.data.toList t.data.toList
/-- The order of a map's pairs, by their places. -/
def pairCmp (ts : List T) (i j : Nat) : Int := keyCmp (itS (ts.getD (2 * i) default)) (itS (ts.getD (2 * j) default))
def outGo (cf : Nat → Nat → Int) (ts : List T) (d : Array Nat) (i : Nat) (out : List T) : Option (List T) :=
  if i < d.size then (if 0 < i ∧ cf d[i - 1]! d[i]! = 0 then none else outGo cf ts d (i + 1) (out ++ [ts.getD (2 * d[i]!) default, ts.getD (2 * d[i]! + 1) default])) else some out
termination_by d.size - i
/-- A map's pairs in order, if no two keys are the same. -/
def sortedF (ts : List T) : Option (List T) := outGo (pairCmp ts) ts (stable (ltOf (pairCmp ts)) (Array.range (ts.length / 2)) (ts.length / 2)) 0 []

/-- A pair's cells. -/
def pairC (a b : RowT) (it : ByteArray) : List Value := [.int .i64 a.1.f0, .bool a.1.f1, .int .u64 a.1.f2, .string a.1.f3, .slice a.2.1 a.1.f4.length a.2.2, .int .i64 b.1.f0, .bool b.1.f1, .int .u64 b.1.f2, .string b.1.f3, .slice b.2.1 b.1.f4.length b.2.2, .string it]
instance : Inhabited RowT := ⟨(default, none, 0)⟩
def encP (rows : List RowT) (i : Nat) : List Value := pairC (rows.getD (2 * i) default) (rows.getD (2 * i + 1) default) (itS (rows.getD (2 * i) default).1)
theorem getD_map (rows : List RowT) (i : Nat) : (rows.map (·.1)).getD i default = (rows.getD i default).1 := by
  rw [List.getD_eq_getElem?_getD, List.getD_eq_getElem?_getD, List.getElem?_map]
  cases rows[i]? <;> rfl
theorem encP_len (rows : List RowT) (i : Nat) : (encP rows i).length = 11 := rfl
theorem encP_one (rows : List RowT) (i : Nat) : ∀ v ∈ encP rows i, v.oneCell' = true := by
  intro v hv
  simp only [encP, pairC, List.mem_cons, List.not_mem_nil, or_false] at hv
  rcases hv with rfl | rfl | rfl | rfl | rfl | rfl | rfl | rfl | rfl | rfl | rfl <;> rfl
theorem srtTryz : Srt Tryz.prog 11 where
  mixed := by kernel_rfl
  f193 := Tryz.func193
  f194 := Tryz.func194
  f208 := Tryz.func208
  f212 := Tryz.func212
  f174 := Tryz.func174
  f153 := Tryz.func153
  t0 := Tryz.underlying0
  a0 := Tryz.isAgg0
  z0 := Tryz.sizeOf0
  v0 := Tryz.zeroValue0
  t3 := Tryz.underlying3
  a3 := Tryz.isAgg3
  z3 := Tryz.sizeOf3
  v3 := Tryz.zeroValue3
  t4 := Tryz.underlying4
  a4 := Tryz.isAgg4
  z4 := Tryz.sizeOf4
  v4 := Tryz.zeroValue4
  t118 := Tryz.underlying118
  a118 := Tryz.isAgg118
  z118 := Tryz.sizeOf118
  v118 := Tryz.zeroValue118
  t259 := Tryz.underlying259
  a259 := Tryz.isAgg259
  z259 := Tryz.sizeOf259
  v259 := Tryz.zeroValue259
  aE := Tryz.isAgg261
  zE := Tryz.sizeOf261
  t263 := Tryz.underlying263
  a263 := Tryz.isAgg263
  z263 := Tryz.sizeOf263
  v263 := Tryz.zeroValue263
set_option maxHeartbeats 4000000 in
set_option maxRecDepth 100000 in
/-- The comparison lays its two arguments in blocks of its own; it turns nothing. -/
theorem by_any (a b c d : RowT) (s t : ByteArray) (W : World) :
    Calls Tryz.prog 151 #[.agg (pairC a b s).toArray, .agg (pairC c d t).toArray] W fun e w' => e = .returned (.int .i64 (keyCmp s t)) ∧ ∃ q os', w' = grow (W.drewN q) os' := by
  unfold pairC
  have hcon := fun W' => strings_Compare s t W'
  obtain ⟨r, hr⟩ : ∃ r, Lib.compareBytes s.data.toList t.data.toList = r := ⟨_, rfl⟩
  rw [show keyCmp s t = r from hr]
  rw [hr] at hcon
  have R1 := Blk.alloc (Blk.new W 261 #[.int .i64 a.1.f0, .bool a.1.f1, .int .u64 a.1.f2, .string a.1.f3, .slice a.2.1 a.1.f4.length a.2.2, .int .i64 b.1.f0, .bool b.1.f1, .int .u64 b.1.f2, .string b.1.f3, .slice b.2.1 b.1.f4.length b.2.2, .string s]) (.cells #[.int .i64 c.1.f0, .bool c.1.f1, .int .u64 c.1.f2, .string c.1.f3, .slice c.2.1 c.1.f4.length c.2.2, .int .i64 d.1.f0, .bool d.1.f1, .int .u64 d.1.f2, .string d.1.f3, .slice d.2.1 d.1.f4.length d.2.2, .string t] 261)
  have c1 := R1.cell (i := 10) rfl
  simp only [List.getElem_toArray, List.getElem_cons_succ, List.getElem_cons_zero] at c1
  clear R1 hr
  go_enter Tryz.func151, Tryz.ntmps151
  go_wp2_with (go_at_call 152; refine (hcon _).mono ?_; rintro e w' ⟨rfl, rfl⟩)
  go_ret
  exact ⟨rfl, 0, _, by rw [alloc_eq_grow, alloc_eq_grow, grow_grow]; rfl⟩
theorem cmp_lays (rows : List RowT) (blk off size : Nat) (w : World) : CmpLays Tryz.prog 151 #[] (encP rows) 11 (pairCmp (rows.map (·.1))) blk off size w :=
  fun _ _ _ _ x y => by
    have := by_any (rows.getD (2 * x) default) (rows.getD (2 * x + 1) default) (rows.getD (2 * y) default) (rows.getD (2 * y + 1) default) (itS (rows.getD (2 * x) default).1) (itS (rows.getD (2 * y) default).1)
    unfold pairCmp
    rw [getD_map, getD_map]
    exact this _
end Go.Proofs.YtfmceonbejlhlaaGreatDoor

/-
  det's sorted: the row of pairs as the sort knows it.
-/
namespace Go.Proofs.YtfmceonbejlhlaaGreatDoor
open Go.RowKit Go.Sort Go.Proofs.YtfmceonbejlhlaaGreatDoorW.PrintWords Go.Proofs.YtfmceonbejlhlaaGreatDoorW.PrintLast Go.Proofs.YtfmceonbejlhlaaGreatDoorW.PrintMore
set_option linter.unusedVariables false

theorem flat_len {f : Nat → List Value} {k : Nat} (hk : ∀ i, (f i).length = k) (m : Nat) : ((List.range m).flatMap f).length = m * k := by
  induction m with
  | zero => simp
  | succ m ih => rw [List.range_succ, List.flatMap_append, List.length_append, ih]; simp [hk, Nat.add_mul]
theorem flat_get {f : Nat → List Value} {k : Nat} (hk : ∀ i, (f i).length = k) (m t : Nat) (ht : t < m * k) : ((List.range m).flatMap f)[t]? = (f (t / k))[t % k]? := by
  have k0 : 0 < k := by rcases Nat.eq_zero_or_pos k with h | h; · subst h; simp at ht
                        · exact h
  induction m with
  | zero => omega
  | succ m ih =>
    rw [List.range_succ, List.flatMap_append]
    by_cases h : t < m * k
    · rw [List.getElem?_append_left (by rw [flat_len hk]; exact h)]
      exact ih h
    · have hd : t / k = m := (blk_iff k m t k0).1 ⟨by omega, by rw [Nat.add_mul, Nat.one_mul] at ht; exact ht⟩
      rw [List.getElem?_append_right (by rw [flat_len hk]; omega), flat_len hk, hd]
      have hm : t % k = t - m * k := by rw [Nat.mod_eq_sub_div_mul, hd]
      rw [hm]
      simp
theorem holds_of_own {W : World} {base g cap m : Nat} {rows : List RowT} (h : W.ownsRow base 261 11 (.slice (some ⟨g, 0, none⟩) m cap) m ((List.range m).flatMap (encP rows))) : HoldsK (encP rows) 11 W g 0 (Array.range m) := by
  intro j hj
  rw [size_flatK] at hj
  rw [Array.size_range] at hj
  obtain ⟨cs, hc⟩ := own_typed h g rfl
  refine ⟨?_, frozen_of_row W g (0 + j) _ _ hc⟩
  rw [get_flatK _ _ _ _ (by rw [Array.size_range]; exact hj)]
  have hq : j / 11 < m := by omega
  have e1 : (Array.range m)[j / 11]! = j / 11 := by
    rw [getElem!_pos _ _ (by rw [Array.size_range]; exact hq)]
    simp
  rw [e1]
  have hlt : j % 11 < (encP rows (j / 11)).length := by rw [encP_len]; omega
  have := h.cells (g := g) rfl j ((encP rows (j / 11))[j % 11]!) (by
    rw [flat_get (k := 11) (fun _ => rfl) m j hj, List.getElem?_eq_getElem hlt]; exact congrArg some (getElem!_pos (encP rows (j / 11)) (j % 11) hlt).symm)
  rw [WideShapes.add_plain] at this
  exact this
theorem swk_below {α : Type} [Inhabited α] {enc : α → List Value} {k : Nat} {w0 W : World} {blk off B : Nat} {d : Array α} (S : SWK enc k w0 blk off d W) (hB : B ≤ blk) (hsz : B ≤ w0.heap.size) : Below B w0 W := by
  obtain ⟨n, os, rfl⟩ := S
  refine ⟨rfl, rfl, rfl, ?_, fun i hi => ?_⟩
  · unfold sortWorldK
    rw [size_grow, size_putRowK]
    exact Nat.le_add_right _ _
  · unfold sortWorldK grow putRowK putRow mapBlock
    have h1 : i < w0.heap.size := by omega
    have h2 : ¬ blk = i := by omega
    show ((w0.heap.modify blk _) ++ os)[i]? = w0.heap[i]?
    rw [Array.getElem?_append_left (by simpa using h1), Array.getElem?_modify, if_neg h2]
end Go.Proofs.YtfmceonbejlhlaaGreatDoor

/-
  The sort of no pairs; the comparison, as a call that lays new blocks alone.
-/
namespace Go.Proofs.YtfmceonbejlhlaaGreatDoor
open Go.RowKit Go.Sort Go.Proofs.YtfmceonbejlhlaaGreatDoorW.PrintWords Go.Proofs.YtfmceonbejlhlaaGreatDoorW.PrintLast Go.Proofs.YtfmceonbejlhlaaGreatDoorW.PrintMore
set_option linter.unusedVariables false

theorem by_ret (a b c d : RowT) (s t : ByteArray) (W : World) : Calls Tryz.prog 151 #[.agg (pairC a b s).toArray, .agg (pairC c d t).toArray] W (Ret (.int .i64 (keyCmp s t)) W) :=
  (by_any a b c d s t W).mono fun e w' ⟨he, q, os', hw⟩ => ⟨he, by
    subst hw
    refine ⟨rfl, rfl, rfl, ?_, fun i hi => ?_⟩
    · rw [size_grow]; exact Nat.le_add_right _ _
    · show (W.heap ++ os')[i]? = W.heap[i]?
      rw [Array.getElem?_append_left hi]⟩
set_option maxRecDepth 100000 in
theorem ins_nil (A : Option Addr) (c : Nat) (fv : Value) (w : World) : Calls Tryz.prog 193 #[.slice A 0 c, .int .i64 0, .int .i64 0, fv] w fun e w' => e = .returned (.tuple #[]) ∧ w' = w := by
  go_enter Tryz.func193, Tryz.ntmps193
  go_wp2_with fail
  go_loopw [8] (fun i wr => i = .int .i64 1 ∧ wr = w) (fun _ _ => 0)
  case atStart => exact ⟨rfl, rfl⟩
  case round =>
    obtain ⟨rfl, hw⟩ := hrel
    subst wr
    go_wp2
    go_end0
    exact ⟨rfl, rfl⟩
set_option maxRecDepth 100000 in
theorem stableCmp_nil (A : Option Addr) (c : Nat) (fv : Value) (w : World) : Calls Tryz.prog 174 #[.slice A 0 c, .int .i64 0, fv] w fun e w' => e = .returned (.tuple #[]) ∧ w' = w := by
  go_enter Tryz.func174, Tryz.ntmps174
  go_wp2_with fail
  go_loopw [7, 8] (fun a b wr => a = .int .i64 0 ∧ b = .int .i64 20 ∧ wr = w) (fun _ _ _ => 0)
  case atStart => exact ⟨rfl, rfl, rfl⟩
  case round =>
    obtain ⟨rfl, rfl, hw⟩ := hrel
    subst wr
    go_wp2_with (go_at_call 193; refine (ins_nil A c fv w).mono ?_; rintro e w2 ⟨rfl, rfl⟩)
    go_loopw [6] (fun i wr => i = .int .i64 20 ∧ wr = w2) (fun _ _ => 0)
    case atStart => exact ⟨rfl, rfl⟩
    case round =>
      obtain ⟨rfl, hw⟩ := hrel
      subst wr
      go_wp2
      go_end0
      exact ⟨rfl, rfl⟩
theorem stable_nil (A : Option Addr) (c : Nat) (fv : Value) (w : World) : Calls Tryz.prog 153 #[.slice A 0 c, fv] w fun e w' => e = .returned (.tuple #[]) ∧ w' = w := by
  go_enter Tryz.func153, Tryz.ntmps153
  go_wp2_with (go_at_call 174; refine (stableCmp_nil A c fv w).mono ?_; rintro e w2 ⟨rfl, rfl⟩)
  go_end0
  exact ⟨rfl, rfl⟩
/-- Behind the sort: the row holds the pairs in order; what lay below the row is as it was. -/
def SortedRow (rows : List RowT) (pa : Option Addr) (j base : Nat) (W : World) (e : Ending) (W2 : World) : Prop := e = .returned (.tuple #[]) ∧ Below base W W2 ∧ (0 < j → ∃ g, pa = some ⟨g, 0, none⟩ ∧ g < W2.heap.size ∧ HoldsK (encP rows) 11 W2 g 0 (stable (ltOf (pairCmp (rows.map (·.1)))) (Array.range j) j))
theorem n151 : (Tryz.f151.name == "runtime.NumGoroutine") = false := by kernel_rfl
theorem e151' : Go.Proofs.Enters Tryz.prog 151 := Go.Proofs.enters_of Tryz.func151 n151 rfl
theorem e151 : ∀ args w, (callFunc 151 args).run Tryz.prog w = .ok (.enter 151 args) w := e151'
theorem sort_any (rows : List RowT) (pa : Option Addr) (pc j base : Nat) (W : World) (hO : W.ownsRow base 261 11 (.slice pa j pc) j ((List.range j).flatMap (encP rows))) (hj : j ≤ 4294967296) (hb : base ≤ W.heap.size) :
    Calls Tryz.prog 153 #[.slice pa j pc, .func (.func 151) #[] #[]] W (SortedRow rows pa j base W) := by
  by_cases h0 : j = 0
  · subst h0
    exact (stable_nil pa pc _ W).mono fun e w' ⟨he, hw⟩ => ⟨he, by rw [hw]; exact Below.refl _ _, fun h => absurd h (Nat.lt_irrefl _)⟩
  · obtain ⟨g, rfl⟩ : ∃ g, pa = some ⟨g, 0, none⟩ := by
      rcases hO.2 with ⟨h, _⟩ | ⟨g, cap, cur, h, _⟩
      · injection h with _ h; exact absurd h h0
      · injection h with h; exact ⟨g, h⟩
    have hH := holds_of_own hO
    have hlt := own_lt hO g rfl
    have hbg := own_base hO g rfl
    have R : RowK (encP rows) 11 W g 0 (Array.range j) := ⟨encP_len rows, encP_one rows, hH, hlt⟩
    have hC : CmpLays Tryz.prog 151 #[] (encP rows) 11 (pairCmp (rows.map (·.1))) g 0 (Array.range j).size W := cmp_lays rows g 0 _ W
    have hsz : (Array.range j).size < 1152921504606846976 := by rw [Array.size_range]; omega
    have h1 := stableFunc_any (P := Tryz.prog) (α := Nat) (k := 11) srtTryz (encP rows) (pairCmp (rows.map (·.1))) 151 #[] g 0 pc (Array.range j) W
    have h2 := h1 e151
    have h3 := h2 hC
    have := h3 R hsz
    rw [Array.size_range] at this
    refine this.mono fun e W2 ⟨he, S⟩ => ⟨he, swk_below S hbg hb, fun _ => ⟨g, rfl, S.lt hlt, S.holds hlt hH (by rw [size_stable])⟩⟩
end Go.Proofs.YtfmceonbejlhlaaGreatDoor

/-
  det's sorted, walked.
-/
namespace Go.Proofs.YtfmceonbejlhlaaGreatDoor
open Go.RowKit Go.Sort Go.Proofs.YtfmceonbejlhlaaGreatDoorW.PrintWords Go.Proofs.YtfmceonbejlhlaaGreatDoorW.PrintLast Go.Proofs.YtfmceonbejlhlaaGreatDoorW.PrintMore
set_option linter.unusedVariables false

theorem info261 : (Tryz.prog.info? 261).map (fun i => (i.zero, i.size, i.bytes)) = some (some (.agg #[.int .i64 0, .bool false, .int .u64 0, .string ⟨#[]⟩, .slice none 0 0, .int .i64 0, .bool false, .int .u64 0, .string ⟨#[]⟩, .slice none 0 0, .string ⟨#[]⟩]), 11, 144) := by kernel_rfl
theorem info25z : (Tryz.prog.info? 25).map (fun i => (i.zero, i.size, i.bytes)) = some (some (.agg #[.int .i64 0, .bool false, .int .u64 0, .string ⟨#[]⟩, .slice none 0 0]), 5, 64) := by kernel_rfl
/-- What Encode hands back of a key: its item, the error. -/
def KeyPost (t : T) (w : World) (e : Ending) (w' : World) : Prop := ∃ A c, e = .returned (.tuple #[.slice A (itL t).length c, .int .i64 (encE t)]) ∧ w'.ownsRow w.heap.size 5 1 (.slice A (itL t).length c) (itL t).length (nums .u8 (itL t)) ∧ Below w.heap.size w w'
theorem key_any (t : T) (a : Option Addr) (c : Nat) (w : World) (P : Nat → Prop) (hP : ∀ g, P g → g < w.heap.size) (hx : RowOk w P (t, a, c)) (hwf : Wf t) (hb : bulk t ≤ 2147483648) :
    Calls Tryz.prog 5 #[.agg #[.int .i64 t.f0, .bool t.f1, .int .u64 t.f2, .string t.f3, .slice a t.f4.length c], .agg #[.bool false, .int .i64 0, .bool false]] w (KeyPost t w) := by
  refine (encode_any false t a c w P hP hx.2 hx.1 hwf hb).mono ?_
  rintro e w' ⟨v, rfl, hbl, h1, h2⟩
  have hrow : w'.ownsRow w.heap.size 5 1 v (itL t).length (nums .u8 (itL t)) := by
    unfold itL
    by_cases h : encE t = 0
    · rw [if_pos h]; exact h2 h
    · rw [if_neg h, h1 h]; exact World.ownsRow_nil w' _ _ _
  obtain ⟨A, c, rfl⟩ := Go.Proofs.YtfmceonbejlhlaaGreatDoorW.PrintWords.own_slice hrow
  exact ⟨A, c, rfl, hrow, hbl⟩
theorem ten_one (a b : RowT) : ∀ v ∈ ([.int .i64 a.1.f0, .bool a.1.f1, .int .u64 a.1.f2, .string a.1.f3, .slice a.2.1 a.1.f4.length a.2.2, .int .i64 b.1.f0, .bool b.1.f1, .int .u64 b.1.f2, .string b.1.f3, .slice b.2.1 b.1.f4.length b.2.2] : List Value), v.oneCell' = true := by
  intro v hv
  simp only [List.mem_cons, List.not_mem_nil, or_false] at hv
  rcases hv with rfl | rfl | rfl | rfl | rfl | rfl | rfl | rfl | rfl | rfl <;> rfl
theorem news_ten (W : World) (xs : List Value) (j : Nat) (u : Value) (hu : xs[j]? = some u) : ((W.alloc (.cells xs.toArray 25))).cell? ((⟨W.heap.size, 0, none⟩ : Addr).add j) = some u := by
  rw [WideShapes.add_plain, Nat.zero_add]
  exact (cell_of_row _ _ j _ _ _ (heap_alloc_new W _)).trans (by rw [← hu]; simp)
theorem getD_ok {w : World} {P : Nat → Prop} {rows : List RowT} (h : ∀ x ∈ rows, RowOk w P x) (i : Nat) : RowOk w P (rows.getD i default) := by
  rw [List.getD_eq_getElem?_getD]
  cases hi : rows[i]? with
  | none => exact ⟨Nat.le_refl _, by simp [default, Inhabited.default, Tree]⟩
  | some x => exact h x (List.mem_of_getElem? hi)
theorem pair_one (a b : RowT) (it : ByteArray) : ∀ v ∈ pairC a b it, v.oneCell' = true := by
  intro v hv
  simp only [pairC, List.mem_cons, List.not_mem_nil, or_false] at hv
  rcases hv with rfl | rfl | rfl | rfl | rfl | rfl | rfl | rfl | rfl | rfl | rfl <;> rfl
theorem news_pair (W : World) (xs : List Value) (j : Nat) (u : Value) (hu : xs[j]? = some u) : ((W.alloc (.cells xs.toArray 261)).drew).cell? ((⟨W.heap.size, 0, none⟩ : Addr).add j) = some u := by
  rw [WideShapes.add_plain, Nat.zero_add]
  exact (cell_of_row _ _ j _ _ _ (heap_alloc_new W _)).trans (by rw [← hu]; simp)
/-- An element's five cells in an owned row. -/
theorem row_cells {W : World} {b0 g n c : Nat} {rows : List RowT} (h : W.ownsRow b0 25 5 (.slice (some ⟨g, 0, none⟩) n c) n (rowsCells rows)) {i : Nat} {x : RowT} (hx : rows[i]? = some x) {j : Nat} {v : Value} (hv : x.cells[j]? = some v) : W.cell? ⟨g, i * 5 + j, none⟩ = some v := by
  have := h.cells (g := g) rfl (5 * i + j) v (rowsCells_get hx j v hv)
  rw [WideShapes.add_plain, Nat.zero_add, Nat.mul_comm] at this
  exact this
/-- What sorted hands back. -/
def SortPost (P : Nat → Prop) (rows : List RowT) (w : World) (e : Ending) (w' : World) : Prop := Below w.heap.size w w' ∧ match sortedF (rows.map (·.1)) with
  | none => e = .returned (.tuple #[.slice none 0 0, .iface 147 (.agg #[.iface 27 (.int .i64 4)])])
  | some l => ∃ A c rows', e = .returned (.tuple #[.slice A l.length c, .nilIface]) ∧ rows'.map (·.1) = l ∧ w'.ownsRow w.heap.size 25 5 (.slice A l.length c) l.length (rowsCells rows') ∧ (∀ x ∈ rows', RowOk w' P x)
set_option maxHeartbeats 16000000 in
set_option maxRecDepth 100000 in
theorem sorted_any (rows : List RowT) (b0 n c : Nat) (A : Option Addr) (w : World) (P : Nat → Prop) (hP : ∀ g, P g → g < w.heap.size) (hn : rows.length = n) (hn2 : n ≤ 4294967296) (hown : w.ownsRow b0 25 5 (.slice A n c) n (rowsCells rows)) (hx : ∀ x ∈ rows, RowOk w P x) (hwf : ∀ x ∈ rows, Wf x.1) (hbk : ∀ x ∈ rows, bulk x.1 ≤ 2147483648) :
    Calls Tryz.prog 123 #[.slice A n c] w (SortPost P rows w) := by
  obtain ⟨m, hm⟩ : ∃ m, n / 2 = m := ⟨_, rfl⟩
  have HOwn := Lib.hid hown
  have HX := Lib.hid hx
  have HN := Lib.hid hn
  have HK : Hid (∀ x ∈ rows, ∀ W, Below w.heap.size w W → Calls Tryz.prog 5 #[.agg #[.int .i64 x.1.f0, .bool x.1.f1, .int .u64 x.1.f2, .string x.1.f3, .slice x.2.1 x.1.f4.length x.2.2], .agg #[.bool false, .int .i64 0, .bool false]] W (KeyPost x.1 W)) := Lib.hid (fun x hxm W hW => key_any x.1 x.2.1 x.2.2 W P (fun g hg => Nat.lt_of_lt_of_le (hP g hg) hW.size) ((hx x hxm).keep (fun _ h => h) (fun g hg => hW.block g (hP g hg))) (hwf x hxm) (hbk x hxm))
  clear hown hx hwf hbk
  obtain ⟨i0, hi, hz0, hz1, hz2⟩ := info_parts info261
  go_enter Tryz.func123, Tryz.ntmps123
  go_wp2_with fail
  go_loopw [4, 5] (fun v4 v5 wr => ∃ (j p : Nat) (pa : Option Addr) (pc : Nat), j ≤ m ∧ v4 = .slice pa j pc ∧ v5 = .int .i64 p ∧ Hid (p = 2 * j) ∧ Hid (wr.ownsRow w.heap.size 261 11 (.slice pa j pc) j ((List.range j).flatMap (encP rows))) ∧ Hid (Below w.heap.size w wr)) (fun _ i _ => n - (intOf i).toNat)
  case atStart => exact ⟨0, 0, none, 0, by omega, rfl, rfl, Lib.hid rfl, Lib.hid (World.ownsRow_nil w _ _ _), Lib.hid (Below.refl _ _)⟩
  case round =>
    obtain ⟨j, p, pa, pc, hj, rfl, rfl, HP, HO, HB⟩ := hrel
    have hp := HP.out
    have e1 : IntKind.i64.wrap ((p : Int) + 1) = (p : Int) + 1 := by rw [IntKind.wrap_i64]; omega
    by_cases hlt : p + 1 < n
    · have hltz : (p : Int) + 1 < (n : Int) := by omega
      have hltz1 : (p : Int) < (n : Int) := by omega
      have e2 : IntKind.i64.wrap ((p : Int) + 2) = (p : Int) + 2 := by rw [IntKind.wrap_i64]; omega
      have e3 : ((p : Int) + 1).toNat = p + 1 := by omega
      have e4 : (0 : Int) ≤ (p : Int) + 1 := by omega
      obtain ⟨g, rfl⟩ : ∃ g, A = some ⟨g, 0, none⟩ := by
        rcases HOwn.out.2 with ⟨h, _⟩ | ⟨g, cap, cur, h, _⟩
        · injection h with _ h; omega
        · injection h with h; exact ⟨g, h⟩
      obtain ⟨x, hx⟩ : ∃ x, rows[p]? = some x := ⟨_, List.getElem?_eq_getElem (by rw [HN.out]; omega)⟩
      obtain ⟨y, hy⟩ : ∃ y, rows[p + 1]? = some y := ⟨_, List.getElem?_eq_getElem (by rw [HN.out]; omega)⟩
      have hgw : g < w.heap.size := own_lt HOwn.out g rfl
      have hE : encP rows j = pairC x y (itS x.1) := by
        unfold encP
        rw [List.getD_eq_getElem?_getD, List.getD_eq_getElem?_getD, ← hp, hx, hy]; rfl
      have kx : ∀ (W : World), Below w.heap.size w W → ∀ i v, x.cells[i]? = some v → W.cell? ⟨g, p * 5 + i, none⟩ = some v := fun W hW i v hv => (hW.cell (p := ⟨g, p * 5 + i, none⟩) hgw).trans (row_cells HOwn.out hx hv)
      have ky : ∀ (W : World), Below w.heap.size w W → ∀ i v, y.cells[i]? = some v → W.cell? ⟨g, (p + 1) * 5 + i, none⟩ = some v := fun W hW i v hv => (hW.cell (p := ⟨g, (p + 1) * 5 + i, none⟩) hgw).trans (row_cells HOwn.out hy hv)
      have hxm := List.mem_of_getElem? hx
      have a0 : wr.cell? ⟨g, p * 5, none⟩ = _ := kx wr HB.out 0 _ rfl
      have a1 := kx wr HB.out 1 _ rfl
      have a2 := kx wr HB.out 2 _ rfl
      have a3 := kx wr HB.out 3 _ rfl
      have a4 := kx wr HB.out 4 _ rfl
      have HC := Lib.hid (HK.out x hxm wr HB.out)
      have KX := Lib.hid kx
      have KY := Lib.hid ky
      have HE := Lib.hid hE
      clear hp
      clear kx ky hE hx hy
      go_wp2_with (go_at_call 5; refine HC.out.mono ?_; rintro ee w2 ⟨ka, kc, rfl, hown2, hb2⟩; have HO2 := Lib.hid hown2; have HB2 := Lib.hid (HB.out.trans (hb2.mono HB.out.size)); have HB12 := Lib.hid hb2; clear hown2 hb2)
      obtain ⟨it, hit⟩ : ∃ it, itS x.1 = it := ⟨_, rfl⟩
      have hcv : (convert 26 9 (.slice ka (itL x.1).length kc)).run Tryz.prog w2.drew = .ok (.string it) w2.drew := by
        rw [← hit]
        exact own_string Tryz.underlying26 Tryz.underlying5 Tryz.underlying9 HO2.out.drew
      have hE := HE.out
      rw [hit] at hE
      unfold pairC at hE
      have hO2 : w2.ownsRow w.heap.size 261 11 (.slice pa j pc) j ((List.range j).flatMap (encP rows)) := own_move HO.out fun k hk => HB12.out.block k (own_lt HO.out k hk)
      have HR := Lib.hid ((hO2.alloc (.cells #[.int .i64 x.1.f0, .bool x.1.f1, .int .u64 x.1.f2, .string x.1.f3, .slice x.2.1 x.1.f4.length x.2.2, .int .i64 y.1.f0, .bool y.1.f1, .int .u64 y.1.f2, .string y.1.f3, .slice y.2.1 y.1.f4.length y.2.2, .string it] 261)).drew)
      have HBs : Hid (w.heap.size ≤ ((w2.alloc (.cells #[.int .i64 x.1.f0, .bool x.1.f1, .int .u64 x.1.f2, .string x.1.f3, .slice x.2.1 x.1.f4.length x.2.2, .int .i64 y.1.f0, .bool y.1.f1, .int .u64 y.1.f2, .string y.1.f3, .slice y.2.1 y.1.f4.length y.2.2, .string it] 261)).drew).heap.size) := Lib.hid (Nat.le_trans HB2.out.size (by simp))
      have b0 : w2.cell? ⟨g, p * 5, none⟩ = _ := KX.out w2 HB2.out 0 _ rfl
      have b1 := KX.out w2 HB2.out 1 _ rfl
      have b2 := KX.out w2 HB2.out 2 _ rfl
      have b3 := KX.out w2 HB2.out 3 _ rfl
      have b4 := KX.out w2 HB2.out 4 _ rfl
      have d0 : w2.cell? ⟨g, (p + 1) * 5, none⟩ = _ := KY.out w2 HB2.out 0 _ rfl
      have d1 := KY.out w2 HB2.out 1 _ rfl
      have d2 := KY.out w2 HB2.out 2 _ rfl
      have d3 := KY.out w2 HB2.out 3 _ rfl
      have d4 := KY.out w2 HB2.out 4 _ rfl
      have HE2 := Lib.hid hE
      clear a0 a1 a2 a3 a4 hit hE hO2 HC
      obtain ⟨nk, hnk⟩ : ∃ nk, (itL x.1).length = nk := ⟨_, rfl⟩
      rw [hnk] at hcv
      rw [hnk]
      clear hnk
      go_region_law (refine step_append_lies _ rfl (.tmp 28) (.tmp 41) 259 rfl w.heap.size 261 i0 (.agg #[.int .i64 0, .bool false, .int .u64 0, .string ⟨#[]⟩, .slice none 0 0, .int .i64 0, .bool false, .int .u64 0, .string ⟨#[]⟩, .slice none 0 0, .string ⟨#[]⟩]) 11 144 Tryz.underlying259 hi hz0 hz1 hz2 rfl (by decide) (.slice pa j pc) j ((List.range j).flatMap (encP rows)) (by first | rfl | simp [Act.eval]) HR.out ⟨w2.heap.size, 0, none⟩ 1 1 [.int .i64 x.1.f0, .bool x.1.f1, .int .u64 x.1.f2, .string x.1.f3, .slice x.2.1 x.1.f4.length x.2.2, .int .i64 y.1.f0, .bool y.1.f1, .int .u64 y.1.f2, .string y.1.f3, .slice y.2.1 y.1.f4.length y.2.2, .string it] (by first | rfl | simp [Act.eval]) rfl (fun i u hu => news_pair w2 [.int .i64 x.1.f0, .bool x.1.f1, .int .u64 x.1.f2, .string x.1.f3, .slice x.2.1 x.1.f4.length x.2.2, .int .i64 y.1.f0, .bool y.1.f1, .int .u64 y.1.f2, .string y.1.f3, .slice y.2.1 y.1.f4.length y.2.2, .string it] i u hu) (pair_one x y it) (by decide) (by unfold maxLen; omega) (by omega) HBs.out _ rfl ?_
                     intro g2 c2 w3 hown hgr hor hg2lt
                     have HO3 := Lib.hid hown
                     have HB3 := Lib.hid (((HB2.out.alloc HB2.out.size (.cells #[.int .i64 x.1.f0, .bool x.1.f1, .int .u64 x.1.f2, .string x.1.f3, .slice x.2.1 x.1.f4.length x.2.2, .int .i64 y.1.f0, .bool y.1.f1, .int .u64 y.1.f2, .string y.1.f3, .slice y.2.1 y.1.f4.length y.2.2, .string it] 261)).drew).grown hgr HBs.out (fun k e => own_base HR.out k e))
                     clear hown hgr hor)
      all_goals
        clear b0 b1 b2 b3 b4 d0 d1 d2 d3 d4 hcv HR HBs
        go_wp2
        go_roundw
        case rel =>
          refine ⟨j + 1, p + 2, some ⟨g2, 0, none⟩, c2, by have := HP.out; omega, by first | rfl | trivial, by go_num, Lib.hid (by have := HP.out; omega), Lib.hid ?_, HB3⟩
          rw [List.range_succ, List.flatMap_append, List.flatMap_singleton, HE2.out]
          exact HO3.out
        case measure => simp [intOf]; omega
    · have hjm : j = m := by omega
      have hltz : ¬ (p : Int) + 1 < (n : Int) := by omega
      have hE : j = m := hjm
      subst hE
      clear hp
      have hS := fun (W : World) (hO : W.ownsRow w.heap.size 261 11 (.slice pa j pc) j ((List.range j).flatMap (encP rows))) (hb : w.heap.size ≤ W.heap.size) => sort_any rows pa pc j w.heap.size W hO (by omega) hb
      have HS := Lib.hid (hS wr HO.out HB.out.size)
      obtain ⟨i25, hj, hy0, hy1, hy2⟩ := info_parts info25z
      clear hS
      go_wp2_with (first
        | (go_at_call 153; refine HS.out.mono ?_; rintro ee w2 ⟨rfl, hb2, hh2⟩; have HB2 := Lib.hid (HB.out.trans hb2); have HH2 := Lib.hid hh2; clear hb2 hh2)
        | (at_make; refine wpList_make_own _ rfl (.const (.int .i64 0)) (.tmp 47) 23 rfl w.heap.size 25 i25 (.agg #[.int .i64 0, .bool false, .int .u64 0, .string ⟨#[]⟩, .slice none 0 0]) 5 Tryz.underlying23 hj hy0 hy1 .i64 .i64 (n : Int) n rfl rfl rfl (by rw [hy2]; omega) (by unfold maxLen; omega) HB2.out.size ?_; intro w3 hown3 hgr3; have HO3 := Lib.hid hown3; have HG3 := Lib.hid hgr3; have HB3 := Lib.hid (HB2.out.grown hgr3 HB2.out.size (fun k e => by cases e)); clear hown3 hgr3))
      obtain ⟨q3, hq3⟩ : ∃ q, w2.heap.size = q := ⟨_, rfl⟩
      rw [hq3] at HO3
      rw [hq3]
      obtain ⟨cf, hcf⟩ : ∃ cf, pairCmp (rows.map (·.1)) = cf := ⟨_, rfl⟩
      obtain ⟨d, hd⟩ : ∃ d, stable (ltOf cf) (Array.range j) j = d := ⟨_, rfl⟩
      have hds : d.size = j := by rw [← hd, size_stable, Array.size_range]
      obtain ⟨ts, hts⟩ : ∃ ts, rows.map (·.1) = ts := ⟨_, rfl⟩
      have hSF : sortedF (rows.map (·.1)) = outGo cf ts d 0 [] := by
        unfold sortedF
        rw [hcf, hts, ← hd, show ts.length / 2 = j by rw [← hts, List.length_map, HN.out]; omega]
      have HD : Hid (0 < j → ∃ g, pa = some ⟨g, 0, none⟩ ∧ g < w2.heap.size ∧ HoldsK (encP rows) 11 w2 g 0 d) := by
        have := HH2.out
        rw [hcf, hd] at this
        exact this
      have HSF := Lib.hid hSF
      have HTS := Lib.hid hts
      have HCF := Lib.hid hcf
      have HDS := Lib.hid hds
      clear hcf hd hds hts hSF HH2 HS HO HB HK
      have hB23 : Below w2.heap.size w2 w3 := (Below.refl _ w2).grown HG3.out (Nat.le_refl _) (fun k e => by cases e)
      have HB23 := Lib.hid hB23
      clear hB23 HG3
      go_loopw [9, 51] (fun v9 i wr => ∃ (k : Nat) (r : List RowT) (oa : Option Addr) (oc : Nat), k ≤ j ∧ i = .int .i64 k ∧ v9 = .slice oa (2 * k) oc ∧ Hid (r.length = 2 * k) ∧ Hid (outGo cf ts d k (r.map (·.1)) = outGo cf ts d 0 []) ∧ Hid (wr.ownsRow w.heap.size 25 5 (.slice oa (2 * k) oc) (2 * k) (rowsCells r)) ∧ Hid (∀ x ∈ r, RowOk w P x) ∧ Hid (∀ t, (Value.slice oa (2 * k) oc).ownBlock = some t → w2.heap.size ≤ t) ∧ Hid (Below w2.heap.size w2 wr) ∧ Hid (Below w.heap.size w wr)) (fun _ i _ => j - (intOf i).toNat)
      case atStart => exact ⟨0, [], some ⟨q3, 0, none⟩, n, by omega, rfl, rfl, Lib.hid rfl, Lib.hid rfl, HO3, Lib.hid (fun x hx => absurd hx (by simp)), Lib.hid (fun t ht => by have h1 : q3 = t := Option.some.inj ht; omega), HB23, HB3⟩
      case round =>
        clear HO3 HB23 HB3
        obtain ⟨k, r, oa, oc, hk, rfl, rfl, HR, HG, HO, HX2, HOW, HW2, HW⟩ := hrel
        by_cases hlt : k < j
        · have hltz : (k : Int) < (j : Int) := by omega
          obtain ⟨g2, rfl, hg2, HHd⟩ := HD.out (by omega)
          obtain ⟨x, hx⟩ : ∃ x, rows.getD (2 * d[k]!) default = x := ⟨_, rfl⟩
          obtain ⟨y, hy⟩ : ∃ y, rows.getD (2 * d[k]! + 1) default = y := ⟨_, rfl⟩
          obtain ⟨it, hit⟩ : ∃ it, itS x.1 = it := ⟨_, rfl⟩
          have hE : encP rows d[k]! = [.int .i64 x.1.f0, .bool x.1.f1, .int .u64 x.1.f2, .string x.1.f3, .slice x.2.1 x.1.f4.length x.2.2, .int .i64 y.1.f0, .bool y.1.f1, .int .u64 y.1.f2, .string y.1.f3, .slice y.2.1 y.1.f4.length y.2.2, .string it] := by unfold encP; rw [hx, hy, hit]; rfl
          have HE := Lib.hid hE
          have hkd : k < d.size := by rw [HDS.out]; exact hlt
          have hHr : HoldsK (encP rows) 11 wr g2 0 d := fun t ht => ⟨(HW2.out.cell (p := ⟨g2, 0 + t, none⟩) hg2).trans (HHd t ht).1, by
            have := (HHd t ht).2
            unfold World.frozen? at this ⊢
            rw [HW2.out.block g2 hg2]
            exact this⟩
          have HHr := Lib.hid hHr
          have HXY := Lib.hid (And.intro hx (And.intro hy hit))
          have HK := Lib.hid hkd
          clear hx hy hit hE hkd hHr HHd
          have k0 : wr.cell? ⟨g2, k * 11, none⟩ = some (.int .i64 x.1.f0) := by have := (HHr.out.cell (i := k) (c := 0) HK.out (by decide)).1; rw [Nat.zero_add, HE.out] at this; exact this
          have k1 : wr.cell? ⟨g2, k * 11 + 1, none⟩ = some (.bool x.1.f1) := by have := (HHr.out.cell (i := k) (c := 1) HK.out (by decide)).1; rw [Nat.zero_add, HE.out] at this; exact this
          have k2 : wr.cell? ⟨g2, k * 11 + 2, none⟩ = some (.int .u64 x.1.f2) := by have := (HHr.out.cell (i := k) (c := 2) HK.out (by decide)).1; rw [Nat.zero_add, HE.out] at this; exact this
          have k3 : wr.cell? ⟨g2, k * 11 + 3, none⟩ = some (.string x.1.f3) := by have := (HHr.out.cell (i := k) (c := 3) HK.out (by decide)).1; rw [Nat.zero_add, HE.out] at this; exact this
          have k4 : wr.cell? ⟨g2, k * 11 + 4, none⟩ = some (.slice x.2.1 x.1.f4.length x.2.2) := by have := (HHr.out.cell (i := k) (c := 4) HK.out (by decide)).1; rw [Nat.zero_add, HE.out] at this; exact this
          have k5 : wr.cell? ⟨g2, k * 11 + 5, none⟩ = some (.int .i64 y.1.f0) := by have := (HHr.out.cell (i := k) (c := 5) HK.out (by decide)).1; rw [Nat.zero_add, HE.out] at this; exact this
          have k6 : wr.cell? ⟨g2, k * 11 + 6, none⟩ = some (.bool y.1.f1) := by have := (HHr.out.cell (i := k) (c := 6) HK.out (by decide)).1; rw [Nat.zero_add, HE.out] at this; exact this
          have k7 : wr.cell? ⟨g2, k * 11 + 7, none⟩ = some (.int .u64 y.1.f2) := by have := (HHr.out.cell (i := k) (c := 7) HK.out (by decide)).1; rw [Nat.zero_add, HE.out] at this; exact this
          have k8 : wr.cell? ⟨g2, k * 11 + 8, none⟩ = some (.string y.1.f3) := by have := (HHr.out.cell (i := k) (c := 8) HK.out (by decide)).1; rw [Nat.zero_add, HE.out] at this; exact this
          have k9 : wr.cell? ⟨g2, k * 11 + 9, none⟩ = some (.slice y.2.1 y.1.f4.length y.2.2) := by have := (HHr.out.cell (i := k) (c := 9) HK.out (by decide)).1; rw [Nat.zero_add, HE.out] at this; exact this
          have k10 : wr.cell? ⟨g2, k * 11 + 10, none⟩ = some (.string it) := by have := (HHr.out.cell (i := k) (c := 10) HK.out (by decide)).1; rw [Nat.zero_add, HE.out] at this; exact this
          have hB4 := Blk.new wr 261 #[.int .i64 x.1.f0, .bool x.1.f1, .int .u64 x.1.f2, .string x.1.f3, .slice x.2.1 x.1.f4.length x.2.2, .int .i64 y.1.f0, .bool y.1.f1, .int .u64 y.1.f2, .string y.1.f3, .slice y.2.1 y.1.f4.length y.2.2, .string it]
          have hbw4 := HW.out.alloc HW.out.size (.cells #[.int .i64 x.1.f0, .bool x.1.f1, .int .u64 x.1.f2, .string x.1.f3, .slice x.2.1 x.1.f4.length x.2.2, .int .i64 y.1.f0, .bool y.1.f1, .int .u64 y.1.f2, .string y.1.f3, .slice y.2.1 y.1.f4.length y.2.2, .string it] 261)
          have hb24 := HW2.out.alloc HW2.out.size (.cells #[.int .i64 x.1.f0, .bool x.1.f1, .int .u64 x.1.f2, .string x.1.f3, .slice x.2.1 x.1.f4.length x.2.2, .int .i64 y.1.f0, .bool y.1.f1, .int .u64 y.1.f2, .string y.1.f3, .slice y.2.1 y.1.f4.length y.2.2, .string it] 261)
          have hbr4 := (Below.refl wr.heap.size wr).alloc (Nat.le_refl _) (.cells #[.int .i64 x.1.f0, .bool x.1.f1, .int .u64 x.1.f2, .string x.1.f3, .slice x.2.1 x.1.f4.length x.2.2, .int .i64 y.1.f0, .bool y.1.f1, .int .u64 y.1.f2, .string y.1.f3, .slice y.2.1 y.1.f4.length y.2.2, .string it] 261)
          obtain ⟨q4, hq4⟩ : ∃ q, wr.heap.size = q := ⟨_, rfl⟩
          obtain ⟨W4, hW4⟩ : ∃ W, wr.alloc (.cells #[.int .i64 x.1.f0, .bool x.1.f1, .int .u64 x.1.f2, .string x.1.f3, .slice x.2.1 x.1.f4.length x.2.2, .int .i64 y.1.f0, .bool y.1.f1, .int .u64 y.1.f2, .string y.1.f3, .slice y.2.1 y.1.f4.length y.2.2, .string it] 261) = W := ⟨_, rfl⟩
          rw [hq4] at hB4 hbr4
          rw [hW4] at hB4 hbw4 hb24 hbr4
          have HB4 := Lib.hid hB4
          have HW4 := Lib.hid hbw4
          have H24 := Lib.hid hb24
          have HR4 := Lib.hid hbr4
          have HQ4 := Lib.hid hq4
          clear hB4 hbw4 hb24 hbr4 hq4
          go_wp2_with fail
          try rw [hW4]
          try rw [HQ4.out]
          clear hW4
          have l0 : ∀ p : Gb W4, p.wd.cell? ⟨q4, 0, none⟩ = some (.int .i64 x.1.f0) := fun p => p.cell (HB4.out.cell (i := 0) rfl)
          have l1 : ∀ p : Gb W4, p.wd.cell? ⟨q4, 1, none⟩ = some (.bool x.1.f1) := fun p => p.cell (HB4.out.cell (i := 1) rfl)
          have l2 : ∀ p : Gb W4, p.wd.cell? ⟨q4, 2, none⟩ = some (.int .u64 x.1.f2) := fun p => p.cell (HB4.out.cell (i := 2) rfl)
          have l3 : ∀ p : Gb W4, p.wd.cell? ⟨q4, 3, none⟩ = some (.string x.1.f3) := fun p => p.cell (HB4.out.cell (i := 3) rfl)
          have l4 : ∀ p : Gb W4, p.wd.cell? ⟨q4, 4, none⟩ = some (.slice x.2.1 x.1.f4.length x.2.2) := fun p => p.cell (HB4.out.cell (i := 4) rfl)
          have l5 : ∀ p : Gb W4, p.wd.cell? ⟨q4, 5, none⟩ = some (.int .i64 y.1.f0) := fun p => p.cell (HB4.out.cell (i := 5) rfl)
          have l6 : ∀ p : Gb W4, p.wd.cell? ⟨q4, 6, none⟩ = some (.bool y.1.f1) := fun p => p.cell (HB4.out.cell (i := 6) rfl)
          have l7 : ∀ p : Gb W4, p.wd.cell? ⟨q4, 7, none⟩ = some (.int .u64 y.1.f2) := fun p => p.cell (HB4.out.cell (i := 7) rfl)
          have l8 : ∀ p : Gb W4, p.wd.cell? ⟨q4, 8, none⟩ = some (.string y.1.f3) := fun p => p.cell (HB4.out.cell (i := 8) rfl)
          have l9 : ∀ p : Gb W4, p.wd.cell? ⟨q4, 9, none⟩ = some (.slice y.2.1 y.1.f4.length y.2.2) := fun p => p.cell (HB4.out.cell (i := 9) rfl)
          have l10 : ∀ p : Gb W4, p.wd.cell? ⟨q4, 10, none⟩ = some (.string it) := fun p => p.cell (HB4.out.cell (i := 10) rfl)
          have HG2 : Hid (g2 < q4) := Lib.hid (by rw [← HQ4.out]; exact Nat.lt_of_lt_of_le hg2 HW2.out.size)
          have HOB : Hid (∀ t, (Value.slice oa (2 * k) oc).ownBlock = some t → w2.heap.size ≤ t) := HOW
          clear k0 k1 k2 k3 k4 k5 k6 k7 k8 k9 k10
          by_cases hk0 : k = 0
          · have kz : decide ((0 : Int) < (k : Int)) = false := decide_eq_false (by omega)
            have kz2 : decide (0 < k) = false := decide_eq_false (by omega)
            have NC : Hid (¬ (0 < k ∧ cf d[k - 1]! d[k]! = 0)) := Lib.hid (fun h => by have := h.1; omega)
            clear hk0
            have mixed : Tryz.prog.follows .mixedOrders = true := by kernel_rfl
            go_big_region_o
            all_goals
              obtain ⟨gq, hgq⟩ : ∃ gq : Gb W4, gq.wd = W4.drew := ⟨⟨W4.drew, (Below.refl _ _).drew⟩, rfl⟩
              try rw [← hgq]
              clear hgq
              have hWa := (HW4.out.trans (gq.below.mono HW4.out.size))
              have h2a := (H24.out.trans (gq.below.mono H24.out.size))
              have hOa : gq.wd.ownsRow w.heap.size 25 5 (.slice oa (2 * k) oc) (2 * k) (rowsCells r) := own_move HO.out fun t ht => by
                have hlt' := own_lt HO.out t ht
                rw [HQ4.out] at hlt'
                exact (gq.below.block t (Nat.lt_of_lt_of_le hlt' (by have := HR4.out.size; rw [HQ4.out] at this; exact this))).trans (HR4.out.block t hlt')
              have z0 := l0 gq
              have z1 := l1 gq
              have z2 := l2 gq
              have z3 := l3 gq
              have z4 := l4 gq
              have z5 := l5 gq
              have z6 := l6 gq
              have z7 := l7 gq
              have z8 := l8 gq
              have z9 := l9 gq
              obtain ⟨W5, hW5⟩ : ∃ W, gq.wd = W := ⟨_, rfl⟩
              rw [hW5] at hWa h2a hOa z0 z1 z2 z3 z4 z5 z6 z7 z8 z9 ⊢
              have HWa := Lib.hid hWa
              have H2a := Lib.hid h2a
              have HOa := Lib.hid hOa
              clear hWa h2a hOa hW5 l0 l1 l2 l3 l4 l5 l6 l7 l8 l9 l10
              go_wp2_with (at_builtin; refine wpList_append_lies _ rfl (.tmp 72) (.tmp 77) 23 rfl w.heap.size 25 i25 (.agg #[.int .i64 0, .bool false, .int .u64 0, .string ⟨#[]⟩, .slice none 0 0]) 5 64 Tryz.underlying23 hj hy0 hy1 hy2 rfl (by decide) (.slice oa (2 * k) oc) (2 * k) (rowsCells r) rfl (HOa.out.alloc (.cells #[.int .i64 x.1.f0, .bool x.1.f1, .int .u64 x.1.f2, .string x.1.f3, .slice x.2.1 x.1.f4.length x.2.2, .int .i64 y.1.f0, .bool y.1.f1, .int .u64 y.1.f2, .string y.1.f3, .slice y.2.1 y.1.f4.length y.2.2] 25)) ⟨W5.heap.size, 0, none⟩ 2 2 [.int .i64 x.1.f0, .bool x.1.f1, .int .u64 x.1.f2, .string x.1.f3, .slice x.2.1 x.1.f4.length x.2.2, .int .i64 y.1.f0, .bool y.1.f1, .int .u64 y.1.f2, .string y.1.f3, .slice y.2.1 y.1.f4.length y.2.2] rfl rfl (fun i u hu => news_ten W5 [.int .i64 x.1.f0, .bool x.1.f1, .int .u64 x.1.f2, .string x.1.f3, .slice x.2.1 x.1.f4.length x.2.2, .int .i64 y.1.f0, .bool y.1.f1, .int .u64 y.1.f2, .string y.1.f3, .slice y.2.1 y.1.f4.length y.2.2] i u hu) (ten_one x y) (by decide) (by unfold maxLen; omega) (by omega) (Nat.le_trans HWa.out.size (by simp)) _ rfl ?_; intro g6 c6 w6 hown6 hgr6 hor6 hlt6; have HO6 := Lib.hid hown6; have HBL : Hid (∀ t, (Value.slice (some ⟨g6, 0, none⟩) 0 c6).ownBlock = some t → w2.heap.size ≤ t) := Lib.hid (fun t ht => (by have h1 : g6 = t := Option.some.inj ht; rcases hor6 with h2 | h2; exact h1 ▸ HOB.out g6 h2; have := H2a.out.size; rw [World.size_alloc] at *; omega)); have HW6 := Lib.hid ((HWa.out.alloc HWa.out.size (.cells #[.int .i64 x.1.f0, .bool x.1.f1, .int .u64 x.1.f2, .string x.1.f3, .slice x.2.1 x.1.f4.length x.2.2, .int .i64 y.1.f0, .bool y.1.f1, .int .u64 y.1.f2, .string y.1.f3, .slice y.2.1 y.1.f4.length y.2.2] 25)).grown hgr6 (Nat.le_trans HWa.out.size (by simp)) (fun t e => own_base HOa.out t e)); have H26 := Lib.hid ((H2a.out.alloc H2a.out.size (.cells #[.int .i64 x.1.f0, .bool x.1.f1, .int .u64 x.1.f2, .string x.1.f3, .slice x.2.1 x.1.f4.length x.2.2, .int .i64 y.1.f0, .bool y.1.f1, .int .u64 y.1.f2, .string y.1.f3, .slice y.2.1 y.1.f4.length y.2.2] 25)).grown hgr6 (Nat.le_trans H2a.out.size (by simp)) (fun t e => HOB.out t e)); clear hown6 hgr6 hor6)
              go_roundw
              case rel =>
                refine ⟨k + 1, r ++ [x, y], some ⟨g6, 0, none⟩, c6, by omega, by go_num, by first | rfl | (congr 1) | trivial, Lib.hid (by rw [List.length_append, HR.out]; simp; omega), Lib.hid ?_, Lib.hid ?_, Lib.hid ?_, Lib.hid ?_, H26, HW6⟩
                · have hG := HG.out
                  rw [outGo, if_pos HK.out, if_neg NC.out] at hG
                  rw [← hG, List.map_append, List.map_cons, List.map_cons, List.map_nil]
                  rw [← HTS.out, getD_map, getD_map, HXY.out.1, HXY.out.2.1]
                · have := HO6.out
                  rw [show rowsCells (r ++ [x, y]) = rowsCells r ++ [.int .i64 x.1.f0, .bool x.1.f1, .int .u64 x.1.f2, .string x.1.f3, .slice x.2.1 x.1.f4.length x.2.2, .int .i64 y.1.f0, .bool y.1.f1, .int .u64 y.1.f2, .string y.1.f3, .slice y.2.1 y.1.f4.length y.2.2] by simp [rowsCells, RowT.cells]]
                  exact this
                · intro z hz
                  rcases List.mem_append.1 hz with hz | hz
                  · exact HX2.out z hz
                  · rcases List.mem_cons.1 hz with rfl | hz
                    · rw [← HXY.out.1]; exact getD_ok HX.out _
                    · rw [List.mem_singleton] at hz
                      subst hz
                      rw [← HXY.out.2.1]; exact getD_ok HX.out _
                · exact HBL.out
              case measure => simp [intOf]; omega

          · obtain ⟨kp, hkp⟩ : ∃ kp, k = kp + 1 := ⟨k - 1, by omega⟩
            have kpz : (0 : Int) < (k : Int) := by omega
            have kw : IntKind.i64.wrap ((k : Int) - 1) = (kp : Int) := by rw [IntKind.wrap_i64]; omega
            have kpj : (kp : Int) < (j : Int) := by omega
            have hkd := HK.out
            obtain ⟨xp, hxp⟩ : ∃ x, rows.getD (2 * d[kp]!) default = x := ⟨_, rfl⟩
            obtain ⟨yp, hyp⟩ : ∃ y, rows.getD (2 * d[kp]! + 1) default = y := ⟨_, rfl⟩
            obtain ⟨itp, hitp⟩ : ∃ it, itS xp.1 = it := ⟨_, rfl⟩
            have HEp : Hid (encP rows d[kp]! = [.int .i64 xp.1.f0, .bool xp.1.f1, .int .u64 xp.1.f2, .string xp.1.f3, .slice xp.2.1 xp.1.f4.length xp.2.2, .int .i64 yp.1.f0, .bool yp.1.f1, .int .u64 yp.1.f2, .string yp.1.f3, .slice yp.2.1 yp.1.f4.length yp.2.2, .string itp]) := Lib.hid (by unfold encP; rw [hxp, hyp, hitp]; rfl)
            have m0 : ∀ p : Gb W4, p.wd.cell? ⟨g2, kp * 11, none⟩ = some (.int .i64 xp.1.f0) := fun p => p.cell ((HR4.out.cell (p := ⟨g2, kp * 11, none⟩) HG2.out).trans (by have := (HHr.out.cell (i := kp) (c := 0) (by omega) (by decide)).1; rw [Nat.zero_add, HEp.out] at this; exact this))
            have m1 : ∀ p : Gb W4, p.wd.cell? ⟨g2, kp * 11 + 1, none⟩ = some (.bool xp.1.f1) := fun p => p.cell ((HR4.out.cell (p := ⟨g2, kp * 11 + 1, none⟩) HG2.out).trans (by have := (HHr.out.cell (i := kp) (c := 1) (by omega) (by decide)).1; rw [Nat.zero_add, HEp.out] at this; exact this))
            have m2 : ∀ p : Gb W4, p.wd.cell? ⟨g2, kp * 11 + 2, none⟩ = some (.int .u64 xp.1.f2) := fun p => p.cell ((HR4.out.cell (p := ⟨g2, kp * 11 + 2, none⟩) HG2.out).trans (by have := (HHr.out.cell (i := kp) (c := 2) (by omega) (by decide)).1; rw [Nat.zero_add, HEp.out] at this; exact this))
            have m3 : ∀ p : Gb W4, p.wd.cell? ⟨g2, kp * 11 + 3, none⟩ = some (.string xp.1.f3) := fun p => p.cell ((HR4.out.cell (p := ⟨g2, kp * 11 + 3, none⟩) HG2.out).trans (by have := (HHr.out.cell (i := kp) (c := 3) (by omega) (by decide)).1; rw [Nat.zero_add, HEp.out] at this; exact this))
            have m4 : ∀ p : Gb W4, p.wd.cell? ⟨g2, kp * 11 + 4, none⟩ = some (.slice xp.2.1 xp.1.f4.length xp.2.2) := fun p => p.cell ((HR4.out.cell (p := ⟨g2, kp * 11 + 4, none⟩) HG2.out).trans (by have := (HHr.out.cell (i := kp) (c := 4) (by omega) (by decide)).1; rw [Nat.zero_add, HEp.out] at this; exact this))
            have m5 : ∀ p : Gb W4, p.wd.cell? ⟨g2, kp * 11 + 5, none⟩ = some (.int .i64 yp.1.f0) := fun p => p.cell ((HR4.out.cell (p := ⟨g2, kp * 11 + 5, none⟩) HG2.out).trans (by have := (HHr.out.cell (i := kp) (c := 5) (by omega) (by decide)).1; rw [Nat.zero_add, HEp.out] at this; exact this))
            have m6 : ∀ p : Gb W4, p.wd.cell? ⟨g2, kp * 11 + 6, none⟩ = some (.bool yp.1.f1) := fun p => p.cell ((HR4.out.cell (p := ⟨g2, kp * 11 + 6, none⟩) HG2.out).trans (by have := (HHr.out.cell (i := kp) (c := 6) (by omega) (by decide)).1; rw [Nat.zero_add, HEp.out] at this; exact this))
            have m7 : ∀ p : Gb W4, p.wd.cell? ⟨g2, kp * 11 + 7, none⟩ = some (.int .u64 yp.1.f2) := fun p => p.cell ((HR4.out.cell (p := ⟨g2, kp * 11 + 7, none⟩) HG2.out).trans (by have := (HHr.out.cell (i := kp) (c := 7) (by omega) (by decide)).1; rw [Nat.zero_add, HEp.out] at this; exact this))
            have m8 : ∀ p : Gb W4, p.wd.cell? ⟨g2, kp * 11 + 8, none⟩ = some (.string yp.1.f3) := fun p => p.cell ((HR4.out.cell (p := ⟨g2, kp * 11 + 8, none⟩) HG2.out).trans (by have := (HHr.out.cell (i := kp) (c := 8) (by omega) (by decide)).1; rw [Nat.zero_add, HEp.out] at this; exact this))
            have m9 : ∀ p : Gb W4, p.wd.cell? ⟨g2, kp * 11 + 9, none⟩ = some (.slice yp.2.1 yp.1.f4.length yp.2.2) := fun p => p.cell ((HR4.out.cell (p := ⟨g2, kp * 11 + 9, none⟩) HG2.out).trans (by have := (HHr.out.cell (i := kp) (c := 9) (by omega) (by decide)).1; rw [Nat.zero_add, HEp.out] at this; exact this))
            have m10 : ∀ p : Gb W4, p.wd.cell? ⟨g2, kp * 11 + 10, none⟩ = some (.string itp) := fun p => p.cell ((HR4.out.cell (p := ⟨g2, kp * 11 + 10, none⟩) HG2.out).trans (by have := (HHr.out.cell (i := kp) (c := 10) (by omega) (by decide)).1; rw [Nat.zero_add, HEp.out] at this; exact this))

            obtain ⟨cv, hcv⟩ : ∃ cv, keyCmp itp it = cv := ⟨_, rfl⟩
            have hcon : ∀ W, Calls Tryz.prog 151 #[.agg #[.int .i64 xp.1.f0, .bool xp.1.f1, .int .u64 xp.1.f2, .string xp.1.f3, .slice xp.2.1 xp.1.f4.length xp.2.2, .int .i64 yp.1.f0, .bool yp.1.f1, .int .u64 yp.1.f2, .string yp.1.f3, .slice yp.2.1 yp.1.f4.length yp.2.2, .string itp], .agg #[.int .i64 x.1.f0, .bool x.1.f1, .int .u64 x.1.f2, .string x.1.f3, .slice x.2.1 x.1.f4.length x.2.2, .int .i64 y.1.f0, .bool y.1.f1, .int .u64 y.1.f2, .string y.1.f3, .slice y.2.1 y.1.f4.length y.2.2, .string it]] W (Ret (.int .i64 cv) W) := fun W => by
              have := by_ret xp yp x y itp it W
              rw [hcv] at this
              exact this
            have hcfv : cf d[k - 1]! d[k]! = cv := by
              rw [← HCF.out, hkp, Nat.add_sub_cancel, ← hkp]
              unfold pairCmp
              rw [getD_map, getD_map, hxp, HXY.out.1, hitp, HXY.out.2.2, hcv]
            have HCV := Lib.hid hcfv
            have hkpos : 0 < k := by omega
            clear hxp hyp hitp hcv hcfv hkp hkd
            by_cases hc : cv = 0
            · have hcb : (cv == 0) = true := by simpa using hc
              have hG := HG.out
              rw [outGo, if_pos HK.out, if_pos ⟨hkpos, by rw [HCV.out]; exact hc⟩] at hG
              have HF : Hid (sortedF (rows.map (·.1)) = none) := Lib.hid (HSF.out.trans hG.symm)
              clear hG hc
              refine wp_region_below (by kernel_rfl) (by kernel_rfl) ?_
              repeat (quiet_step ((go_at_call 151; refine Calls.gb_of (hcon _))))
              refine wpQuiet_nil ?_
              intro _ hw'
              obtain ⟨gq, hw''⟩ := hw'
              subst hw''

              have HWa := Lib.hid (HW4.out.trans (gq.below.mono HW4.out.size))
              have hm1 : ∀ (v : Value) (w : World), (Instr.makeInterface 27 v).run Tryz.prog w = .ok (.iface 27 v) w := fun _ _ => rfl
              have hm2 : ∀ (v : Value) (w : World), (Instr.makeInterface 147 v).run Tryz.prog w = .ok (.iface 147 v) w := fun _ _ => rfl
              go_wp2
              refine bodyPost_ret (v := .tuple #[.slice none 0 0, .iface 147 (.agg #[.iface 27 (.int .i64 4)])]) (by simp [results, Tryz.results123, go_sem]) rfl ⟨HWa.out, ?_⟩
              rw [HF.out]
            · have hcb : (cv == 0) = false := by simpa using hc
              have NC : Hid (¬ (0 < k ∧ cf d[k - 1]! d[k]! = 0)) := Lib.hid (fun h => hc (by rw [← HCV.out]; exact h.2))
              clear hc
              refine wp_region_below (by kernel_rfl) (by kernel_rfl) ?_
              repeat (quiet_step ((go_at_call 151; refine Calls.gb_of (hcon _))))
              refine wpQuiet_nil ?_
              intro _ hw'
              obtain ⟨gq, hw''⟩ := hw'
              subst hw''
              clear m0 m1 m2 m3 m4 m5 m6 m7 m8 m9 m10
              have hWa := (HW4.out.trans (gq.below.mono HW4.out.size))
              have h2a := (H24.out.trans (gq.below.mono H24.out.size))
              have hOa : gq.wd.ownsRow w.heap.size 25 5 (.slice oa (2 * k) oc) (2 * k) (rowsCells r) := own_move HO.out fun t ht => by
                have hlt' := own_lt HO.out t ht
                rw [HQ4.out] at hlt'
                exact (gq.below.block t (Nat.lt_of_lt_of_le hlt' (by have := HR4.out.size; rw [HQ4.out] at this; exact this))).trans (HR4.out.block t hlt')
              have z0 := l0 gq
              have z1 := l1 gq
              have z2 := l2 gq
              have z3 := l3 gq
              have z4 := l4 gq
              have z5 := l5 gq
              have z6 := l6 gq
              have z7 := l7 gq
              have z8 := l8 gq
              have z9 := l9 gq
              obtain ⟨W5, hW5⟩ : ∃ W, gq.wd = W := ⟨_, rfl⟩
              rw [hW5] at hWa h2a hOa z0 z1 z2 z3 z4 z5 z6 z7 z8 z9 ⊢
              have HWa := Lib.hid hWa
              have H2a := Lib.hid h2a
              have HOa := Lib.hid hOa
              clear hWa h2a hOa hW5 l0 l1 l2 l3 l4 l5 l6 l7 l8 l9 l10
              go_wp2_with (at_builtin; refine wpList_append_lies _ rfl (.tmp 72) (.tmp 77) 23 rfl w.heap.size 25 i25 (.agg #[.int .i64 0, .bool false, .int .u64 0, .string ⟨#[]⟩, .slice none 0 0]) 5 64 Tryz.underlying23 hj hy0 hy1 hy2 rfl (by decide) (.slice oa (2 * k) oc) (2 * k) (rowsCells r) rfl (HOa.out.alloc (.cells #[.int .i64 x.1.f0, .bool x.1.f1, .int .u64 x.1.f2, .string x.1.f3, .slice x.2.1 x.1.f4.length x.2.2, .int .i64 y.1.f0, .bool y.1.f1, .int .u64 y.1.f2, .string y.1.f3, .slice y.2.1 y.1.f4.length y.2.2] 25)) ⟨W5.heap.size, 0, none⟩ 2 2 [.int .i64 x.1.f0, .bool x.1.f1, .int .u64 x.1.f2, .string x.1.f3, .slice x.2.1 x.1.f4.length x.2.2, .int .i64 y.1.f0, .bool y.1.f1, .int .u64 y.1.f2, .string y.1.f3, .slice y.2.1 y.1.f4.length y.2.2] rfl rfl (fun i u hu => news_ten W5 [.int .i64 x.1.f0, .bool x.1.f1, .int .u64 x.1.f2, .string x.1.f3, .slice x.2.1 x.1.f4.length x.2.2, .int .i64 y.1.f0, .bool y.1.f1, .int .u64 y.1.f2, .string y.1.f3, .slice y.2.1 y.1.f4.length y.2.2] i u hu) (ten_one x y) (by decide) (by unfold maxLen; omega) (by omega) (Nat.le_trans HWa.out.size (by simp)) _ rfl ?_; intro g6 c6 w6 hown6 hgr6 hor6 hlt6; have HO6 := Lib.hid hown6; have HBL : Hid (∀ t, (Value.slice (some ⟨g6, 0, none⟩) 0 c6).ownBlock = some t → w2.heap.size ≤ t) := Lib.hid (fun t ht => (by have h1 : g6 = t := Option.some.inj ht; rcases hor6 with h2 | h2; exact h1 ▸ HOB.out g6 h2; have := H2a.out.size; rw [World.size_alloc] at *; omega)); have HW6 := Lib.hid ((HWa.out.alloc HWa.out.size (.cells #[.int .i64 x.1.f0, .bool x.1.f1, .int .u64 x.1.f2, .string x.1.f3, .slice x.2.1 x.1.f4.length x.2.2, .int .i64 y.1.f0, .bool y.1.f1, .int .u64 y.1.f2, .string y.1.f3, .slice y.2.1 y.1.f4.length y.2.2] 25)).grown hgr6 (Nat.le_trans HWa.out.size (by simp)) (fun t e => own_base HOa.out t e)); have H26 := Lib.hid ((H2a.out.alloc H2a.out.size (.cells #[.int .i64 x.1.f0, .bool x.1.f1, .int .u64 x.1.f2, .string x.1.f3, .slice x.2.1 x.1.f4.length x.2.2, .int .i64 y.1.f0, .bool y.1.f1, .int .u64 y.1.f2, .string y.1.f3, .slice y.2.1 y.1.f4.length y.2.2] 25)).grown hgr6 (Nat.le_trans H2a.out.size (by simp)) (fun t e => HOB.out t e)); clear hown6 hgr6 hor6)
              go_roundw
              case rel =>
                refine ⟨k + 1, r ++ [x, y], some ⟨g6, 0, none⟩, c6, by omega, by go_num, by first | rfl | (congr 1) | trivial, Lib.hid (by rw [List.length_append, HR.out]; simp; omega), Lib.hid ?_, Lib.hid ?_, Lib.hid ?_, Lib.hid ?_, H26, HW6⟩
                · have hG := HG.out
                  rw [outGo, if_pos HK.out, if_neg NC.out] at hG
                  rw [← hG, List.map_append, List.map_cons, List.map_cons, List.map_nil]
                  rw [← HTS.out, getD_map, getD_map, HXY.out.1, HXY.out.2.1]
                · have := HO6.out
                  rw [show rowsCells (r ++ [x, y]) = rowsCells r ++ [.int .i64 x.1.f0, .bool x.1.f1, .int .u64 x.1.f2, .string x.1.f3, .slice x.2.1 x.1.f4.length x.2.2, .int .i64 y.1.f0, .bool y.1.f1, .int .u64 y.1.f2, .string y.1.f3, .slice y.2.1 y.1.f4.length y.2.2] by simp [rowsCells, RowT.cells]]
                  exact this
                · intro z hz
                  rcases List.mem_append.1 hz with hz | hz
                  · exact HX2.out z hz
                  · rcases List.mem_cons.1 hz with rfl | hz
                    · rw [← HXY.out.1]; exact getD_ok HX.out _
                    · rw [List.mem_singleton] at hz
                      subst hz
                      rw [← HXY.out.2.1]; exact getD_ok HX.out _
                · exact HBL.out
              case measure => simp [intOf]; omega

        · have hkj : k = j := by omega
          subst hkj
          have hkk : ¬ (k : Int) < (k : Int) := by omega
          have hG := HG.out
          rw [outGo, if_neg (by rw [HDS.out]; exact Nat.lt_irrefl _)] at hG
          have HF : Hid (sortedF (rows.map (·.1)) = some (r.map (·.1))) := Lib.hid (HSF.out.trans hG.symm)
          clear hG
          go_wp2
          refine bodyPost_ret (v := .tuple #[.slice oa (2 * k) oc, .nilIface]) (by simp [results, Tryz.results123, go_sem]) rfl ⟨HW.out, ?_⟩
          rw [HF.out]
          have hl : (r.map (·.1)).length = 2 * k := by rw [List.length_map]; exact HR.out
          exact ⟨oa, oc, r, by rw [hl], rfl, by rw [hl]; exact HO.out, fun z hz => (HX2.out z hz).keep (fun _ h => h) (fun g hg => HW.out.block g (hP g hg))⟩
end Go.Proofs.YtfmceonbejlhlaaGreatDoor

/-
  fbits' Least; det's least.
-/
namespace Go.Proofs.YtfmceonbejlhlaaGreatDoor
open Go.RowKit Go.Proofs.YtfmceonbejlhlaaGreatDoorW.PrintWords Go.Proofs.YtfmceonbejlhlaaGreatDoorW.PrintLast Go.Proofs.YtfmceonbejlhlaaGreatDoorW.PrintMore
set_option linter.unusedVariables false

set_option maxHeartbeats 8000000 in
set_option maxRecDepth 100000 in
theorem least_det (b : Int) (hb : U64 b) : ∃ wd x, (wd = 16 ∨ wd = 32 ∨ wd = 64) ∧ U64 x ∧ Det 150 #[.int .u64 b] (.tuple #[.int .i64 wd, .int .u64 x]) := by
  obtain ⟨x0, ok0, e0, hx0, hN0⟩ := narrow_det (a := 16) (e := 5) (f := 10) (.inl ⟨rfl, rfl, rfl⟩) b hb
  obtain ⟨x1, ok1, e1, hx1, hN1⟩ := narrow_det (a := 32) (e := 8) (f := 23) (.inr (.inl ⟨rfl, rfl, rfl⟩)) b hb
  obtain ⟨x2, ok2, e2, hx2, hN2⟩ := narrow_det (a := 64) (e := 11) (f := 52) (.inr (.inr ⟨rfl, rfl, rfl⟩)) b hb
  have HN0 := Lib.hid hN0
  have HN1 := Lib.hid hN1
  have HN2 := Lib.hid hN2
  clear hN0 hN1 hN2
  have i0 := fun W => index_width0 W
  have i1 := fun W => index_width1 W
  have i2 := fun W => index_width2 W
  cases ok0
  case true =>
    refine ⟨16, x0, by omega, hx0, fun w => ?_⟩
    go_enter Tryz.func150, Tryz.ntmps150
    go_wp2_with (go_at_call 97; refine (widths_any _).mono ?_; rintro ee w1 ⟨rfl, hb1⟩)
    have HB := Lib.hid hb1
    clear hb1
    go_loopw [10] (fun i wr => ∃ k : Nat, k ≤ 0 ∧ i = .int .i64 k ∧ Hid (Below w.heap.size w wr)) (fun i _ => 4 - (intOf i).toNat)
    case atStart => exact ⟨0, by omega, rfl, HB⟩
    case round =>
      clear HB
      obtain ⟨k, hk, rfl, HB1⟩ := hrel
      obtain rfl : k = 0 := by omega
      ·
        have R := Row3.new wr 168 (.int .i64 16) (.int .i64 5) (.int .i64 10)
        have c0 := R.c0
        have hB1 := HB1.out.alloc HB1.out.size (.cells #[.int .i64 16, .int .i64 5, .int .i64 10] 168)
        go_wp2_with (go_at_call 54; refine (HN0.out _).mono ?_; rintro ee w2 ⟨rfl, hb2⟩; have c0 := (R.below hb2).c0; have hB2 := hB1.trans (hb2.mono hB1.size))
        exact bodyPost_ret (v := .tuple #[.int .i64 16, .int .u64 x0]) (by simp [results, Tryz.results150, go_sem]) rfl ⟨rfl, hB2⟩
  cases ok1
  case true =>
    refine ⟨32, x1, by omega, hx1, fun w => ?_⟩
    go_enter Tryz.func150, Tryz.ntmps150
    go_wp2_with (go_at_call 97; refine (widths_any _).mono ?_; rintro ee w1 ⟨rfl, hb1⟩)
    have HB := Lib.hid hb1
    clear hb1
    go_loopw [10] (fun i wr => ∃ k : Nat, k ≤ 1 ∧ i = .int .i64 k ∧ Hid (Below w.heap.size w wr)) (fun i _ => 4 - (intOf i).toNat)
    case atStart => exact ⟨0, by omega, rfl, HB⟩
    case round =>
      clear HB
      obtain ⟨k, hk, rfl, HB1⟩ := hrel
      obtain rfl | rfl : k = 0 ∨ k = 1 := by omega
      ·
        have R := Row3.new wr 168 (.int .i64 16) (.int .i64 5) (.int .i64 10)
        have c0 := R.c0
        have hB1 := HB1.out.alloc HB1.out.size (.cells #[.int .i64 16, .int .i64 5, .int .i64 10] 168)
        go_wp2_with (go_at_call 54; refine (HN0.out _).mono ?_; rintro ee w2 ⟨rfl, hb2⟩; have c0 := (R.below hb2).c0; have hB2 := hB1.trans (hb2.mono hB1.size))
        go_roundw
        case rel => exact ⟨1, by omega, by go_num, hB2⟩
        case measure => simp [intOf]
      ·
        have R := Row3.new wr 168 (.int .i64 32) (.int .i64 8) (.int .i64 23)
        have c0 := R.c0
        have hB1 := HB1.out.alloc HB1.out.size (.cells #[.int .i64 32, .int .i64 8, .int .i64 23] 168)
        go_wp2_with (go_at_call 54; refine (HN1.out _).mono ?_; rintro ee w2 ⟨rfl, hb2⟩; have c0 := (R.below hb2).c0; have hB2 := hB1.trans (hb2.mono hB1.size))
        exact bodyPost_ret (v := .tuple #[.int .i64 32, .int .u64 x1]) (by simp [results, Tryz.results150, go_sem]) rfl ⟨rfl, hB2⟩
  cases ok2
  case true =>
    refine ⟨64, x2, by omega, hx2, fun w => ?_⟩
    go_enter Tryz.func150, Tryz.ntmps150
    go_wp2_with (go_at_call 97; refine (widths_any _).mono ?_; rintro ee w1 ⟨rfl, hb1⟩)
    have HB := Lib.hid hb1
    clear hb1
    go_loopw [10] (fun i wr => ∃ k : Nat, k ≤ 2 ∧ i = .int .i64 k ∧ Hid (Below w.heap.size w wr)) (fun i _ => 4 - (intOf i).toNat)
    case atStart => exact ⟨0, by omega, rfl, HB⟩
    case round =>
      clear HB
      obtain ⟨k, hk, rfl, HB1⟩ := hrel
      obtain rfl | rfl | rfl : k = 0 ∨ k = 1 ∨ k = 2 := by omega
      ·
        have R := Row3.new wr 168 (.int .i64 16) (.int .i64 5) (.int .i64 10)
        have c0 := R.c0
        have hB1 := HB1.out.alloc HB1.out.size (.cells #[.int .i64 16, .int .i64 5, .int .i64 10] 168)
        go_wp2_with (go_at_call 54; refine (HN0.out _).mono ?_; rintro ee w2 ⟨rfl, hb2⟩; have c0 := (R.below hb2).c0; have hB2 := hB1.trans (hb2.mono hB1.size))
        go_roundw
        case rel => exact ⟨1, by omega, by go_num, hB2⟩
        case measure => simp [intOf]
      ·
        have R := Row3.new wr 168 (.int .i64 32) (.int .i64 8) (.int .i64 23)
        have c0 := R.c0
        have hB1 := HB1.out.alloc HB1.out.size (.cells #[.int .i64 32, .int .i64 8, .int .i64 23] 168)
        go_wp2_with (go_at_call 54; refine (HN1.out _).mono ?_; rintro ee w2 ⟨rfl, hb2⟩; have c0 := (R.below hb2).c0; have hB2 := hB1.trans (hb2.mono hB1.size))
        go_roundw
        case rel => exact ⟨2, by omega, by go_num, hB2⟩
        case measure => simp [intOf]
      ·
        have R := Row3.new wr 168 (.int .i64 64) (.int .i64 11) (.int .i64 52)
        have c0 := R.c0
        have hB1 := HB1.out.alloc HB1.out.size (.cells #[.int .i64 64, .int .i64 11, .int .i64 52] 168)
        go_wp2_with (go_at_call 54; refine (HN2.out _).mono ?_; rintro ee w2 ⟨rfl, hb2⟩; have c0 := (R.below hb2).c0; have hB2 := hB1.trans (hb2.mono hB1.size))
        exact bodyPost_ret (v := .tuple #[.int .i64 64, .int .u64 x2]) (by simp [results, Tryz.results150, go_sem]) rfl ⟨rfl, hB2⟩
  refine ⟨64, b, by omega, hb, fun w => ?_⟩
  go_enter Tryz.func150, Tryz.ntmps150
  go_wp2_with (go_at_call 97; refine (widths_any _).mono ?_; rintro ee w1 ⟨rfl, hb1⟩)
  have HB := Lib.hid hb1
  clear hb1
  go_loopw [10] (fun i wr => ∃ k : Nat, k ≤ 3 ∧ i = .int .i64 k ∧ Hid (Below w.heap.size w wr)) (fun i _ => 4 - (intOf i).toNat)
  case atStart => exact ⟨0, by omega, rfl, HB⟩
  case round =>
    clear HB
    obtain ⟨k, hk, rfl, HB1⟩ := hrel
    obtain rfl | rfl | rfl | rfl : k = 0 ∨ k = 1 ∨ k = 2 ∨ k = 3 := by omega
    ·
      have R := Row3.new wr 168 (.int .i64 16) (.int .i64 5) (.int .i64 10)
      have c0 := R.c0
      have hB1 := HB1.out.alloc HB1.out.size (.cells #[.int .i64 16, .int .i64 5, .int .i64 10] 168)
      go_wp2_with (go_at_call 54; refine (HN0.out _).mono ?_; rintro ee w2 ⟨rfl, hb2⟩; have c0 := (R.below hb2).c0; have hB2 := hB1.trans (hb2.mono hB1.size))
      go_roundw
      case rel => exact ⟨1, by omega, by go_num, hB2⟩
      case measure => simp [intOf]
    ·
      have R := Row3.new wr 168 (.int .i64 32) (.int .i64 8) (.int .i64 23)
      have c0 := R.c0
      have hB1 := HB1.out.alloc HB1.out.size (.cells #[.int .i64 32, .int .i64 8, .int .i64 23] 168)
      go_wp2_with (go_at_call 54; refine (HN1.out _).mono ?_; rintro ee w2 ⟨rfl, hb2⟩; have c0 := (R.below hb2).c0; have hB2 := hB1.trans (hb2.mono hB1.size))
      go_roundw
      case rel => exact ⟨2, by omega, by go_num, hB2⟩
      case measure => simp [intOf]
    ·
      have R := Row3.new wr 168 (.int .i64 64) (.int .i64 11) (.int .i64 52)
      have c0 := R.c0
      have hB1 := HB1.out.alloc HB1.out.size (.cells #[.int .i64 64, .int .i64 11, .int .i64 52] 168)
      go_wp2_with (go_at_call 54; refine (HN2.out _).mono ?_; rintro ee w2 ⟨rfl, hb2⟩; have c0 := (R.below hb2).c0; have hB2 := hB1.trans (hb2.mono hB1.size))
      go_roundw
      case rel => exact ⟨3, by omega, by go_num, hB2⟩
      case measure => simp [intOf]
    ·
      go_wp2
      exact bodyPost_ret (v := .tuple #[.int .i64 64, .int .u64 b]) (by simp [results, Tryz.results150, go_sem]) rfl ⟨rfl, HB1.out⟩

set_option maxHeartbeats 4000000 in
set_option maxRecDepth 100000 in
theorem dleast_det {a e f : Int} (h : Wd a e f) (n : Int) (hn : U64 n) : ∃ K N, (K = 6 ∨ K = 7 ∨ K = 8) ∧ U64 N ∧ Det 121 #[.int .i64 a, .int .u64 n] (.agg #[.int .i64 K, .bool false, .int .u64 N, .string ⟨#[]⟩, .slice none 0 0]) := by
  obtain ⟨v, er, hv, hW⟩ := widen_det h n hn
  obtain ⟨wd, x, hwd, hx, hL⟩ := least_det v hv
  have HW := Lib.hid hW
  have HL := Lib.hid hL
  clear hW hL
  rcases hwd with rfl | rfl | rfl
  · refine ⟨6, x, by omega, hx, fun w => ?_⟩
    have S0 := Row5.new w (.int .i64 0) (.bool false) (.int .u64 0) (.string ⟨#[]⟩) (.slice none 0 0)
    have hB0 := (Below.refl w.heap.size w).alloc (Nat.le_refl _) (.cells #[.int .i64 0, .bool false, .int .u64 0, .string ⟨#[]⟩, .slice none 0 0] 25)
    have hq := S0.lt
    go_enter Tryz.func121, Tryz.ntmps121
    go_wp2_with (first
      | (go_at_call 53; refine (HW.out _).mono ?_; rintro ee w1 ⟨rfl, hb1⟩; have S1 := S0.below hb1; have hB1 := hB0.trans (hb1.mono hB0.size))
      | (go_at_call 150; refine (HL.out _).mono ?_; rintro ee w2 ⟨rfl, hb2⟩; have S2 := (S1.below hb2).alloc (.cells #[.int .i64 6, .int .i64 7, .int .i64 8] 258); have hB2 := hB1.trans (hb2.mono hB1.size); have hB3 := hB2.alloc hB2.size (.cells #[.int .i64 6, .int .i64 7, .int .i64 8] 258); have A := Blk.new w2 258 #[.int .i64 6, .int .i64 7, .int .i64 8]; have a0 := A.cell (i := 0) rfl; have a1 := A.cell (i := 1) rfl; have a2 := A.cell (i := 2) rfl; have d0 := S2.c0; have d1 := S2.c1; have d2 := S2.c2; have d3 := S2.c3; have d4 := S2.c4; have z0 := S2.fz 0; have z1 := S2.fz 1; have z2 := S2.fz 2; have z3 := S2.fz 3; have z4 := S2.fz 4))
    have hr := ((((S2.s0 (.int .i64 6)).s1 (.bool false)).s2 (.int .u64 x)).s3 (.string ⟨#[]⟩)).s4 (.slice none 0 0)
    have hb := ((((hB3.setCell (p := ⟨w.heap.size, 0, none⟩) (Nat.le_refl _) (.int .i64 6)).setCell (p := ⟨w.heap.size, 1, none⟩) (Nat.le_refl _) (.bool false)).setCell (p := ⟨w.heap.size, 2, none⟩) (Nat.le_refl _) (.int .u64 x)).setCell (p := ⟨w.heap.size, 3, none⟩) (Nat.le_refl _) (.string ⟨#[]⟩)).setCell (p := ⟨w.heap.size, 4, none⟩) (Nat.le_refl _) (.slice none 0 0)
    generalize (((((w2.alloc (.cells #[.int .i64 6, .int .i64 7, .int .i64 8] 258)).setCell ⟨w.heap.size, 0, none⟩ (.int .i64 6)).setCell ⟨w.heap.size, 1, none⟩ (.bool false)).setCell ⟨w.heap.size, 2, none⟩ (.int .u64 x)).setCell ⟨w.heap.size, 3, none⟩ (.string ⟨#[]⟩)).setCell ⟨w.heap.size, 4, none⟩ (.slice none 0 0) = W5 at hr hb ⊢
    have e0 := hr.c0
    have e1 := hr.c1
    have e2 := hr.c2
    have e3 := hr.c3
    have e4 := hr.c4
    exact bodyPost_ret (v := .agg #[.int .i64 6, .bool false, .int .u64 x, .string ⟨#[]⟩, .slice none 0 0]) (by simp [results, Tryz.results121, go_sem, e0, e1, e2, e3, e4]) rfl ⟨rfl, hb⟩
  · refine ⟨7, x, by omega, hx, fun w => ?_⟩
    have S0 := Row5.new w (.int .i64 0) (.bool false) (.int .u64 0) (.string ⟨#[]⟩) (.slice none 0 0)
    have hB0 := (Below.refl w.heap.size w).alloc (Nat.le_refl _) (.cells #[.int .i64 0, .bool false, .int .u64 0, .string ⟨#[]⟩, .slice none 0 0] 25)
    have hq := S0.lt
    go_enter Tryz.func121, Tryz.ntmps121
    go_wp2_with (first
      | (go_at_call 53; refine (HW.out _).mono ?_; rintro ee w1 ⟨rfl, hb1⟩; have S1 := S0.below hb1; have hB1 := hB0.trans (hb1.mono hB0.size))
      | (go_at_call 150; refine (HL.out _).mono ?_; rintro ee w2 ⟨rfl, hb2⟩; have S2 := (S1.below hb2).alloc (.cells #[.int .i64 6, .int .i64 7, .int .i64 8] 258); have hB2 := hB1.trans (hb2.mono hB1.size); have hB3 := hB2.alloc hB2.size (.cells #[.int .i64 6, .int .i64 7, .int .i64 8] 258); have A := Blk.new w2 258 #[.int .i64 6, .int .i64 7, .int .i64 8]; have a0 := A.cell (i := 0) rfl; have a1 := A.cell (i := 1) rfl; have a2 := A.cell (i := 2) rfl; have d0 := S2.c0; have d1 := S2.c1; have d2 := S2.c2; have d3 := S2.c3; have d4 := S2.c4; have z0 := S2.fz 0; have z1 := S2.fz 1; have z2 := S2.fz 2; have z3 := S2.fz 3; have z4 := S2.fz 4))
    have hr := ((((S2.s0 (.int .i64 7)).s1 (.bool false)).s2 (.int .u64 x)).s3 (.string ⟨#[]⟩)).s4 (.slice none 0 0)
    have hb := ((((hB3.setCell (p := ⟨w.heap.size, 0, none⟩) (Nat.le_refl _) (.int .i64 7)).setCell (p := ⟨w.heap.size, 1, none⟩) (Nat.le_refl _) (.bool false)).setCell (p := ⟨w.heap.size, 2, none⟩) (Nat.le_refl _) (.int .u64 x)).setCell (p := ⟨w.heap.size, 3, none⟩) (Nat.le_refl _) (.string ⟨#[]⟩)).setCell (p := ⟨w.heap.size, 4, none⟩) (Nat.le_refl _) (.slice none 0 0)
    generalize (((((w2.alloc (.cells #[.int .i64 6, .int .i64 7, .int .i64 8] 258)).setCell ⟨w.heap.size, 0, none⟩ (.int .i64 7)).setCell ⟨w.heap.size, 1, none⟩ (.bool false)).setCell ⟨w.heap.size, 2, none⟩ (.int .u64 x)).setCell ⟨w.heap.size, 3, none⟩ (.string ⟨#[]⟩)).setCell ⟨w.heap.size, 4, none⟩ (.slice none 0 0) = W5 at hr hb ⊢
    have e0 := hr.c0
    have e1 := hr.c1
    have e2 := hr.c2
    have e3 := hr.c3
    have e4 := hr.c4
    exact bodyPost_ret (v := .agg #[.int .i64 7, .bool false, .int .u64 x, .string ⟨#[]⟩, .slice none 0 0]) (by simp [results, Tryz.results121, go_sem, e0, e1, e2, e3, e4]) rfl ⟨rfl, hb⟩
  · refine ⟨8, x, by omega, hx, fun w => ?_⟩
    have S0 := Row5.new w (.int .i64 0) (.bool false) (.int .u64 0) (.string ⟨#[]⟩) (.slice none 0 0)
    have hB0 := (Below.refl w.heap.size w).alloc (Nat.le_refl _) (.cells #[.int .i64 0, .bool false, .int .u64 0, .string ⟨#[]⟩, .slice none 0 0] 25)
    have hq := S0.lt
    go_enter Tryz.func121, Tryz.ntmps121
    go_wp2_with (first
      | (go_at_call 53; refine (HW.out _).mono ?_; rintro ee w1 ⟨rfl, hb1⟩; have S1 := S0.below hb1; have hB1 := hB0.trans (hb1.mono hB0.size))
      | (go_at_call 150; refine (HL.out _).mono ?_; rintro ee w2 ⟨rfl, hb2⟩; have S2 := (S1.below hb2).alloc (.cells #[.int .i64 6, .int .i64 7, .int .i64 8] 258); have hB2 := hB1.trans (hb2.mono hB1.size); have hB3 := hB2.alloc hB2.size (.cells #[.int .i64 6, .int .i64 7, .int .i64 8] 258); have A := Blk.new w2 258 #[.int .i64 6, .int .i64 7, .int .i64 8]; have a0 := A.cell (i := 0) rfl; have a1 := A.cell (i := 1) rfl; have a2 := A.cell (i := 2) rfl; have d0 := S2.c0; have d1 := S2.c1; have d2 := S2.c2; have d3 := S2.c3; have d4 := S2.c4; have z0 := S2.fz 0; have z1 := S2.fz 1; have z2 := S2.fz 2; have z3 := S2.fz 3; have z4 := S2.fz 4))
    have hr := ((((S2.s0 (.int .i64 8)).s1 (.bool false)).s2 (.int .u64 x)).s3 (.string ⟨#[]⟩)).s4 (.slice none 0 0)
    have hb := ((((hB3.setCell (p := ⟨w.heap.size, 0, none⟩) (Nat.le_refl _) (.int .i64 8)).setCell (p := ⟨w.heap.size, 1, none⟩) (Nat.le_refl _) (.bool false)).setCell (p := ⟨w.heap.size, 2, none⟩) (Nat.le_refl _) (.int .u64 x)).setCell (p := ⟨w.heap.size, 3, none⟩) (Nat.le_refl _) (.string ⟨#[]⟩)).setCell (p := ⟨w.heap.size, 4, none⟩) (Nat.le_refl _) (.slice none 0 0)
    generalize (((((w2.alloc (.cells #[.int .i64 6, .int .i64 7, .int .i64 8] 258)).setCell ⟨w.heap.size, 0, none⟩ (.int .i64 8)).setCell ⟨w.heap.size, 1, none⟩ (.bool false)).setCell ⟨w.heap.size, 2, none⟩ (.int .u64 x)).setCell ⟨w.heap.size, 3, none⟩ (.string ⟨#[]⟩)).setCell ⟨w.heap.size, 4, none⟩ (.slice none 0 0) = W5 at hr hb ⊢
    have e0 := hr.c0
    have e1 := hr.c1
    have e2 := hr.c2
    have e3 := hr.c3
    have e4 := hr.c4
    exact bodyPost_ret (v := .agg #[.int .i64 8, .bool false, .int .u64 x, .string ⟨#[]⟩, .slice none 0 0]) (by simp [results, Tryz.results121, go_sem, e0, e1, e2, e3, e4]) rfl ⟨rfl, hb⟩
end Go.Proofs.YtfmceonbejlhlaaGreatDoor

/-
  det's number.
-/
namespace Go.Proofs.YtfmceonbejlhlaaGreatDoor
open Go.RowKit Go.Proofs.YtfmceonbejlhlaaGreatDoorW.PrintWords Go.Proofs.YtfmceonbejlhlaaGreatDoorW.PrintLast Go.Proofs.YtfmceonbejlhlaaGreatDoorW.PrintMore
set_option linter.unusedVariables false

/-- No byte 0 ahead. -/
def strip (s : ByteArray) : ByteArray := if h : 0 < s.size ∧ (strB s).getD 0 0 = 0 then strip (s.extract 1 s.size) else s
termination_by s.size
decreasing_by rw [ByteArray.size_extract]; omega
def orGo : List Int → Nat → Int → Int
  | [], _, N => N
  | x :: r, i, N => orGo r (i + 1) (Go.bits .or .u64 N (IntKind.u64.wrap (x * 2 ^ (32 * i))))
/-- A tag's number. -/
def numberF (tag : Int) (s : ByteArray) : T :=
  if 512 < (strip s).size then ⟨13, false, tag, ⟨#[]⟩, [⟨9, false, 0, strip s, []⟩]⟩
  else if (strip s).size ≤ 8 then ⟨4, tag == 3, orGo (limbsF (strB (strip s))) 0 0, ⟨#[]⟩, []⟩
  else ⟨5, tag == 3, 0, strip s, []⟩
def strSize : Value → Nat
  | .string b => b.size
  | _ => 0
theorem strB_zero {b : ByteArray} (h : 0 < b.size) : (strB b).getD 0 0 = (b[0].toNat : Int) := by
  unfold strB
  rw [List.getD_eq_getElem?_getD, List.getElem?_map, List.getElem?_eq_getElem (by rw [Array.length_toList]; exact h)]
  rfl
theorem nonempty_list {b : ByteArray} (h : 0 < b.size) : b.toList.isEmpty = false := by
  rw [Lib.toList_data]
  cases hl : b.data.toList with
  | nil =>
    have : b.data.toList.length = 0 := by rw [hl]; rfl
    rw [Array.length_toList] at this
    have : b.size = 0 := this
    omega
  | cons x r => rfl
theorem empty_list {b : ByteArray} (h : b.size = 0) : b.toList.isEmpty = true := by
  rw [Lib.toList_data, List.isEmpty_iff, List.eq_nil_iff_length_eq_zero, Array.length_toList]
  exact h
/-- A new tree handed back. -/
def NewTree (t : T) (w : World) (e : Ending) (w' : World) : Prop := ∃ a c, e = .returned (.agg #[.int .i64 t.f0, .bool t.f1, .int .u64 t.f2, .string t.f3, .slice a t.f4.length c]) ∧ RowOk w' (fun g => w.heap.size ≤ g ∧ g < w'.heap.size) (t, a, c) ∧ Below w.heap.size w w'
theorem Row5.at_ {W : World} {g : Nat} {a b c d e : Value} (h : Row5 W g a b c d e) {j : Nat} {v : Value} (hv : (#[a, b, c, d, e] : Array Value)[j]? = some v) : W.cell? ⟨g, j, none⟩ = some v := (cell_of_row W g j _ _ _ h).trans hv
theorem leaf_new (k n : Int) (neg : Bool) (s : ByteArray) (w w' : World) (hb : Below w.heap.size w w') : NewTree ⟨k, neg, n, s, []⟩ w (.returned (.agg #[.int .i64 k, .bool neg, .int .u64 n, .string s, .slice none 0 0])) w' :=
  ⟨none, 0, rfl, ⟨Nat.le_refl _, by simp [Tree]⟩, hb⟩
/-- A text's bytes, laid anew, as limbs. -/
def FbPost (L : List Int) (X : World) (e : Ending) (w' : World) : Prop := ∃ v, e = .returned (.tuple #[v, .int .i64 0]) ∧ w'.ownsRow X.heap.size 152 1 v L.length (L.map (Value.int .u32)) ∧ Below X.heap.size X w'
theorem fb_any (X : World) (b : ByteArray) (h8 : b.size ≤ 16384) (hne : b.size = 0 ∨ (strB b).getD 0 0 ≠ 0) (g : Nat) (hg : X.heap.size = g) :
    Calls Tryz.prog 85 #[.slice (some ⟨g, 0, none⟩) b.size (grownCap X b.size 0 5)] ((X.alloc (.cells (bytesRow b (grownCap X b.size 0 5)) 5 ((bytesRow b (grownCap X b.size 0 5)).size, (bytesRow b (grownCap X b.size 0 5)).size + 1))).drew) (FbPost (limbsF (strB b)) X) := by
  subst hg
  have hcap := grownCap_ge X b.size 0 5
  have hB : Below X.heap.size X (X.alloc (.cells (bytesRow b (grownCap X b.size 0 5)) 5 ((bytesRow b (grownCap X b.size 0 5)).size, (bytesRow b (grownCap X b.size 0 5)).size + 1))).drew := ((Below.refl _ X).alloc (Nat.le_refl _) _).drew
  refine (frombytes_any (strB b) (fun x hx => ?_) X.heap.size 0 b.size (grownCap X b.size 0 5) (strB_len b) h8 hne hcap _ (fun j x hj => ?_) ?_).mono ?_
  · unfold strB at hx
    obtain ⟨y, _, rfl⟩ := List.mem_map.1 hx
    have := y.toNat_lt
    omega
  · refine (cell_of_row (X.alloc (.cells (bytesRow b (grownCap X b.size 0 5)) 5 ((bytesRow b (grownCap X b.size 0 5)).size, (bytesRow b (grownCap X b.size 0 5)).size + 1))) X.heap.size (0 + j) _ _ _ (heap_alloc_new X _)).trans ?_
    have hjl : j < b.size := by
      have := (List.getElem?_eq_some_iff.1 hj).1
      rw [strB_len] at this; exact this
    have hjd : j < b.data.size := hjl
    unfold bytesRow
    rw [Nat.zero_add, Array.getElem?_append_left (by rw [Array.size_map]; exact hjd), Array.getElem?_map, Array.getElem?_eq_getElem hjd]
    unfold strB at hj
    rw [List.getElem?_map, List.getElem?_eq_getElem (by rw [Array.length_toList]; exact hjd)] at hj
    simp only [Option.map_some, Option.some.injEq, Array.getElem_toList] at hj ⊢
    rw [hj]
  · show X.heap.size < (X.alloc _).heap.size
    simp
  · rintro e w' ⟨v, rfl, hown, hb⟩
    refine ⟨v, rfl, ⟨hown.1, ?_⟩, hB.trans (hb.mono hB.size)⟩
    rcases hown.2 with h | ⟨g, cap, cur, h1, h2, h3⟩
    · exact .inl h
    · exact .inr ⟨g, cap, cur, h1, Nat.le_trans hB.size h2, h3⟩
set_option maxHeartbeats 8000000 in
set_option maxRecDepth 100000 in
theorem dnumber_any (tag : Int) (s : ByteArray) (hs : s.size ≤ 4294967296) (w : World) : Calls Tryz.prog 122 #[.int .u64 tag, .string s] w (NewTree (numberF tag s) w) := by
  obtain ⟨NT, hNT⟩ : ∃ NT, numberF tag s = NT := ⟨_, rfl⟩
  rw [hNT]
  have HNT := Lib.hid hNT
  clear hNT
  go_enter Tryz.func122, Tryz.ntmps122
  have S0 := Row5.new w (.int .i64 0) (.bool false) (.int .u64 0) (.string ⟨#[]⟩) (.slice none 0 0)
  have hB0 := (Below.refl w.heap.size w).alloc (Nat.le_refl _) (.cells #[.int .i64 0, .bool false, .int .u64 0, .string ⟨#[]⟩, .slice none 0 0] 25)
  go_wp2_with fail
  obtain ⟨w1, hw1⟩ : ∃ w1, w.alloc (.cells #[.int .i64 0, .bool false, .int .u64 0, .string ⟨#[]⟩, .slice none 0 0] 25) = w1 := ⟨_, rfl⟩
  rw [hw1] at S0 hB0 ⊢
  obtain ⟨q, hq⟩ : ∃ q, w.heap.size = q := ⟨_, rfl⟩
  rw [hq] at S0 hB0 ⊢
  clear hw1
  have HS0 := Lib.hid S0
  have HB0 := Lib.hid hB0
  have HQ := Lib.hid hq
  have hq1 : q < w1.heap.size := S0.lt
  clear S0 hB0 hq
  go_loopw [1] (fun i wr => ∃ b : ByteArray, i = .string b ∧ Hid (strip b = strip s) ∧ b.size ≤ 4294967296 ∧ wr = w1) (fun i _ => strSize i)
  case atStart => exact ⟨s, rfl, rfl, hs, rfl⟩
  case round =>
    obtain ⟨b, rfl, HS, hb, hwr⟩ := hrel
    subst wr
    by_cases hgo : 0 < b.size ∧ (strB b).getD 0 0 = 0
    · obtain ⟨h0, hz⟩ := hgo
      have hem := nonempty_list h0
      have hz1 : b[0].toNat = 0 := by rw [strB_zero h0] at hz; omega
      have hz2 : ((b[0].toNat : Int) == 0) = true := by rw [hz1]; rfl
      obtain ⟨r, hr⟩ : ∃ r, b.extract 1 b.size = r := ⟨_, rfl⟩
      have hrs : r.size = b.size - 1 := by rw [← hr, ByteArray.size_extract]; omega
      have HR := Lib.hid hrs
      have HX := Lib.hid hr
      have HZ := Lib.hid hz
      have HB := Lib.hid h0
      clear hrs hz
      go_wp2
      go_roundw
      case rel =>
        refine ⟨r, rfl, (show Hid _ from ?_), by have := HR.out; omega, by first | rfl | trivial⟩
        show _ = _
        rw [← HS.out, strip.eq_1 b, dif_pos ⟨HB.out, HZ.out⟩, HX.out]
      case measure => simp only [strSize]; have := HR.out; have := HB.out; omega
    · have hst : strip s = b := by rw [← HS.out, strip, dif_neg hgo]
      have HST := Lib.hid hst
      clear hst HS
      by_cases h0 : 0 < b.size
      · have hem := nonempty_list h0
        have hz1 : ¬ b[0].toNat = 0 := fun h => hgo ⟨h0, by rw [strB_zero h0, h]; rfl⟩
        have hz2 : ((b[0].toNat : Int) == 0) = false := by rw [beq_eq_false_iff_ne]; omega
        have HG := Lib.hid hgo
        clear hgo
        by_cases h5 : 512 < b.size
        · have h5z : (512 : Int) < (b.size : Int) := by omega
          have hE : NT = ⟨13, false, tag, ⟨#[]⟩, [⟨9, false, 0, b, []⟩]⟩ := by rw [← HNT.out, numberF, HST.out, if_pos h5]
          have HE := Lib.hid hE
          clear hE
          have d0 := HS0.out.c0
          have d1 := HS0.out.c1
          have d2 := HS0.out.c2
          have d3 := HS0.out.c3
          have d4 := HS0.out.c4
          have f0 := HS0.out.fz 0
          have f1 := HS0.out.fz 1
          have f2 := HS0.out.fz 2
          have f3 := HS0.out.fz 3
          have f4 := HS0.out.fz 4
          go_wp2
          have hr := ((((((HS0.out.s0 (.int .i64 13)).s1 (.bool false)).s2 (.int .u64 tag)).s3 (.string ⟨#[]⟩)).s4 (.slice (some ⟨w1.heap.size + 1, 0, none⟩) 1 1)).alloc (.cells #[.int .i64 5, .bool (tag == 3), .int .u64 0, .string b, .slice none 0 0] 25)).alloc (.cells #[.int .i64 9, .bool false, .int .u64 0, .string b, .slice none 0 0] 25)
          have hb5 := (((((HB0.out.setCell (p := ⟨q, 0, none⟩) (Nat.le_refl _) (.int .i64 13)).setCell (p := ⟨q, 1, none⟩) (Nat.le_refl _) (.bool false)).setCell (p := ⟨q, 2, none⟩) (Nat.le_refl _) (.int .u64 tag)).setCell (p := ⟨q, 3, none⟩) (Nat.le_refl _) (.string ⟨#[]⟩)).setCell (p := ⟨q, 4, none⟩) (Nat.le_refl _) (.slice (some ⟨w1.heap.size + 1, 0, none⟩) 1 1))
          have hb6 := (hb5.alloc (by simp; omega) (.cells #[.int .i64 5, .bool (tag == 3), .int .u64 0, .string b, .slice none 0 0] 25)).alloc (by simp; omega) (.cells #[.int .i64 9, .bool false, .int .u64 0, .string b, .slice none 0 0] 25)
          have hn := Row5.new (((((((w1.setCell ⟨q, 0, none⟩ (.int .i64 13)).setCell ⟨q, 1, none⟩ (.bool false)).setCell ⟨q, 2, none⟩ (.int .u64 tag)).setCell ⟨q, 3, none⟩ (.string ⟨#[]⟩)).setCell ⟨q, 4, none⟩ (.slice (some ⟨w1.heap.size + 1, 0, none⟩) 1 1)).alloc (.cells #[.int .i64 5, .bool (tag == 3), .int .u64 0, .string b, .slice none 0 0] 25))) (.int .i64 9) (.bool false) (.int .u64 0) (.string b) (.slice none 0 0)
          rw [show (((((((w1.setCell ⟨q, 0, none⟩ (.int .i64 13)).setCell ⟨q, 1, none⟩ (.bool false)).setCell ⟨q, 2, none⟩ (.int .u64 tag)).setCell ⟨q, 3, none⟩ (.string ⟨#[]⟩)).setCell ⟨q, 4, none⟩ (.slice (some ⟨w1.heap.size + 1, 0, none⟩) 1 1)).alloc (.cells #[.int .i64 5, .bool (tag == 3), .int .u64 0, .string b, .slice none 0 0] 25))).heap.size = w1.heap.size + 1 by simp] at hn
          generalize ((((((w1.setCell ⟨q, 0, none⟩ (.int .i64 13)).setCell ⟨q, 1, none⟩ (.bool false)).setCell ⟨q, 2, none⟩ (.int .u64 tag)).setCell ⟨q, 3, none⟩ (.string ⟨#[]⟩)).setCell ⟨q, 4, none⟩ (.slice (some ⟨w1.heap.size + 1, 0, none⟩) 1 1)).alloc (.cells #[.int .i64 5, .bool (tag == 3), .int .u64 0, .string b, .slice none 0 0] 25)).alloc (.cells #[.int .i64 9, .bool false, .int .u64 0, .string b, .slice none 0 0] 25) = W5 at hr hb6 hn ⊢
          have e0 := hr.c0
          have e1 := hr.c1
          have e2 := hr.c2
          have e3 := hr.c3
          have e4 := hr.c4
          have hlt := hn.lt
          refine bodyPost_ret (v := .agg #[.int .i64 13, .bool false, .int .u64 tag, .string ⟨#[]⟩, .slice (some ⟨w1.heap.size + 1, 0, none⟩) 1 1]) (by simp [results, Tryz.results122, go_sem, e0, e1, e2, e3, e4]) rfl ?_
          rw [HE.out]
          refine ⟨some ⟨w1.heap.size + 1, 0, none⟩, 1, rfl, ⟨Nat.le_refl _, ?_⟩, by rw [HQ.out]; exact hb6⟩
          simp only [Tree, TreeL, and_true]
          refine ⟨by simp, .inr ⟨w1.heap.size + 1, 0, rfl, ⟨by rw [HQ.out]; omega, hlt⟩, none, 0, fun j v hv => ?_, by simp, by simp⟩⟩
          rw [Nat.zero_add]
          exact hn.at_ hv
        · have h5z : ¬ (512 : Int) < (b.size : Int) := by omega
          by_cases h8 : b.size ≤ 8
          · have h8z : (b.size : Int) ≤ 8 := by omega
            have HNE : Hid (b.size = 0 ∨ (strB b).getD 0 0 ≠ 0) := Lib.hid (.inr fun h => HG.out ⟨h0, h⟩)
            have hcv := fun W => run_bytes_of_string (P := Tryz.prog) W 9 26 5 b Tryz.underlying9 Tryz.underlying26 Tryz.underlying5
            obtain ⟨L, hL⟩ : ∃ L, limbsF (strB b) = L := ⟨_, rfl⟩
            have hLr := limbsF_range (strB b)
            have hLl := limbsF_len (strB b)
            rw [strB_len, hL] at hLl
            rw [hL] at hLr
            have hE : NT = ⟨4, tag == 3, orGo L 0 0, ⟨#[]⟩, []⟩ := by rw [← HNT.out, numberF, HST.out, if_neg h5, if_pos h8, hL]
            have hFB := fun X g hg => fb_any X b (by omega) HNE.out g hg
            rw [hL] at hFB
            obtain ⟨m, hm⟩ : ∃ m, L.length = m := ⟨_, rfl⟩
            have hm2 : m ≤ 2 := by omega
            have HE := Lib.hid hE
            have HFB := Lib.hid hFB
            have HLr := Lib.hid hLr
            have HM := Lib.hid hm
            clear hE hFB hL hLr hLl hm
            have S1 := HS0.out.alloc (.cells #[.int .i64 4, .bool (tag == 3), .int .u64 0, .string ⟨#[]⟩, .slice none 0 0] 25)
            have S2 := Row5.new w1 (.int .i64 4) (.bool (tag == 3)) (.int .u64 0) (.string ⟨#[]⟩) (.slice none 0 0)
            have hB1 := HB0.out.alloc (Nat.le_of_lt hq1) (.cells #[.int .i64 4, .bool (tag == 3), .int .u64 0, .string ⟨#[]⟩, .slice none 0 0] 25)
            have HS1 := Lib.hid S1
            have HS2 := Lib.hid S2
            have HB1 := Lib.hid hB1
            clear S1 S2 hB1
            go_wp2_with (go_at_call 85; refine (HFB.out _ _ (by simp)).mono ?_; rintro ee w3 ⟨v, rfl, hown, hb3⟩; (obtain ⟨va, vc, hv⟩ := Go.Proofs.YtfmceonbejlhlaaGreatDoorW.PrintWords.own_slice hown); rw [HM.out] at hown hv; subst hv; have S5 := HS1.out.below hb3; have S6 := HS2.out.below hb3; have hB3 := HB1.out.trans (hb3.mono (by have := HB1.out.size; rw [HQ.out] at this; exact this)); have HS5 := Lib.hid S5; have HS6 := Lib.hid S6; have HB3 := Lib.hid hB3; have HOw := Lib.hid hown; clear hown S5 S6 hB3 hb3)
            obtain ⟨p5, hp5⟩ : ∃ p, w1.heap.size = p := ⟨_, rfl⟩
            rw [World.size_alloc, hp5] at HOw
            rw [hp5] at HS6 hq1
            rw [hp5]
            clear hcv HFB HB1 HS1 HS2
            go_loopw [46] (fun i wr => ∃ (k : Nat) (N : Int), k ≤ m ∧ i = .int .i64 k ∧ Hid (orGo (L.drop k) k N = orGo L 0 0) ∧ Hid (Row5 wr q (.int .i64 0) (.bool false) (.int .u64 0) (.string ⟨#[]⟩) (.slice none 0 0)) ∧ Hid (Row5 wr p5 (.int .i64 4) (.bool (tag == 3)) (.int .u64 N) (.string ⟨#[]⟩) (.slice none 0 0)) ∧ Hid (wr.ownsRow (p5 + 1) 152 1 (.slice va m vc) m (L.map (Value.int .u32))) ∧ Hid (Below q w wr)) (fun i _ => m - (intOf i).toNat)
            case atStart => exact ⟨0, 0, by omega, rfl, by rw [List.drop_zero]; exact rfl, HS5, HS6, HOw, HB3⟩
            case round =>
              clear HS5 HS6 HOw HB3
              obtain ⟨k, N, hk, rfl, HN, HQ1, HP, HO, HB4⟩ := hrel
              by_cases hlt : k < m
              · have hltz : (k : Int) < (m : Int) := by omega
                obtain ⟨x, hx⟩ : ∃ x, L[k]? = some x := ⟨_, List.getElem?_eq_getElem (by rw [HM.out]; exact hlt)⟩
                have hxr := HLr.out x (List.mem_of_getElem? hx)
                obtain ⟨g, rfl⟩ : ∃ g, va = some ⟨g, 0, none⟩ := by
                  rcases HO.out.2 with ⟨h, _⟩ | ⟨g, cap, cur, h, _⟩
                  · injection h with _ h; omega
                  · injection h with h; exact ⟨g, h⟩
                have hcx : wr.cell? ⟨g, k, none⟩ = some (.int .u32 x) := by
                  have := HO.out.cells (g := g) rfl k (.int .u32 x) (by rw [List.getElem?_map, hx]; rfl)
                  rw [WideShapes.add_plain, Nat.zero_add] at this
                  exact this
                have hgp : p5 + 1 ≤ g := own_base HO.out g rfl
                have c2 := HP.out.c2
                have f2 := HP.out.fz 2
                have e8 : IntKind.u64.wrap x = x := by rw [IntKind.wrap_u64]; omega
                have e7 : IntKind.i64.wrap (32 * (k : Int)) = ((32 * k : Nat) : Int) := by rw [IntKind.wrap_i64]; omega
                have HX := Lib.hid hx
                clear hx
                go_wp2_with fail
                go_region
                have hp := HP.out.s2 (.int .u64 (Go.bits .or .u64 N (IntKind.u64.wrap (x * 2 ^ (32 * k)))))
                have hqp := HQ1.out.far (p := ⟨p5, 2, none⟩) (by show q ≠ p5; omega) (.int .u64 (Go.bits .or .u64 N (IntKind.u64.wrap (x * 2 ^ (32 * k)))))
                have hop := own_move HO.out (w1 := wr.setCell ⟨p5, 2, none⟩ (.int .u64 (Go.bits .or .u64 N (IntKind.u64.wrap (x * 2 ^ (32 * k)))))) (fun j hj => Below.heap_setCell _ ⟨p5, 2, none⟩ _ j (by have h1 : g = j := Option.some.inj hj; show j ≠ p5; omega))
                have hbp := HB4.out.setCell (p := ⟨p5, 2, none⟩) (Nat.le_of_lt hq1) (.int .u64 (Go.bits .or .u64 N (IntKind.u64.wrap (x * 2 ^ (32 * k)))))
                generalize wr.setCell ⟨p5, 2, none⟩ (.int .u64 (Go.bits .or .u64 N (IntKind.u64.wrap (x * 2 ^ (32 * k))))) = W5 at hp hqp hop hbp ⊢
                go_wp2
                go_roundw
                case rel =>
                  refine ⟨k + 1, _, by omega, by go_num, (show Hid _ from ?_), hqp, hp, hop.drew, hbp.drew⟩
                  show _ = _
                  have h1 := HN.out
                  rw [List.drop_eq_getElem_cons (by rw [HM.out]; exact hlt)] at h1
                  have h2 : L[k]'(by rw [HM.out]; exact hlt) = x := by
                    have := HX.out
                    rw [List.getElem?_eq_getElem (by rw [HM.out]; exact hlt)] at this
                    exact Option.some.inj this
                  rw [h2, orGo] at h1
                  exact h1
                case measure => simp [intOf]; omega
              · obtain rfl : k = m := by omega
                have hkk : ¬ (k : Int) < (k : Int) := by omega
                have hN : N = orGo L 0 0 := by
                  have := HN.out
                  rw [List.drop_of_length_le (by rw [HM.out]; exact Nat.le_refl _)] at this
                  exact this
                have c0 := HP.out.c0
                have c1 := HP.out.c1
                have c2 := HP.out.c2
                have c3 := HP.out.c3
                have c4 := HP.out.c4
                have d0 := HQ1.out.c0
                have d1 := HQ1.out.c1
                have d2 := HQ1.out.c2
                have d3 := HQ1.out.c3
                have d4 := HQ1.out.c4
                have f0 := HQ1.out.fz 0
                have f1 := HQ1.out.fz 1
                have f2 := HQ1.out.fz 2
                have f3 := HQ1.out.fz 3
                have f4 := HQ1.out.fz 4
                have HNN := Lib.hid hN
                clear hN
                go_wp2
                have hr := ((((HQ1.out.s0 (.int .i64 4)).s1 (.bool (tag == 3))).s2 (.int .u64 N)).s3 (.string ⟨#[]⟩)).s4 (.slice none 0 0)
                have hb6 := ((((HB4.out.setCell (p := ⟨q, 0, none⟩) (Nat.le_refl _) (.int .i64 4)).setCell (p := ⟨q, 1, none⟩) (Nat.le_refl _) (.bool (tag == 3))).setCell (p := ⟨q, 2, none⟩) (Nat.le_refl _) (.int .u64 N)).setCell (p := ⟨q, 3, none⟩) (Nat.le_refl _) (.string ⟨#[]⟩)).setCell (p := ⟨q, 4, none⟩) (Nat.le_refl _) (.slice none 0 0)
                generalize ((((wr.setCell ⟨q, 0, none⟩ (.int .i64 4)).setCell ⟨q, 1, none⟩ (.bool (tag == 3))).setCell ⟨q, 2, none⟩ (.int .u64 N)).setCell ⟨q, 3, none⟩ (.string ⟨#[]⟩)).setCell ⟨q, 4, none⟩ (.slice none 0 0) = W5 at hr hb6 ⊢
                have e0 := hr.c0
                have e1 := hr.c1
                have e2 := hr.c2
                have e3 := hr.c3
                have e4 := hr.c4
                exact bodyPost_ret (v := .agg #[.int .i64 4, .bool (tag == 3), .int .u64 N, .string ⟨#[]⟩, .slice none 0 0]) (by simp [results, Tryz.results122, go_sem, e0, e1, e2, e3, e4]) rfl (by rw [HE.out, ← HNN.out]; exact leaf_new _ _ _ _ w _ (by rw [HQ.out]; exact hb6))
          · have h8z : ¬ (b.size : Int) ≤ 8 := by omega
            have hE : NT = ⟨5, tag == 3, 0, b, []⟩ := by rw [← HNT.out, numberF, HST.out, if_neg h5, if_neg h8]
            have HE := Lib.hid hE
            clear hE
            have d0 := HS0.out.c0
            have d1 := HS0.out.c1
            have d2 := HS0.out.c2
            have d3 := HS0.out.c3
            have d4 := HS0.out.c4
            have f0 := HS0.out.fz 0
            have f1 := HS0.out.fz 1
            have f2 := HS0.out.fz 2
            have f3 := HS0.out.fz 3
            have f4 := HS0.out.fz 4
            go_wp2
            have hr := (((((HS0.out.s0 (.int .i64 5)).s1 (.bool (tag == 3))).s2 (.int .u64 0)).s3 (.string b)).s4 (.slice none 0 0)).alloc (.cells #[.int .i64 5, .bool (tag == 3), .int .u64 0, .string b, .slice none 0 0] 25)
            have hb5 := (((((HB0.out.setCell (p := ⟨q, 0, none⟩) (Nat.le_refl _) (.int .i64 5)).setCell (p := ⟨q, 1, none⟩) (Nat.le_refl _) (.bool (tag == 3))).setCell (p := ⟨q, 2, none⟩) (Nat.le_refl _) (.int .u64 0)).setCell (p := ⟨q, 3, none⟩) (Nat.le_refl _) (.string b)).setCell (p := ⟨q, 4, none⟩) (Nat.le_refl _) (.slice none 0 0))
            have hb6 := hb5.alloc (by simp; omega) (.cells #[.int .i64 5, .bool (tag == 3), .int .u64 0, .string b, .slice none 0 0] 25)
            generalize (((((w1.setCell ⟨q, 0, none⟩ (.int .i64 5)).setCell ⟨q, 1, none⟩ (.bool (tag == 3))).setCell ⟨q, 2, none⟩ (.int .u64 0)).setCell ⟨q, 3, none⟩ (.string b)).setCell ⟨q, 4, none⟩ (.slice none 0 0)).alloc (.cells #[.int .i64 5, .bool (tag == 3), .int .u64 0, .string b, .slice none 0 0] 25) = W5 at hr hb6 ⊢
            have e0 := hr.c0
            have e1 := hr.c1
            have e2 := hr.c2
            have e3 := hr.c3
            have e4 := hr.c4
            exact bodyPost_ret (v := .agg #[.int .i64 5, .bool (tag == 3), .int .u64 0, .string b, .slice none 0 0]) (by simp [results, Tryz.results122, go_sem, e0, e1, e2, e3, e4]) rfl (by rw [HE.out]; exact leaf_new _ _ _ _ w _ (by rw [HQ.out]; exact hb6))
      · have hz : b.size = 0 := by omega
        have hem := empty_list hz
        have h5 : ¬ 512 < b.size := by omega
        have h8 : b.size ≤ 8 := by omega
        have h5z : ¬ (512 : Int) < (b.size : Int) := by omega
        have h8z : (b.size : Int) ≤ 8 := by omega
        have HNE : Hid (b.size = 0 ∨ (strB b).getD 0 0 ≠ 0) := Lib.hid (.inl hz)
        clear hz hgo
        have hcv := fun W => run_bytes_of_string (P := Tryz.prog) W 9 26 5 b Tryz.underlying9 Tryz.underlying26 Tryz.underlying5
        obtain ⟨L, hL⟩ : ∃ L, limbsF (strB b) = L := ⟨_, rfl⟩
        have hLr := limbsF_range (strB b)
        have hLl := limbsF_len (strB b)
        rw [strB_len, hL] at hLl
        rw [hL] at hLr
        have hE : NT = ⟨4, tag == 3, orGo L 0 0, ⟨#[]⟩, []⟩ := by rw [← HNT.out, numberF, HST.out, if_neg h5, if_pos h8, hL]
        have hFB := fun X g hg => fb_any X b (by omega) HNE.out g hg
        rw [hL] at hFB
        obtain ⟨m, hm⟩ : ∃ m, L.length = m := ⟨_, rfl⟩
        have hm2 : m ≤ 2 := by omega
        have HE := Lib.hid hE
        have HFB := Lib.hid hFB
        have HLr := Lib.hid hLr
        have HM := Lib.hid hm
        clear hE hFB hL hLr hLl hm
        have S1 := HS0.out.alloc (.cells #[.int .i64 4, .bool (tag == 3), .int .u64 0, .string ⟨#[]⟩, .slice none 0 0] 25)
        have S2 := Row5.new w1 (.int .i64 4) (.bool (tag == 3)) (.int .u64 0) (.string ⟨#[]⟩) (.slice none 0 0)
        have hB1 := HB0.out.alloc (Nat.le_of_lt hq1) (.cells #[.int .i64 4, .bool (tag == 3), .int .u64 0, .string ⟨#[]⟩, .slice none 0 0] 25)
        have HS1 := Lib.hid S1
        have HS2 := Lib.hid S2
        have HB1 := Lib.hid hB1
        clear S1 S2 hB1
        go_wp2_with (go_at_call 85; refine (HFB.out _ _ (by simp)).mono ?_; rintro ee w3 ⟨v, rfl, hown, hb3⟩; (obtain ⟨va, vc, hv⟩ := Go.Proofs.YtfmceonbejlhlaaGreatDoorW.PrintWords.own_slice hown); rw [HM.out] at hown hv; subst hv; have S5 := HS1.out.below hb3; have S6 := HS2.out.below hb3; have hB3 := HB1.out.trans (hb3.mono (by have := HB1.out.size; rw [HQ.out] at this; exact this)); have HS5 := Lib.hid S5; have HS6 := Lib.hid S6; have HB3 := Lib.hid hB3; have HOw := Lib.hid hown; clear hown S5 S6 hB3 hb3)
        obtain ⟨p5, hp5⟩ : ∃ p, w1.heap.size = p := ⟨_, rfl⟩
        rw [World.size_alloc, hp5] at HOw
        rw [hp5] at HS6 hq1
        rw [hp5]
        clear hcv HFB HB1 HS1 HS2
        go_loopw [46] (fun i wr => ∃ (k : Nat) (N : Int), k ≤ m ∧ i = .int .i64 k ∧ Hid (orGo (L.drop k) k N = orGo L 0 0) ∧ Hid (Row5 wr q (.int .i64 0) (.bool false) (.int .u64 0) (.string ⟨#[]⟩) (.slice none 0 0)) ∧ Hid (Row5 wr p5 (.int .i64 4) (.bool (tag == 3)) (.int .u64 N) (.string ⟨#[]⟩) (.slice none 0 0)) ∧ Hid (wr.ownsRow (p5 + 1) 152 1 (.slice va m vc) m (L.map (Value.int .u32))) ∧ Hid (Below q w wr)) (fun i _ => m - (intOf i).toNat)
        case atStart => exact ⟨0, 0, by omega, rfl, by rw [List.drop_zero]; exact rfl, HS5, HS6, HOw, HB3⟩
        case round =>
          clear HS5 HS6 HOw HB3
          obtain ⟨k, N, hk, rfl, HN, HQ1, HP, HO, HB4⟩ := hrel
          by_cases hlt : k < m
          · have hltz : (k : Int) < (m : Int) := by omega
            obtain ⟨x, hx⟩ : ∃ x, L[k]? = some x := ⟨_, List.getElem?_eq_getElem (by rw [HM.out]; exact hlt)⟩
            have hxr := HLr.out x (List.mem_of_getElem? hx)
            obtain ⟨g, rfl⟩ : ∃ g, va = some ⟨g, 0, none⟩ := by
              rcases HO.out.2 with ⟨h, _⟩ | ⟨g, cap, cur, h, _⟩
              · injection h with _ h; omega
              · injection h with h; exact ⟨g, h⟩
            have hcx : wr.cell? ⟨g, k, none⟩ = some (.int .u32 x) := by
              have := HO.out.cells (g := g) rfl k (.int .u32 x) (by rw [List.getElem?_map, hx]; rfl)
              rw [WideShapes.add_plain, Nat.zero_add] at this
              exact this
            have hgp : p5 + 1 ≤ g := own_base HO.out g rfl
            have c2 := HP.out.c2
            have f2 := HP.out.fz 2
            have e8 : IntKind.u64.wrap x = x := by rw [IntKind.wrap_u64]; omega
            have e7 : IntKind.i64.wrap (32 * (k : Int)) = ((32 * k : Nat) : Int) := by rw [IntKind.wrap_i64]; omega
            have HX := Lib.hid hx
            clear hx
            go_wp2_with fail
            go_region
            have hp := HP.out.s2 (.int .u64 (Go.bits .or .u64 N (IntKind.u64.wrap (x * 2 ^ (32 * k)))))
            have hqp := HQ1.out.far (p := ⟨p5, 2, none⟩) (by show q ≠ p5; omega) (.int .u64 (Go.bits .or .u64 N (IntKind.u64.wrap (x * 2 ^ (32 * k)))))
            have hop := own_move HO.out (w1 := wr.setCell ⟨p5, 2, none⟩ (.int .u64 (Go.bits .or .u64 N (IntKind.u64.wrap (x * 2 ^ (32 * k)))))) (fun j hj => Below.heap_setCell _ ⟨p5, 2, none⟩ _ j (by have h1 : g = j := Option.some.inj hj; show j ≠ p5; omega))
            have hbp := HB4.out.setCell (p := ⟨p5, 2, none⟩) (Nat.le_of_lt hq1) (.int .u64 (Go.bits .or .u64 N (IntKind.u64.wrap (x * 2 ^ (32 * k)))))
            generalize wr.setCell ⟨p5, 2, none⟩ (.int .u64 (Go.bits .or .u64 N (IntKind.u64.wrap (x * 2 ^ (32 * k))))) = W5 at hp hqp hop hbp ⊢
            go_wp2
            go_roundw
            case rel =>
              refine ⟨k + 1, _, by omega, by go_num, (show Hid _ from ?_), hqp, hp, hop.drew, hbp.drew⟩
              show _ = _
              have h1 := HN.out
              rw [List.drop_eq_getElem_cons (by rw [HM.out]; exact hlt)] at h1
              have h2 : L[k]'(by rw [HM.out]; exact hlt) = x := by
                have := HX.out
                rw [List.getElem?_eq_getElem (by rw [HM.out]; exact hlt)] at this
                exact Option.some.inj this
              rw [h2, orGo] at h1
              exact h1
            case measure => simp [intOf]; omega
          · obtain rfl : k = m := by omega
            have hkk : ¬ (k : Int) < (k : Int) := by omega
            have hN : N = orGo L 0 0 := by
              have := HN.out
              rw [List.drop_of_length_le (by rw [HM.out]; exact Nat.le_refl _)] at this
              exact this
            have c0 := HP.out.c0
            have c1 := HP.out.c1
            have c2 := HP.out.c2
            have c3 := HP.out.c3
            have c4 := HP.out.c4
            have d0 := HQ1.out.c0
            have d1 := HQ1.out.c1
            have d2 := HQ1.out.c2
            have d3 := HQ1.out.c3
            have d4 := HQ1.out.c4
            have f0 := HQ1.out.fz 0
            have f1 := HQ1.out.fz 1
            have f2 := HQ1.out.fz 2
            have f3 := HQ1.out.fz 3
            have f4 := HQ1.out.fz 4
            have HNN := Lib.hid hN
            clear hN
            go_wp2
            have hr := ((((HQ1.out.s0 (.int .i64 4)).s1 (.bool (tag == 3))).s2 (.int .u64 N)).s3 (.string ⟨#[]⟩)).s4 (.slice none 0 0)
            have hb6 := ((((HB4.out.setCell (p := ⟨q, 0, none⟩) (Nat.le_refl _) (.int .i64 4)).setCell (p := ⟨q, 1, none⟩) (Nat.le_refl _) (.bool (tag == 3))).setCell (p := ⟨q, 2, none⟩) (Nat.le_refl _) (.int .u64 N)).setCell (p := ⟨q, 3, none⟩) (Nat.le_refl _) (.string ⟨#[]⟩)).setCell (p := ⟨q, 4, none⟩) (Nat.le_refl _) (.slice none 0 0)
            generalize ((((wr.setCell ⟨q, 0, none⟩ (.int .i64 4)).setCell ⟨q, 1, none⟩ (.bool (tag == 3))).setCell ⟨q, 2, none⟩ (.int .u64 N)).setCell ⟨q, 3, none⟩ (.string ⟨#[]⟩)).setCell ⟨q, 4, none⟩ (.slice none 0 0) = W5 at hr hb6 ⊢
            have e0 := hr.c0
            have e1 := hr.c1
            have e2 := hr.c2
            have e3 := hr.c3
            have e4 := hr.c4
            exact bodyPost_ret (v := .agg #[.int .i64 4, .bool (tag == 3), .int .u64 N, .string ⟨#[]⟩, .slice none 0 0]) (by simp [results, Tryz.results122, go_sem, e0, e1, e2, e3, e4]) rfl (by rw [HE.out, ← HNN.out]; exact leaf_new _ _ _ _ w _ (by rw [HQ.out]; exact hb6))
end Go.Proofs.YtfmceonbejlhlaaGreatDoor

/-
  det's plain: what it computes of a tree; it is no greater than the tree.
-/
namespace Go.Proofs.YtfmceonbejlhlaaGreatDoor
open Go.RowKit Go.Sort Go.Proofs.YtfmceonbejlhlaaGreatDoorW.PrintWords Go.Proofs.YtfmceonbejlhlaaGreatDoorW.PrintLast Go.Proofs.YtfmceonbejlhlaaGreatDoorW.PrintMore
set_option linter.unusedVariables false

/-- A float's least form. -/
def LeastOf (k n : Int) (K N : Int) : Prop := (K = 6 ∨ K = 7 ∨ K = 8) ∧ U64 N ∧ Det 121 #[.int .i64 (if k = 6 then 16 else if k = 7 then 32 else 64), .int .u64 n] (.agg #[.int .i64 K, .bool false, .int .u64 N, .string ⟨#[]⟩, .slice none 0 0])
theorem least_of (k n : Int) (hn : U64 n) : ∃ K N, LeastOf k n K N := by
  unfold LeastOf
  by_cases h6 : k = 6
  · rw [if_pos h6]; exact dleast_det (a := 16) (e := 5) (f := 10) (.inl ⟨rfl, rfl, rfl⟩) n hn
  · rw [if_neg h6]
    by_cases h7 : k = 7
    · rw [if_pos h7]; exact dleast_det (a := 32) (e := 8) (f := 23) (.inr (.inl ⟨rfl, rfl, rfl⟩)) n hn
    · rw [if_neg h7]; exact dleast_det (a := 64) (e := 11) (f := 52) (.inr (.inr ⟨rfl, rfl, rfl⟩)) n hn
open Classical in
noncomputable def leastT (k n : Int) : T := if h : U64 n then ⟨Classical.choose (least_of k n h), false, Classical.choose (Classical.choose_spec (least_of k n h)), ⟨#[]⟩, []⟩ else default
theorem leastT_of (k n : Int) (hn : U64 n) : ∃ K N, leastT k n = ⟨K, false, N, ⟨#[]⟩, []⟩ ∧ LeastOf k n K N := by
  refine ⟨_, _, ?_, Classical.choose_spec (Classical.choose_spec (least_of k n hn))⟩
  unfold leastT
  rw [dif_pos hn]
/-- What plain makes of a value, its list being done. -/
noncomputable def plainK (k : Int) (neg : Bool) (n : Int) (s : ByteArray) (l : List T) : Option T :=
  if 6 ≤ k ∧ k ≤ 8 then some (leastT k n)
  else if k = 13 ∧ n / 2 = 1 ∧ (l.getD 0 default).f0 = 9 then some (numberF n (l.getD 0 default).f3)
  else if k = 12 then (sortedF l).map fun m => ⟨k, neg, n, s, m⟩
  else some ⟨k, neg, n, s, l⟩
mutual
noncomputable def plainF : T → Option T | ⟨k, neg, n, s, l⟩ => (plainL l).bind (plainK k neg n s)
noncomputable def plainL : List T → Option (List T) | [] => some [] | t :: r => (plainF t).bind fun t' => (plainL r).map fun r' => t' :: r'
end
theorem plainL_len : ∀ {l l' : List T}, plainL l = some l' → l'.length = l.length
  | [], l', h => by simp only [plainL, Option.some.injEq] at h; rw [← h]
  | t :: r, l', h => by
    simp only [plainL] at h
    obtain ⟨t', ht, h⟩ := Option.bind_eq_some_iff.1 h
    obtain ⟨r', hr, rfl⟩ := Option.map_eq_some_iff.1 h
    simp [plainL_len hr]
theorem plainL_snoc : ∀ (a : List T) (t : T), plainL (a ++ [t]) = (plainL a).bind fun a' => (plainF t).map fun t' => a' ++ [t']
  | [], t => by simp [plainL]; cases plainF t <;> rfl
  | x :: a, t => by
    simp only [List.cons_append, plainL, plainL_snoc a t]
    cases plainF x with
    | none => rfl
    | some x' =>
      simp only [Option.bind_some]
      cases plainL a with
      | none => rfl
      | some a' =>
        simp only [Option.map_some, Option.bind_some]
        cases plainF t <;> rfl
theorem plainL_pre : ∀ {a : List T} {r : List T}, plainL a = none → plainL (a ++ r) = none
  | [], r, h => by simp [plainL] at h
  | x :: a, r, h => by
    simp only [List.cons_append, plainL] at h ⊢
    cases hx : plainF x with
    | none => rfl
    | some x' =>
      rw [hx] at h
      simp only [Option.bind_some, Option.map_eq_none_iff] at h ⊢
      exact plainL_pre h

/-! ### How great -/
theorem bulkL_append : ∀ a b : List T, bulkL (a ++ b) = bulkL a + bulkL b
  | [], b => by simp [bulkL]
  | t :: r, b => by simp only [List.cons_append, bulkL, bulkL_append r b]; omega
theorem bulkL_perm {a b : List T} (h : a.Perm b) : bulkL a = bulkL b := by
  induction h with
  | nil => rfl
  | cons x h ih => simp only [bulkL, ih]
  | swap x y l => simp only [bulkL]; omega
  | trans h1 h2 ih1 ih2 => exact ih1.trans ih2
def pairAt (ts : List T) (x : Nat) : List T := [ts.getD (2 * x) default, ts.getD (2 * x + 1) default]
theorem outGo_some (cf : Nat → Nat → Int) (ts : List T) (d : Array Nat) (i : Nat) (out l : List T) (h : outGo cf ts d i out = some l) : l = out ++ (d.toList.drop i).flatMap (pairAt ts) := by
  fun_induction outGo cf ts d i out with
  | case1 => cases h
  | case2 i out h1 h2 ih =>
    have e := List.drop_eq_getElem_cons (l := d.toList) (i := i) (by rw [Array.length_toList]; exact h1)
    have e2 : d[i]! = d.toList[i]'(by rw [Array.length_toList]; exact h1) := by rw [getElem!_pos d i h1]; rfl
    rw [ih h, e, List.flatMap_cons, List.append_assoc, e2]
    rfl
  | case3 i out h1 =>
    rw [List.drop_of_length_le (by rw [Array.length_toList]; omega)]
    simp only [Option.some.injEq] at h
    simp [h]
theorem pairs_take (ts : List T) : ∀ m, 2 * m ≤ ts.length → (List.range m).flatMap (pairAt ts) = ts.take (2 * m)
  | 0, _ => by simp
  | m + 1, h => by
    rw [List.range_succ, List.flatMap_append, pairs_take ts m (by omega), List.flatMap_singleton]
    have e1 : ts[2 * m]? = some (ts[2 * m]'(by omega)) := List.getElem?_eq_getElem _
    have e2 : ts[2 * m + 1]? = some (ts[2 * m + 1]'(by omega)) := List.getElem?_eq_getElem _
    unfold pairAt
    rw [List.getD_eq_getElem?_getD, List.getD_eq_getElem?_getD, e1, e2, show 2 * (m + 1) = 2 * m + 1 + 1 by omega, List.take_succ_eq_append_getElem (by omega), List.take_succ_eq_append_getElem (by omega), List.append_assoc]
    rfl
theorem sortedF_of {ts l : List T} (h : sortedF ts = some l) : l.Perm (ts.take (2 * (ts.length / 2))) := by
  unfold sortedF at h
  have h1 := outGo_some _ _ _ _ _ _ h
  rw [List.nil_append, List.drop_zero] at h1
  have h2 := pm_stable (ltOf (pairCmp ts)) (Array.range (ts.length / 2)) (ts.length / 2) (by rw [Array.size_range]; exact Nat.le_refl _)
  unfold Pm at h2
  rw [Array.toList_range] at h2
  rw [h1, ← pairs_take ts (ts.length / 2) (by omega)]
  exact h2.flatMap_right _
theorem strip_size (s : ByteArray) : (strip s).size ≤ s.size := by
  fun_induction strip s with
  | case1 s h ih => rw [ByteArray.size_extract] at ih; omega
  | case2 => exact Nat.le_refl _
theorem number_bulk (n : Int) (s : ByteArray) : bulk (numberF n s) ≤ s.size + 2 := by
  have := strip_size s
  unfold numberF
  split
  · simp only [bulk, bulkL, show (⟨#[]⟩ : ByteArray).size = 0 from rfl]; omega
  split
  · simp only [bulk, bulkL, show (⟨#[]⟩ : ByteArray).size = 0 from rfl]; omega
  · simp only [bulk, bulkL]; omega
theorem U64.wf {n : Int} (h : U64 n) : (Lit.int .u64 n).wf = true := by
  unfold U64 at h
  simp only [Lit.wf, decide_eq_true_eq, Bool.and_eq_true]
  have e1 : IntKind.u64.min = 0 := by decide
  have e2 : IntKind.u64.max = 18446744073709551615 := by decide
  rw [e1, e2]
  omega
theorem wf_U64 {n : Int} (h : (Lit.int .u64 n).wf = true) : U64 n := by
  unfold U64
  simp only [Lit.wf, decide_eq_true_eq, Bool.and_eq_true] at h
  have e1 : IntKind.u64.min = 0 := by decide
  have e2 : IntKind.u64.max = 18446744073709551615 := by decide
  rw [e1, e2] at h
  omega
theorem orGo_U64 : ∀ (L : List Int) (i : Nat) (N : Int), U64 N → U64 (orGo L i N)
  | [], _, N, h => h
  | x :: r, i, N, h => orGo_U64 r (i + 1) _ (bits_U64 .or _ _ (.inl rfl))
theorem number_wf (n : Int) (s : ByteArray) (hn : U64 n) : Wf (numberF n s) := by
  have h0 : U64 0 := by unfold U64; omega
  unfold numberF
  split
  · exact ⟨by decide, hn.wf, ⟨by decide, h0.wf, trivial⟩, trivial⟩
  split
  · exact ⟨by decide, (orGo_U64 _ _ _ h0).wf, trivial⟩
  · exact ⟨by decide, h0.wf, trivial⟩
theorem wfL_all {l : List T} (h : ∀ t ∈ l, Wf t) : WfL l := by
  induction l with
  | nil => trivial
  | cons x r ih => exact ⟨h x (List.mem_cons_self ..), ih fun t ht => h t (List.mem_cons_of_mem _ ht)⟩
theorem getD_bulk {l : List T} (h : 0 < l.length) : bulk (l.getD 0 default) ≤ bulkL l := by
  cases l with
  | nil => simp at h
  | cons x r => simp only [List.getD_cons_zero, bulkL]; omega
theorem own_bulk (t : T) : t.f3.size + 1 ≤ bulk t := by
  obtain ⟨k, neg, n, s, l⟩ := t
  simp only [bulk]; omega
theorem plainK_ok {k n : Int} {neg : Bool} {s : ByteArray} {l : List T} {t : T} (h : plainK k neg n s l = some t) (hk : (Lit.int .i64 k).wf = true) (hn : (Lit.int .u64 n).wf = true) (hl : WfL l) (h13 : k = 13 → 0 < l.length) : Wf t ∧ bulk t ≤ s.size + bulkL l + 1 := by
  unfold plainK at h
  split at h
  · obtain ⟨K, N, he, hK, hN, _⟩ := leastT_of k n (wf_U64 hn)
    simp only [Option.some.injEq] at h
    rw [← h, he]
    refine ⟨⟨by rcases hK with rfl | rfl | rfl <;> decide, hN.wf, trivial⟩, ?_⟩
    simp only [bulk, bulkL, show (⟨#[]⟩ : ByteArray).size = 0 from rfl]; omega
  split at h
  · rename_i _ h2
    simp only [Option.some.injEq] at h
    rw [← h]
    refine ⟨number_wf _ _ (wf_U64 hn), ?_⟩
    have h3 := number_bulk n (l.getD 0 default).f3
    have h4 := own_bulk (l.getD 0 default)
    have h5 := getD_bulk (h13 h2.1)
    omega
  split at h
  · obtain ⟨m, hm, rfl⟩ := Option.map_eq_some_iff.1 h
    have hp := sortedF_of hm
    refine ⟨⟨hk, hn, wfL_all fun t ht => wfL_mem hl (List.mem_of_mem_take (hp.mem_iff.1 ht))⟩, ?_⟩
    have h1 := bulkL_perm hp
    have h2 : bulkL (l.take (2 * (l.length / 2))) ≤ bulkL l := by
      have := bulkL_append (l.take (2 * (l.length / 2))) (l.drop (2 * (l.length / 2)))
      rw [List.take_append_drop] at this
      omega
    simp only [bulk]; omega
  · simp only [Option.some.injEq] at h
    rw [← h]
    exact ⟨⟨hk, hn, hl⟩, by simp only [bulk]; omega⟩
mutual
/-- Tags have a value within them. -/
def Tg : T → Prop | ⟨k, _, _, _, l⟩ => (k = 13 → 0 < l.length) ∧ TgL l
def TgL : List T → Prop | [] => True | t :: r => Tg t ∧ TgL r
end
theorem plainF_ok : ∀ (t : T) (t' : T), plainF t = some t' → Wf t → Tg t → Wf t' ∧ bulk t' ≤ bulk t := by
  intro t
  induction t using T.ind with
  | h k neg n s l ih =>
    intro t' h hw hg
    simp only [plainF] at h
    obtain ⟨l', hl, h⟩ := Option.bind_eq_some_iff.1 h
    obtain ⟨w1, w2, w3⟩ := hw
    obtain ⟨g1, g2⟩ := hg
    have hL : ∀ (r r' : List T), (∀ t ∈ r, t ∈ l) → plainL r = some r' → WfL r → TgL r → WfL r' ∧ bulkL r' ≤ bulkL r := by
      intro r
      induction r with
      | nil =>
        intro r' _ h _ _
        simp only [plainL, Option.some.injEq] at h
        rw [← h]
        exact ⟨trivial, Nat.le_refl _⟩
      | cons x r ih2 =>
        intro r' hm h hw hg
        simp only [plainL] at h
        obtain ⟨x', hx, h⟩ := Option.bind_eq_some_iff.1 h
        obtain ⟨y, hr, rfl⟩ := Option.map_eq_some_iff.1 h
        have h1 := ih x (hm x (List.mem_cons_self ..)) x' hx hw.1 hg.1
        have h2 := ih2 y (fun t ht => hm t (List.mem_cons_of_mem _ ht)) hr hw.2 hg.2
        exact ⟨⟨h1.1, h2.1⟩, by simp only [bulkL]; omega⟩
    have h1 := hL l l' (fun t h => h) hl w3 g2
    have h2 := plainK_ok h w1 w2 h1.1 (fun e => by rw [plainL_len hl]; exact g1 e)
    exact ⟨h2.1, by simp only [bulk]; omega⟩
end Go.Proofs.YtfmceonbejlhlaaGreatDoor

/-
  det's plain, walked.
-/
namespace Go.Proofs.YtfmceonbejlhlaaGreatDoor
open Go.RowKit Go.Sort Go.Proofs.YtfmceonbejlhlaaGreatDoorW.PrintWords Go.Proofs.YtfmceonbejlhlaaGreatDoorW.PrintLast Go.Proofs.YtfmceonbejlhlaaGreatDoorW.PrintMore
set_option linter.unusedVariables false

def refusal : Value := .iface 147 (.agg #[.iface 27 (.int .i64 4)])
def New (w w' : World) (g : Nat) : Prop := w.heap.size ≤ g ∧ g < w'.heap.size
/-- What plain hands back. -/
def PlainPost (t : T) (w : World) (e : Ending) (w' : World) : Prop := Below w.heap.size w w' ∧ match plainF t with
  | none => ∃ (t0 : T) (a : Option Addr) (c : Nat), e = .returned (.tuple #[.agg #[.int .i64 t0.f0, .bool t0.f1, .int .u64 t0.f2, .string t0.f3, .slice a t0.f4.length c], refusal])
  | some t' => ∃ a c, e = .returned (.tuple #[.agg #[.int .i64 t'.f0, .bool t'.f1, .int .u64 t'.f2, .string t'.f3, .slice a t'.f4.length c], .nilIface]) ∧ RowOk w' (New w w') (t', a, c)
theorem rowsCells_app (a b : List RowT) : rowsCells (a ++ b) = rowsCells a ++ rowsCells b := by simp [rowsCells, List.flatMap_append]
theorem zero_rows (n : Nat) : (madeCells (Value.cells (.agg #[.int .i64 0, .bool false, .int .u64 0, .string ⟨#[]⟩, .slice none 0 0])) (n * 5)).toList = rowsCells (List.replicate n default) := by
  apply List.ext_getElem?
  intro j
  by_cases hj : j < n * 5
  · have h1 : (List.replicate n (default : RowT))[j / 5]? = some default := by
      rw [List.getElem?_replicate, if_pos (by omega)]
    have hz : (default : RowT).cells[j % 5]? = (zero5)[j % 5]? := rfl
    have h5 : j % 5 < 5 := Nat.mod_lt _ (by decide)
    obtain ⟨v, hv⟩ : ∃ v, zero5[j % 5]? = some v := ⟨_, List.getElem?_eq_getElem (show j % 5 < zero5.length from h5)⟩
    have h2 := rowsCells_get h1 (j % 5) v (hz.trans hv)
    rw [show 5 * (j / 5) + j % 5 = j by omega] at h2
    rw [h2]
    have : (madeCells (Value.cells (.agg #[.int .i64 0, .bool false, .int .u64 0, .string ⟨#[]⟩, .slice none 0 0])) (n * 5)).toList[j]? = some ((Value.cells (.agg #[.int .i64 0, .bool false, .int .u64 0, .string ⟨#[]⟩, .slice none 0 0]))[j % 5]!) := by
      simp [madeCells, hj, Value.cells]
    rw [this]
    congr 1
    have h6 : j % 5 = 0 ∨ j % 5 = 1 ∨ j % 5 = 2 ∨ j % 5 = 3 ∨ j % 5 = 4 := by omega
    rcases h6 with h | h | h | h | h <;> rw [h] at hv ⊢ <;> exact Option.some.inj hv
  · rw [List.getElem?_eq_none, List.getElem?_eq_none]
    · rw [rowsCells_len, List.length_replicate]; omega
    · simp [madeCells]; omega
theorem set_row (r R : List RowT) (y x : RowT) (k : Nat) (hk : r.length = k) : (((((rowsCells (r ++ y :: R)).set (k * 5) (.int .i64 x.1.f0)).set (k * 5 + 1) (.bool x.1.f1)).set (k * 5 + 2) (.int .u64 x.1.f2)).set (k * 5 + 3) (.string x.1.f3)).set (k * 5 + 4) (.slice x.2.1 x.1.f4.length x.2.2) = rowsCells (r ++ x :: R) := by
  have hl : (rowsCells r).length = k * 5 := by rw [rowsCells_len, hk]
  have e : ∀ z : RowT, rowsCells (r ++ z :: R) = rowsCells r ++ (z.cells ++ rowsCells R) := fun z => by rw [rowsCells_app]; rfl
  rw [e, e]
  rw [List.set_append_right _ _ (by omega), show k * 5 - (rowsCells r).length = 0 by omega]
  rw [List.set_append_right _ _ (by omega), show k * 5 + 1 - (rowsCells r).length = 1 by omega]
  rw [List.set_append_right _ _ (by omega), show k * 5 + 2 - (rowsCells r).length = 2 by omega]
  rw [List.set_append_right _ _ (by omega), show k * 5 + 3 - (rowsCells r).length = 3 by omega]
  rw [List.set_append_right _ _ (by omega), show k * 5 + 4 - (rowsCells r).length = 4 by omega]
  rfl
end Go.Proofs.YtfmceonbejlhlaaGreatDoor
