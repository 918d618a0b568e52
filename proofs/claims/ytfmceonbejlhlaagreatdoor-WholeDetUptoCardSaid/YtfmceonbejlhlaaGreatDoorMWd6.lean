import Derived.Deep.RegionLaw
import Derived.Deep.AppendLies
import Derived.RegionTactic
import Derived.StillTailTactics
import Derived.BigQuiet
import Derived.Deep.QuietTactic
import Derived.Test.YtfmceonbejlhlaaGreatDoorMWd5
/-
  event's Build: what it holds, in memory.
-/
namespace Go.Proofs.YtfmceonbejlhlaaGreatDoor
open Go.RowKit Go.Proofs.YtfmceonbejlhlaaGreatDoorW.PrintWords Go.Proofs.YtfmceonbejlhlaaGreatDoorW.PrintLast Go.Proofs.YtfmceonbejlhlaaGreatDoorW.PrintMore
set_option linter.unusedVariables false

/-- A value that is open: its kind, its number, what is within it by now. -/
structure PartC where
  k : Int
  n : Int
  l : List T
/-- A whole value comes to what is open (the innermost first). -/
def addC : List PartC → T → List PartC × Option T
  | [], t => ([], some t)
  | p :: rest, t => if p.k = 13 then addC rest ⟨13, false, p.n, ⟨#[]⟩, p.l ++ [t]⟩ else (⟨p.k, p.n, p.l ++ [t]⟩ :: rest, none)
/-- A value of a list: its content, where its own list lies. -/
abbrev RowT := T × Option Addr × Nat
def RowT.cells (x : RowT) : List Value := [.int .i64 x.1.f0, .bool x.1.f1, .int .u64 x.1.f2, .string x.1.f3, .slice x.2.1 x.1.f4.length x.2.2]
def rowsCells (l : List RowT) : List Value := l.flatMap RowT.cells
/-- An open value as it lies in memory. -/
structure Raw where
  k : Int
  n : Int
  lv : Value
  rows : List RowT
def Raw.c (r : Raw) : PartC := ⟨r.k, r.n, r.rows.map (·.1)⟩
def Raw.cells (r : Raw) : List Value := [.int .i64 r.k, .bool false, .int .u64 r.n, .string ⟨#[]⟩, r.lv]
/-- The lists' own blocks. -/
def Lists (rs : List Raw) (g : Nat) : Prop := ∃ r ∈ rs, r.lv.ownBlock = some g
def TyIs (W : World) (g : Nat) (t : TypeId) : Prop := ∃ cs fr, W.heap[g]? = some (.cells cs t fr)
/-- A block that no one writes any more. -/
def Still (W : World) (X : Nat → Prop) (rs : List Raw) (g : Nat) : Prop := TyIs W g 25 ∧ ¬ Lists rs g ∧ ¬ X g
def RowOk (W : World) (P : Nat → Prop) (x : RowT) : Prop := x.1.f4.length ≤ x.2.2 ∧ Tree W P x.1 x.2.1
def RawOk (W : World) (base : Nat) (P : Nat → Prop) (r : Raw) : Prop := W.ownsRow base 25 5 r.lv r.rows.length (rowsCells r.rows) ∧ ∀ x ∈ r.rows, RowOk W P x
def Lo (base g : Nat) : Prop := g < base
def Qo (base q g : Nat) : Prop := g = q ∨ g < base
theorem notQo {base q g : Nat} {A B : Prop} (h : A ∨ (B ∧ ¬ Qo base q g)) : A ∨ (B ∧ ¬ g = q) := h.imp_right fun h => ⟨h.1, fun e => h.2 (.inl e)⟩
theorem lo_qo {base q : Nat} (g : Nat) (h : Lo base g) : Qo base q g := .inr h
def Apart (rs : List Raw) : Prop := rs.Pairwise fun a b => ∀ g, a.lv.ownBlock = some g → b.lv.ownBlock ≠ some g
/-- What is open lies in memory. -/
def OpenIs (W : World) (base : Nat) (X : Nat → Prop) (ov : Value) (rs : List Raw) : Prop := W.ownsRow base 220 5 ov rs.length (rs.reverse.flatMap Raw.cells) ∧ (∀ r ∈ rs, RawOk W base (Still W X rs) r) ∧ Apart rs
def zero5 : List Value := [.int .i64 0, .bool false, .int .u64 0, .string ⟨#[]⟩, .slice none 0 0]
/-- The Build's block. -/
def Bb (W : World) (bp : Nat) (ov : Value) (wh : Bool) (x0 x1 x2 x3 x4 : Value) (count : Nat) : Prop := Blk W bp 122 #[.bool true, ov, .bool wh, x0, x1, x2, x3, x4, .int .i64 count, .int .i64 64]
/-- The Build holds this. -/
def BuildIs (W : World) (base bp : Nat) (st : List PartC) (wh : Option T) (count : Nat) : Prop := ∃ ov rs, OpenIs W base (Lo base) ov rs ∧ rs.map Raw.c = st ∧ base ≤ bp ∧
  match wh with
  | none => Bb W bp ov false (.int .i64 0) (.bool false) (.int .u64 0) (.string ⟨#[]⟩) (.slice none 0 0) count
  | some t => ∃ a c, Bb W bp ov true (.int .i64 t.f0) (.bool t.f1) (.int .u64 t.f2) (.string t.f3) (.slice a t.f4.length c) count ∧ RowOk W (Still W (Lo base) rs) (t, a, c)

theorem rowsCells_len (l : List RowT) : (rowsCells l).length = l.length * 5 := by
  induction l with
  | nil => rfl
  | cons x r ih => simp only [rowsCells, List.flatMap_cons, List.length_append, List.length_cons] at ih ⊢; rw [ih]; simp [RowT.cells]; omega
theorem rowsCells_snoc (l : List RowT) (x : RowT) : rowsCells (l ++ [x]) = rowsCells l ++ x.cells := by simp [rowsCells, List.flatMap_append]
theorem rawCells_len (rs : List Raw) : (rs.flatMap Raw.cells).length = rs.length * 5 := by
  induction rs with
  | nil => rfl
  | cons x r ih => simp only [List.flatMap_cons, List.length_append, List.length_cons] at ih ⊢; rw [ih]; simp [Raw.cells]; omega
theorem rowsCells_get : ∀ {l : List RowT} {i : Nat} {x : RowT}, l[i]? = some x → ∀ j v, x.cells[j]? = some v → (rowsCells l)[5 * i + j]? = some v
  | x :: r, 0, y, h, j, v, hv => by
    simp only [List.getElem?_cons_zero, Option.some.injEq] at h
    subst h
    have hj : j < x.cells.length := (List.getElem?_eq_some_iff.1 hv).1
    simp only [rowsCells, List.flatMap_cons, Nat.mul_zero, Nat.zero_add]
    rw [List.getElem?_append_left hj]; exact hv
  | x :: r, i + 1, y, h, j, v, hv => by
    have ih := rowsCells_get (l := r) (i := i) (x := y) (by simpa using h) j v hv
    simp only [rowsCells, List.flatMap_cons] at ih ⊢
    rw [List.getElem?_append_right (by simp [RowT.cells]; omega), show 5 * (i + 1) + j - x.cells.length = 5 * i + j by simp [RowT.cells]; omega]
    exact ih
/-- The rows of an open value, read as a list of trees. -/
theorem rows_tree {W : World} {base g m cap : Nat} {P : Nat → Prop} {rows : List RowT} (h : W.ownsRow base 25 5 (.slice (some ⟨g, 0, none⟩) m cap) m (rowsCells rows)) (hx : ∀ x ∈ rows, x.1.f4.length ≤ x.2.2 ∧ Tree W P x.1 x.2.1) : TreeL W P (rows.map (·.1)) g 0 := by
  refine treeL_mk fun i t e => ?_
  rw [List.getElem?_map] at e
  obtain ⟨x, hxi, rfl⟩ := Option.map_eq_some_iff.1 e
  have hok := hx x (List.mem_of_getElem? hxi)
  refine ⟨x.2.1, x.2.2, fun j v hv => ?_, hok.1, hok.2⟩
  have h1 := rowsCells_get hxi j v (by rw [← hv, ← Array.getElem?_toList]; rfl)
  have := h.cells (g := g) rfl _ v h1
  rw [WideShapes.add_plain, Nat.zero_add] at this
  rw [Nat.zero_add]
  exact this
theorem TyIs.lt {W : World} {g : Nat} {t : TypeId} (h : TyIs W g t) : g < W.heap.size := by
  obtain ⟨cs, fr, h⟩ := h
  exact (Array.getElem?_eq_some_iff.1 h).1
/-- Cells of other types than these are as they were. -/
def KeepT (ts : TypeId → Prop) (W W' : World) : Prop := W.heap.size ≤ W'.heap.size ∧ ∀ (g : Nat) (cs : Array Value) (t : TypeId) (fr : Nat × Nat), ¬ ts t → W.heap[g]? = some (.cells cs t fr) → W'.heap[g]? = some (.cells cs t fr)
theorem KeepT.refl (ts : TypeId → Prop) (W : World) : KeepT ts W W := ⟨Nat.le_refl _, fun _ _ _ _ _ h => h⟩
theorem KeepT.trans {ts : TypeId → Prop} {A B C : World} (h : KeepT ts A B) (k : KeepT ts B C) : KeepT ts A C := ⟨Nat.le_trans h.1 k.1, fun g cs t fr ht hg => k.2 g cs t fr ht (h.2 g cs t fr ht hg)⟩
theorem KeepT.of_below {ts : TypeId → Prop} {A B : World} (h : Below A.heap.size A B) : KeepT ts A B := ⟨h.size, fun g cs t fr _ hg => (h.block g (Array.getElem?_eq_some_iff.1 hg).1).trans hg⟩
theorem KeepT.setCell {ts : TypeId → Prop} {W : World} {b : Nat} {t : TypeId} (hb : TyIs W b t) (ht : ts t) (j : Nat) (u : Value) : KeepT ts W (W.setCell ⟨b, j, none⟩ u) := ⟨by simp [World.setCell], fun g cs t' fr hx hg => by
  refine (Below.heap_setCell W ⟨b, j, none⟩ u g (fun e => ?_)).trans hg
  have e' : g = b := e
  subst e'
  obtain ⟨cs2, fr2, h2⟩ := hb
  rw [h2] at hg
  injection hg with hg
  injection hg with _ hg
  exact hx (hg ▸ ht)⟩
theorem KeepT.grown {ts : TypeId → Prop} {W W' : World} {base e size n : Nat} {v : Value} {xs : List Value} (hg : W.grownBy W' v.ownBlock) (hrow : W.ownsRow base e size v n xs) (ht : ts e) : KeepT ts W W' := ⟨hg.size, fun g cs t fr hx h => by
  refine (hg.block g (Array.getElem?_eq_some_iff.1 h).1 fun e' => ?_).trans h
  obtain ⟨cells, hc⟩ := own_typed hrow g e'.symm
  rw [h] at hc
  injection hc with hc
  injection hc with _ hc
  exact hx (hc ▸ ht)⟩
theorem KeepT.blk {ts : TypeId → Prop} {W W' : World} (h : KeepT ts W W') {g : Nat} {t : TypeId} {cs : Array Value} (hb : Blk W g t cs) (ht : ¬ ts t) : Blk W' g t cs := h.2 g cs t _ ht hb
theorem KeepT.tyIs {ts : TypeId → Prop} {W W' : World} (h : KeepT ts W W') {g : Nat} {t : TypeId} (hb : TyIs W g t) (ht : ¬ ts t) : TyIs W' g t := by
  obtain ⟨cs, fr, hb⟩ := hb
  exact ⟨cs, fr, h.2 g cs t fr ht hb⟩
theorem KeepT.own {ts : TypeId → Prop} {W W' : World} (h : KeepT ts W W') {base e size n : Nat} {v : Value} {xs : List Value} (hrow : W.ownsRow base e size v n xs) (ht : ¬ ts e) : W'.ownsRow base e size v n xs :=
  own_move hrow fun k hk => by
    obtain ⟨cells, hc⟩ := own_typed hrow k hk
    rw [hc]
    exact h.2 k _ _ _ ht hc
theorem RowOk.keep {W W' : World} {P P' : Nat → Prop} {x : RowT} (h : RowOk W P x) (hP : ∀ g, P g → P' g) (hk : ∀ g, P g → W'.heap[g]? = W.heap[g]?) : RowOk W' P' x := ⟨h.1, tree_keep hP hk h.2⟩
theorem Still.below {W W' : World} {X : Nat → Prop} {rs : List Raw} {g : Nat} (h : Still W X rs g) (hb : Below W.heap.size W W') : Still W' X rs g := ⟨(KeepT.of_below (ts := fun _ => False) hb).tyIs h.1 (fun h => h), h.2⟩
theorem Still.same {W W' : World} {X : Nat → Prop} {rs : List Raw} {g : Nat} (h : Still W X rs g) (hb : Below W.heap.size W W') : W'.heap[g]? = W.heap[g]? := hb.block g h.1.lt
theorem RowOk.below {W W' : World} {X : Nat → Prop} {rs : List Raw} {x : RowT} (h : RowOk W (Still W X rs) x) (hb : Below W.heap.size W W') : RowOk W' (Still W' X rs) x := h.keep (fun _ h => h.below hb) (fun _ h => h.same hb)
theorem RawOk.below {W W' : World} {base : Nat} {X : Nat → Prop} {rs : List Raw} {r : Raw} (h : RawOk W base (Still W X rs) r) (hb : Below W.heap.size W W') : RawOk W' base (Still W' X rs) r := ⟨own_move h.1 fun k hk => hb.block k (own_lt h.1 k hk), fun x hx => (h.2 x hx).below hb⟩
theorem OpenIs.below {W W' : World} {base : Nat} {X : Nat → Prop} {ov : Value} {rs : List Raw} (h : OpenIs W base X ov rs) (hb : Below W.heap.size W W') : OpenIs W' base X ov rs := ⟨own_move h.1 fun k hk => hb.block k (own_lt h.1 k hk), fun r hr => (h.2.1 r hr).below hb, h.2.2⟩
/-- Another exclusion. -/
theorem Still.mono {W : World} {X Y : Nat → Prop} {rs : List Raw} {g : Nat} (hXY : ∀ g, Y g → X g) (h : Still W X rs g) : Still W Y rs g := ⟨h.1, h.2.1, fun hy => h.2.2 (hXY g hy)⟩
theorem RowOk.mono {W : World} {P P' : Nat → Prop} {x : RowT} (h : RowOk W P x) (hP : ∀ g, P g → P' g) : RowOk W P' x := h.keep hP (fun _ _ => rfl)
theorem OpenIs.mono {W : World} {base : Nat} {X Y : Nat → Prop} {ov : Value} {rs : List Raw} (h : OpenIs W base X ov rs) (hXY : ∀ g, TyIs W g 25 → Y g → X g) : OpenIs W base Y ov rs := ⟨h.1, fun r hr => ⟨(h.2.1 r hr).1, fun x hx => ((h.2.1 r hr).2 x hx).mono fun g hg => ⟨hg.1, hg.2.1, fun hy => hg.2.2 (hXY g hg.1 hy)⟩⟩, h.2.2⟩
theorem lists_lt {W : World} {base : Nat} {X : Nat → Prop} {ov : Value} {rs : List Raw} (h : OpenIs W base X ov rs) {g : Nat} (hg : Lists rs g) : base ≤ g ∧ TyIs W g 25 := by
  obtain ⟨r, hr, hg⟩ := hg
  have h1 := (h.2.1 r hr).1
  obtain ⟨cs, hc⟩ := own_typed h1 g hg
  exact ⟨own_base h1 g hg, cs, _, hc⟩

/-- The innermost open value, with a value more and its list at a block of its own. -/
def Raw.push (p : Raw) (g m c : Nat) (x : RowT) : Raw := ⟨p.k, p.n, .slice (some ⟨g, 0, none⟩) m c, p.rows ++ [x]⟩
theorem set_last (xs : List Value) (a b c d e v : Value) (n : Nat) (hn : xs.length = n) : (xs ++ [a, b, c, d, e]).set (n + 4) v = xs ++ [a, b, c, d, v] := by
  rw [List.set_append_right _ _ (by omega), show n + 4 - xs.length = 4 by omega]
  rfl
theorem set_five (xs : List Value) (z0 z1 z2 z3 z4 a b c d e : Value) (n : Nat) (hn : xs.length = n) : (((((xs ++ [z0, z1, z2, z3, z4]).set n a).set (n + 1) b).set (n + 2) c).set (n + 3) d).set (n + 4) e = xs ++ [a, b, c, d, e] := by
  rw [List.set_append_right _ _ (by omega), show n - xs.length = 0 by omega]
  rw [List.set_append_right _ _ (by omega), show n + 1 - xs.length = 1 by omega]
  rw [List.set_append_right _ _ (by omega), show n + 2 - xs.length = 2 by omega]
  rw [List.set_append_right _ _ (by omega), show n + 3 - xs.length = 3 by omega]
  rw [List.set_append_right _ _ (by omega), show n + 4 - xs.length = 4 by omega]
  rfl
/-- A value is put to the innermost open value: what lies in memory behind the append and the stores. -/
theorem OpenIs.push {wa w2 : World} {base og oc : Nat} {X : Nat → Prop} {p : Raw} {rest : List Raw} {x : RowT} {g2 c2 m n : Nat}
    (h : OpenIs wa base X (.slice (some ⟨og, 0, none⟩) (rest.length + 1) oc) (p :: rest)) (hx : RowOk wa (Still wa X (p :: rest)) x) (hm : p.rows.length = m) (hn : rest.length = n)
    (hown : w2.ownsRow base 25 5 (.slice (some ⟨g2, 0, none⟩) (m + 1) c2) (m + 1) (rowsCells p.rows ++ zero5)) (hgr : wa.grownBy w2 p.lv.ownBlock) (hg : p.lv.ownBlock = some g2 ∨ g2 = wa.heap.size) :
    OpenIs ((((((w2.setCell ⟨g2, m * 5, none⟩ (.int .i64 x.1.f0)).setCell ⟨g2, m * 5 + 1, none⟩ (.bool x.1.f1)).setCell ⟨g2, m * 5 + 2, none⟩ (.int .u64 x.1.f2)).setCell ⟨g2, m * 5 + 3, none⟩ (.string x.1.f3)).setCell ⟨g2, m * 5 + 4, none⟩ (.slice x.2.1 x.1.f4.length x.2.2)).setCell ⟨og, n * 5 + 4, none⟩ (.slice (some ⟨g2, 0, none⟩) (m + 1) c2))
      base X (.slice (some ⟨og, 0, none⟩) (rest.length + 1) oc) (p.push g2 (m + 1) c2 x :: rest) := by
  obtain ⟨ho, hr, hap⟩ := h
  have s1 := hown.stored (m * 5) (.int .i64 x.1.f0)
  have s2 := s1.1.stored (m * 5 + 1) (.bool x.1.f1)
  have s3 := s2.1.stored (m * 5 + 2) (.int .u64 x.1.f2)
  have s4 := s3.1.stored (m * 5 + 3) (.string x.1.f3)
  have s5 := s4.1.stored (m * 5 + 4) (.slice x.2.1 x.1.f4.length x.2.2)
  unfold zero5 at s5
  rw [set_five _ _ _ _ _ _ _ _ _ _ _ (m * 5) (by rw [rowsCells_len, hm])] at s5
  have hrow5 := s5.1
  have hG := ((((s1.2.trans s2.2).trans s3.2).trans s4.2).trans s5.2)
  clear s1 s2 s3 s4 s5
  obtain ⟨W3, hW3⟩ : ∃ W3, ((((w2.setCell ⟨g2, m * 5, none⟩ (.int .i64 x.1.f0)).setCell ⟨g2, m * 5 + 1, none⟩ (.bool x.1.f1)).setCell ⟨g2, m * 5 + 2, none⟩ (.int .u64 x.1.f2)).setCell ⟨g2, m * 5 + 3, none⟩ (.string x.1.f3)).setCell ⟨g2, m * 5 + 4, none⟩ (.slice x.2.1 x.1.f4.length x.2.2) = W3 := ⟨_, rfl⟩
  rw [hW3] at hrow5 hG ⊢
  clear hW3
  have hog : TyIs wa og 220 := by obtain ⟨cs, hc⟩ := own_typed ho og rfl; exact ⟨cs, _, hc⟩
  have ne25 : ∀ {g : Nat}, TyIs wa g 25 → g ≠ og := fun {g} h e => by
    subst e
    obtain ⟨cs, fr, h⟩ := h
    obtain ⟨cs2, fr2, h2⟩ := hog
    rw [h] at h2; injection h2 with h2; injection h2 with _ h2; cases h2
  have hp := hr p (List.mem_cons_self ..)
  have hg2 : ∀ {g : Nat}, TyIs wa g 25 → some g ≠ p.lv.ownBlock → g ≠ g2 := fun {g} h1 h2 e => by
    rcases hg with hg | hg
    · exact h2 (by rw [hg, e])
    · have := h1.lt; omega
  -- a block of values that is not this list's own
  have keep : ∀ {g : Nat}, TyIs wa g 25 → some g ≠ p.lv.ownBlock → (W3.setCell ⟨og, n * 5 + 4, none⟩ (.slice (some ⟨g2, 0, none⟩) (m + 1) c2)).heap[g]? = wa.heap[g]? := fun {g} h1 h2 => by
    rw [Below.heap_setCell _ _ _ _ (ne25 h1)]
    exact (hG.block g (Nat.lt_of_lt_of_le h1.lt hgr.size) (fun e => hg2 h1 h2 (by injection e))).trans (hgr.block g h1.lt h2)
  have still : ∀ g, Still wa X (p :: rest) g → Still (W3.setCell ⟨og, n * 5 + 4, none⟩ (.slice (some ⟨g2, 0, none⟩) (m + 1) c2)) X (p.push g2 (m + 1) c2 x :: rest) g := fun g hs => by
    have hne : some g ≠ p.lv.ownBlock := fun e => hs.2.1 ⟨p, List.mem_cons_self .., e.symm⟩
    refine ⟨?_, fun hl => ?_, hs.2.2⟩
    · obtain ⟨cs, fr, hc⟩ := hs.1
      exact ⟨cs, fr, (keep hs.1 hne).trans hc⟩
    · obtain ⟨r, hr', hl⟩ := hl
      rcases List.mem_cons.1 hr' with rfl | hr'
      · injection hl with hl
        exact hg2 hs.1 hne hl.symm
      · exact hs.2.1 ⟨r, List.mem_cons_of_mem _ hr', hl⟩
  have same : ∀ g, Still wa X (p :: rest) g → (W3.setCell ⟨og, n * 5 + 4, none⟩ (.slice (some ⟨g2, 0, none⟩) (m + 1) c2)).heap[g]? = wa.heap[g]? := fun g hs => keep hs.1 (fun e => hs.2.1 ⟨p, List.mem_cons_self .., e.symm⟩)
  have og2 : og ≠ g2 := fun e => by
    subst e
    rcases hg with hg | hg
    · obtain ⟨cs, hc⟩ := own_typed hp.1 og hg
      exact ne25 ⟨cs, _, hc⟩ rfl
    · have := hog.lt; omega
  have hogp : some og ≠ p.lv.ownBlock := fun e => by
    obtain ⟨cs, hc⟩ := own_typed hp.1 og e.symm
    exact ne25 ⟨cs, _, hc⟩ rfl
  have hrap := List.pairwise_cons.1 hap
  refine ⟨?_, fun r hr' => ?_, ?_⟩
  · have ho2 := own_move ho (w1 := W3) fun k hk => by
      have hk' : k = og := by injection hk with hk; exact hk.symm
      subst hk'
      exact (hG.block k (Nat.lt_of_lt_of_le hog.lt hgr.size) (fun e => og2 (by injection e))).trans (hgr.block k hog.lt hogp)
    have := (ho2.stored (n * 5 + 4) (.slice (some ⟨g2, 0, none⟩) (m + 1) c2)).1
    rw [List.reverse_cons, List.flatMap_append] at this ⊢
    rw [show [p].flatMap Raw.cells = [.int .i64 p.k, .bool false, .int .u64 p.n, .string ⟨#[]⟩, p.lv] by simp [Raw.cells], set_last _ _ _ _ _ _ _ (n * 5) (by rw [rawCells_len, List.length_reverse, hn])] at this
    simpa [Raw.cells, Raw.push] using this
  · rcases List.mem_cons.1 hr' with rfl | hr'
    · refine ⟨?_, fun y hy => ?_⟩
      · have := own_move hrow5 (w1 := W3.setCell ⟨og, n * 5 + 4, none⟩ (.slice (some ⟨g2, 0, none⟩) (m + 1) c2)) fun k hk => by
          have hk' : k = g2 := by injection hk with hk; exact hk.symm
          exact Below.heap_setCell _ _ _ _ (fun e => og2 (by rw [← hk']; exact e.symm))
        show World.ownsRow _ base 25 5 _ (p.rows ++ [x]).length _
        rw [List.length_append, hm, List.length_singleton, show (p.push g2 (m + 1) c2 x).rows = p.rows ++ [x] from rfl, rowsCells_snoc]
        exact this
      · rcases List.mem_append.1 hy with hy | hy
        · exact (hp.2 y hy).keep still same
        · rw [List.mem_singleton] at hy
          subst hy
          exact hx.keep still same
    · have h1 := hr r (List.mem_cons_of_mem _ hr')
      refine ⟨own_move h1.1 fun k hk => ?_, fun y hy => (h1.2 y hy).keep still same⟩
      obtain ⟨cs, hc⟩ := own_typed h1.1 k hk
      exact keep ⟨cs, _, hc⟩ (fun e => hrap.1 r hr' k e.symm hk)
  · refine List.pairwise_cons.2 ⟨fun r hr' g hg' hr2 => ?_, hrap.2⟩
    have e : g = g2 := by injection hg' with hg'; exact hg'.symm
    subst e
    rcases hg with hg | hg
    · exact hrap.1 r hr' g hg hr2
    · have := own_lt (hr r (List.mem_cons_of_mem _ hr')).1 g hr2
      omega
end Go.Proofs.YtfmceonbejlhlaaGreatDoor

/-
  event's Build: an open value is taken off; a value comes to what is open.
-/
namespace Go.Proofs.YtfmceonbejlhlaaGreatDoor
open Go.RowKit Go.Proofs.YtfmceonbejlhlaaGreatDoorW.PrintWords Go.Proofs.YtfmceonbejlhlaaGreatDoorW.PrintLast Go.Proofs.YtfmceonbejlhlaaGreatDoorW.PrintMore
set_option linter.unusedVariables false

def Raw.t (p : Raw) : T := ⟨p.k, false, p.n, ⟨#[]⟩, p.rows.map (·.1)⟩
/-- The innermost open value is taken off: it is a value like others. -/
theorem OpenIs.pop {W : World} {base og oc : Nat} {X : Nat → Prop} {p : Raw} {rest : List Raw} (h : OpenIs W base X (.slice (some ⟨og, 0, none⟩) (rest.length + 1) oc) (p :: rest)) (hX : ∀ g, Lists [p] g → ¬ X g) :
    OpenIs W base X (.slice (some ⟨og, 0, none⟩) rest.length oc) rest ∧ ∃ a c, p.lv = .slice a p.rows.length c ∧ RowOk W (Still W X rest) (p.t, a, c) := by
  obtain ⟨ho, hr, hap⟩ := h
  have hrap := List.pairwise_cons.1 hap
  have hp := hr p (List.mem_cons_self ..)
  have still : ∀ g, Still W X (p :: rest) g → Still W X rest g := fun g hs => ⟨hs.1, fun ⟨r, h1, h2⟩ => hs.2.1 ⟨r, List.mem_cons_of_mem _ h1, h2⟩, hs.2.2⟩
  refine ⟨⟨?_, fun r hr' => ⟨(hr r (List.mem_cons_of_mem _ hr')).1, fun y hy => ((hr r (List.mem_cons_of_mem _ hr')).2 y hy).mono still⟩, hrap.2⟩, ?_⟩
  · rcases ho.2 with ⟨e, _⟩ | ⟨g, cap, cur, e, hb, hh, h1, h2, h3, h4⟩
    · cases e
    · injection e with e1 e2 e3
      injection e1 with e1
      injection e1 with e1
      subst e1 e3
      refine ⟨by rw [rawCells_len, List.length_reverse], .inr ⟨og, oc, cur, rfl, hb, hh, by omega, h2, h3, ?_⟩⟩
      rw [List.reverse_cons, List.flatMap_append] at h4
      have := congrArg (List.take (rest.length * 5)) h4
      have hl : (List.flatMap Raw.cells rest.reverse).length = rest.length * 5 := by rw [rawCells_len, List.length_reverse]
      rw [List.take_take, Nat.min_eq_left (by simp; omega), List.take_append_of_le_length (by omega), List.take_of_length_le (l := List.flatMap Raw.cells rest.reverse) (by omega)] at this
      exact this
  · rcases hp.1.2 with ⟨e, h0⟩ | ⟨g, cap, cur, e, hb, hh, h1, h2, h3, h4⟩
    · refine ⟨none, 0, by rw [e, h0], ?_⟩
      have : p.rows = [] := List.eq_nil_of_length_eq_zero h0
      refine ⟨by show (p.rows.map (·.1)).length ≤ 0; rw [this]; exact Nat.le_refl _, ?_⟩
      unfold Raw.t
      simp only [Tree]
      exact ⟨by rw [this]; simp, .inl (by rw [this]; rfl)⟩
    · refine ⟨some ⟨g, 0, none⟩, cap, e, by show (p.rows.map (·.1)).length ≤ cap; rw [List.length_map]; exact h1, ?_⟩
      unfold Raw.t
      simp only [Tree]
      unfold maxLen at h2
      refine ⟨by rw [List.length_map]; omega, .inr ⟨g, 0, rfl, ⟨⟨cur, _, hh⟩, fun ⟨r, h1, h2⟩ => hrap.1 r h1 g (by rw [e]; rfl) h2, hX g ⟨p, List.mem_cons_self .., by rw [e]; rfl⟩⟩, ?_⟩⟩
      have hown := hp.1
      rw [e] at hown
      exact rows_tree hown fun x hx => (hp.2 x hx).mono still
theorem OpenIs.form {W : World} {base : Nat} {X : Nat → Prop} {ov : Value} {p : Raw} {rest : List Raw} (h : OpenIs W base X ov (p :: rest)) : ∃ og oc, ov = .slice (some ⟨og, 0, none⟩) (rest.length + 1) oc ∧ rest.length + 1 ≤ oc := by
  rcases h.1.2 with ⟨_, h0⟩ | ⟨g, cap, cur, e, _, _, h1, _⟩
  · simp at h0
  · exact ⟨g, cap, by simpa using e, by simpa using h1⟩
theorem OpenIs.lvForm {W : World} {base : Nat} {X : Nat → Prop} {ov : Value} {rs : List Raw} (h : OpenIs W base X ov rs) {p : Raw} (hp : p ∈ rs) : ∃ a c, p.lv = .slice a p.rows.length c := by
  rcases (h.2.1 p hp).1.2 with ⟨e, h0⟩ | ⟨g, cap, cur, e, _⟩
  · exact ⟨none, 0, by rw [e, h0]⟩
  · exact ⟨_, _, e⟩
/-- The cells of the innermost open value. -/
theorem OpenIs.top {W : World} {base og oc n : Nat} {X : Nat → Prop} {p : Raw} {rest : List Raw} (h : OpenIs W base X (.slice (some ⟨og, 0, none⟩) (rest.length + 1) oc) (p :: rest)) (hn : rest.length = n) :
    W.cell? ⟨og, n * 5, none⟩ = some (.int .i64 p.k) ∧ W.cell? ⟨og, n * 5 + 1, none⟩ = some (.bool false) ∧ W.cell? ⟨og, n * 5 + 2, none⟩ = some (.int .u64 p.n) ∧ W.cell? ⟨og, n * 5 + 3, none⟩ = some (.string ⟨#[]⟩) ∧ W.cell? ⟨og, n * 5 + 4, none⟩ = some p.lv := by
  have ho := h.1
  rw [List.reverse_cons, List.flatMap_append, show [p].flatMap Raw.cells = p.cells by simp] at ho
  have hl : (List.flatMap Raw.cells rest.reverse).length = n * 5 := by rw [rawCells_len, List.length_reverse, hn]
  have key : ∀ j v, p.cells[j]? = some v → W.cell? ⟨og, n * 5 + j, none⟩ = some v := fun j v hv => by
    have h1 : (List.flatMap Raw.cells rest.reverse ++ p.cells)[n * 5 + j]? = some v := by
      rw [List.getElem?_append_right (by omega), hl, show n * 5 + j - n * 5 = j by omega]; exact hv
    have := ho.cells (g := og) rfl _ v h1
    rwa [WideShapes.add_plain, Nat.zero_add] at this
  exact ⟨key 0 _ rfl, key 1 _ rfl, key 2 _ rfl, key 3 _ rfl, key 4 _ rfl⟩
theorem OpenIs.topFrozen {W : World} {base og oc n : Nat} {X : Nat → Prop} {p : Raw} {rest : List Raw} (h : OpenIs W base X (.slice (some ⟨og, 0, none⟩) (rest.length + 1) oc) (p :: rest)) (j : Nat) : W.frozen? ⟨og, j, none⟩ = false := h.1.frozenAt j
theorem info25 : (Tryz.prog.info? 25).map (fun i => (i.zero, i.size, i.bytes)) = some (some (.agg #[.int .i64 0, .bool false, .int .u64 0, .string ⟨#[]⟩, .slice none 0 0]), 5, 64) := by kernel_rfl
/-- What the Build's methods turn. -/
def Bt (t : TypeId) : Prop := t = 25 ∨ t = 220 ∨ t = 122
def Built (base : Nat) (w w' : World) : Prop := Below base w w' ∧ KeepT Bt w w'
theorem Built.refl (base : Nat) (w : World) : Built base w w := ⟨Below.refl _ _, KeepT.refl _ _⟩
theorem Built.trans {base : Nat} {a b c : World} (h : Built base a b) (k : Built base b c) : Built base a c := ⟨h.1.trans k.1, h.2.trans k.2⟩
theorem Built.of_below {base : Nat} {a b : World} (h : Below a.heap.size a b) (hb : base ≤ a.heap.size) : Built base a b := ⟨h.mono hb, KeepT.of_below h⟩
theorem Built.size {base : Nat} {a b : World} (h : Built base a b) : a.heap.size ≤ b.heap.size := h.1.size
theorem Built.setCell {base : Nat} {W : World} {b : Nat} {t : TypeId} (hb : TyIs W b t) (ht : Bt t) (hbase : base ≤ b) (j : Nat) (u : Value) : Built base W (W.setCell ⟨b, j, none⟩ u) := ⟨(Below.refl _ _).setCell (p := ⟨b, j, none⟩) hbase u, KeepT.setCell hb ht j u⟩
theorem Built.grown {base : Nat} {W W' : World} {b e size n : Nat} {v : Value} {xs : List Value} (hg : W.grownBy W' v.ownBlock) (hrow : W.ownsRow b e size v n xs) (hb : base ≤ b) (ht : Bt e) (hs : base ≤ W.heap.size) : Built base W W' :=
  ⟨(Below.refl _ _).grown hg hs (fun k hk => Nat.le_trans hb (own_base hrow k hk)), KeepT.grown hg hrow ht⟩
end Go.Proofs.YtfmceonbejlhlaaGreatDoor

/-
  event's Build: what one round of add brings about.
-/
namespace Go.Proofs.YtfmceonbejlhlaaGreatDoor
open Go.RowKit Go.Proofs.YtfmceonbejlhlaaGreatDoorW.PrintWords Go.Proofs.YtfmceonbejlhlaaGreatDoorW.PrintLast Go.Proofs.YtfmceonbejlhlaaGreatDoorW.PrintMore
set_option linter.unusedVariables false

section
variable {W : World} {bp : Nat} {ov : Value} {wh : Bool} {x0 x1 x2 x3 x4 : Value} {count : Nat} (h : Bb W bp ov wh x0 x1 x2 x3 x4 count)
include h
theorem Bb.c0 : W.cell? ⟨bp, 0, none⟩ = some (.bool true) := Blk.cell h rfl
theorem Bb.c1 : W.cell? ⟨bp, 1, none⟩ = some ov := Blk.cell h rfl
theorem Bb.c2 : W.cell? ⟨bp, 2, none⟩ = some (.bool wh) := Blk.cell h rfl
theorem Bb.c3 : W.cell? ⟨bp, 3, none⟩ = some x0 := Blk.cell h rfl
theorem Bb.c4 : W.cell? ⟨bp, 4, none⟩ = some x1 := Blk.cell h rfl
theorem Bb.c5 : W.cell? ⟨bp, 5, none⟩ = some x2 := Blk.cell h rfl
theorem Bb.c6 : W.cell? ⟨bp, 6, none⟩ = some x3 := Blk.cell h rfl
theorem Bb.c7 : W.cell? ⟨bp, 7, none⟩ = some x4 := Blk.cell h rfl
theorem Bb.c8 : W.cell? ⟨bp, 8, none⟩ = some (.int .i64 count) := Blk.cell h rfl
theorem Bb.c9 : W.cell? ⟨bp, 9, none⟩ = some (.int .i64 64) := Blk.cell h rfl
theorem Bb.fz (j : Nat) : W.frozen? ⟨bp, j, none⟩ = false := Blk.frozen h j
theorem Bb.lt : bp < W.heap.size := Blk.lt h
theorem Bb.ty : TyIs W bp 122 := ⟨_, _, h⟩
theorem Bb.below {W1 : World} (hb : Below W.heap.size W W1) : Bb W1 bp ov wh x0 x1 x2 x3 x4 count := (hb.block bp h.lt).trans h
theorem Bb.alloc (o : Obj) : Bb (W.alloc o) bp ov wh x0 x1 x2 x3 x4 count := Blk.alloc h o
theorem Bb.set1 (u : Value) : Bb (W.setCell ⟨bp, 1, none⟩ u) bp u wh x0 x1 x2 x3 x4 count := Blk.set_ h 1 u
theorem Bb.set8 (u : Nat) : Bb (W.setCell ⟨bp, 8, none⟩ (.int .i64 u)) bp ov wh x0 x1 x2 x3 x4 u := Blk.set_ h 8 _
end
theorem ty_ne {W : World} {a b : Nat} {s t : TypeId} (ha : TyIs W a s) (hb : TyIs W b t) (h : s ≠ t) : a ≠ b := fun e => by
  subst e
  obtain ⟨cs, fr, h1⟩ := ha
  obtain ⟨cs2, fr2, h2⟩ := hb
  rw [h1] at h2
  injection h2 with h2
  injection h2 with _ h2
  exact h h2
theorem setCell_here {W W' : World} (a : Addr) (u : Value) (h : W.heap[a.block]? = W'.heap[a.block]?) : (W.setCell a u).heap[a.block]? = (W'.setCell a u).heap[a.block]? := by
  simp only [World.setCell, Array.getElem?_modify, if_pos trivial, h]
theorem setCell_comm (w : World) {a b : Addr} (h : a.block ≠ b.block) (u v : Value) : (w.setCell a u).setCell b v = (w.setCell b v).setCell a u := by
  have e : ((w.setCell a u).setCell b v).heap = ((w.setCell b v).setCell a u).heap := by
    apply Array.ext_getElem?
    intro i
    by_cases hb : i = b.block
    · subst hb
      rw [Below.heap_setCell _ a u _ (Ne.symm h)]
      exact setCell_here b v (Below.heap_setCell _ a u _ (Ne.symm h))
    · rw [Below.heap_setCell _ b v i hb]
      by_cases ha : i = a.block
      · subst ha
        exact setCell_here a u (Below.heap_setCell _ b v _ h).symm
      · rw [Below.heap_setCell _ a u i ha, Below.heap_setCell _ a u i ha, Below.heap_setCell _ b v i hb]
  exact congrArg (fun hp => { w with heap := hp }) e
theorem zero5_one : ∀ u ∈ zero5, u.oneCell' = true := by
  intro u hu
  simp only [zero5, List.mem_cons, List.not_mem_nil, or_false] at hu
  rcases hu with rfl | rfl | rfl | rfl | rfl <;> rfl
/-- The new element, as its cells are stored one behind the other. -/
theorem zero_chain {w2 : World} {base g2 c2 m : Nat} {xs : List Value} (hl : xs.length = m * 5) (h : w2.ownsRow base 25 5 (.slice (some ⟨g2, 0, none⟩) (m + 1) c2) (m + 1) (xs ++ zero5)) :
    (w2.cell? ⟨g2, m * 5, none⟩ = some (.int .i64 0) ∧ w2.frozen? ⟨g2, m * 5, none⟩ = false) ∧
    (∀ a, (w2.setCell ⟨g2, m * 5, none⟩ a).cell? ⟨g2, m * 5 + 1, none⟩ = some (.bool false) ∧ (w2.setCell ⟨g2, m * 5, none⟩ a).frozen? ⟨g2, m * 5 + 1, none⟩ = false) ∧
    (∀ a b, ((w2.setCell ⟨g2, m * 5, none⟩ a).setCell ⟨g2, m * 5 + 1, none⟩ b).cell? ⟨g2, m * 5 + 2, none⟩ = some (.int .u64 0) ∧ ((w2.setCell ⟨g2, m * 5, none⟩ a).setCell ⟨g2, m * 5 + 1, none⟩ b).frozen? ⟨g2, m * 5 + 2, none⟩ = false) ∧
    (∀ a b c, (((w2.setCell ⟨g2, m * 5, none⟩ a).setCell ⟨g2, m * 5 + 1, none⟩ b).setCell ⟨g2, m * 5 + 2, none⟩ c).cell? ⟨g2, m * 5 + 3, none⟩ = some (.string ⟨#[]⟩) ∧ (((w2.setCell ⟨g2, m * 5, none⟩ a).setCell ⟨g2, m * 5 + 1, none⟩ b).setCell ⟨g2, m * 5 + 2, none⟩ c).frozen? ⟨g2, m * 5 + 3, none⟩ = false) ∧
    (∀ a b c d, ((((w2.setCell ⟨g2, m * 5, none⟩ a).setCell ⟨g2, m * 5 + 1, none⟩ b).setCell ⟨g2, m * 5 + 2, none⟩ c).setCell ⟨g2, m * 5 + 3, none⟩ d).cell? ⟨g2, m * 5 + 4, none⟩ = some (.slice none 0 0) ∧ ((((w2.setCell ⟨g2, m * 5, none⟩ a).setCell ⟨g2, m * 5 + 1, none⟩ b).setCell ⟨g2, m * 5 + 2, none⟩ c).setCell ⟨g2, m * 5 + 3, none⟩ d).frozen? ⟨g2, m * 5 + 4, none⟩ = false) := by
  have key : ∀ {W : World} {ys : List Value} (h : W.ownsRow base 25 5 (.slice (some ⟨g2, 0, none⟩) (m + 1) c2) (m + 1) ys) (j : Nat) (hj : j < 5) (v : Value), ys[m * 5 + j]? = some v → W.cell? ⟨g2, m * 5 + j, none⟩ = some v ∧ W.frozen? ⟨g2, m * 5 + j, none⟩ = false := fun h j hj v hv => ⟨(h.cellAt _ (by omega)).trans hv, h.frozenAt _⟩
  have at_ : ∀ (a b c d e : Value) (j : Nat) (hj : j < 5), (xs ++ [a, b, c, d, e])[m * 5 + j]? = [a, b, c, d, e][j]? := fun a b c d e j hj => by
    rw [List.getElem?_append_right (by omega), hl, show m * 5 + j - m * 5 = j by omega]
  have S0 := fun a => (h.stored (m * 5) a).1
  have S1 := fun a b => ((S0 a).stored (m * 5 + 1) b).1
  have S2 := fun a b c => ((S1 a b).stored (m * 5 + 2) c).1
  have S3 := fun a b c d => ((S2 a b c).stored (m * 5 + 3) d).1
  have set_ : ∀ (ys : List Value) (k : Nat) (a v : Value) (j : Nat), k ≠ j → ys[j]? = some v → (ys.set k a)[j]? = some v := fun ys k a v j hne hv => by
    rw [List.getElem?_set_ne hne]; exact hv
  have Z : ∀ (j : Nat) (v : Value), zero5[j]? = some v → j < 5 → (xs ++ zero5)[m * 5 + j]? = some v := fun j v hv hj => by
    unfold zero5 at hv ⊢
    rw [at_ _ _ _ _ _ j hj]; exact hv
  have z0 := Z 0 (.int .i64 0) rfl (by omega)
  have z1 := Z 1 (.bool false) rfl (by omega)
  have z2 := Z 2 (.int .u64 0) rfl (by omega)
  have z3 := Z 3 (.string ⟨#[]⟩) rfl (by omega)
  have z4 := Z 4 (.slice none 0 0) rfl (by omega)
  clear Z at_
  generalize xs ++ zero5 = ys at *
  refine ⟨?_, ?_, ?_, ?_, ?_⟩
  · have := key h 0 (by omega) _ z0; simpa using this
  · intro a; exact key (S0 a) 1 (by omega) _ (set_ ys (m * 5) a _ _ (by omega) z1)
  · intro a b; exact key (S1 a b) 2 (by omega) _ (set_ _ (m * 5 + 1) b _ _ (by omega) (set_ ys (m * 5) a _ _ (by omega) z2))
  · intro a b c; exact key (S2 a b c) 3 (by omega) _ (set_ _ (m * 5 + 2) c _ _ (by omega) (set_ _ (m * 5 + 1) b _ _ (by omega) (set_ ys (m * 5) a _ _ (by omega) z3)))
  · intro a b c d; exact key (S3 a b c d) 4 (by omega) _ (set_ _ (m * 5 + 3) d _ _ (by omega) (set_ _ (m * 5 + 2) c _ _ (by omega) (set_ _ (m * 5 + 1) b _ _ (by omega) (set_ ys (m * 5) a _ _ (by omega) z4))))
theorem both_of {wa W : World} {g : Nat} (hb : W.heap[g]? = wa.heap[g]?) (i : Nat) {v : Value} (hv : wa.cell? ⟨g, i, none⟩ = some v) (hf : wa.frozen? ⟨g, i, none⟩ = false) : W.cell? ⟨g, i, none⟩ = some v ∧ W.frozen? ⟨g, i, none⟩ = false := ⟨(World.cell?_of_block (w := wa) (a := ⟨g, i, none⟩) hb).trans hv, (World.frozen?_of_block (w := wa) (a := ⟨g, i, none⟩) hb).trans hf⟩
/-- The open array's cell, behind the new element's stores. -/
theorem open_chain {wa w2 : World} {og g2 : Nat} {row : Option Nat} (hgr : wa.grownBy w2 row) (hlt : og < wa.heap.size) (hne : some og ≠ row) (h2 : og ≠ g2) (i : Nat) {v : Value} (hv : wa.cell? ⟨og, i, none⟩ = some v) (hf : wa.frozen? ⟨og, i, none⟩ = false) (m : Nat) (a b c d e : Value) :
    (((((w2.setCell ⟨g2, m * 5, none⟩ a).setCell ⟨g2, m * 5 + 1, none⟩ b).setCell ⟨g2, m * 5 + 2, none⟩ c).setCell ⟨g2, m * 5 + 3, none⟩ d).setCell ⟨g2, m * 5 + 4, none⟩ e).cell? ⟨og, i, none⟩ = some v ∧ (((((w2.setCell ⟨g2, m * 5, none⟩ a).setCell ⟨g2, m * 5 + 1, none⟩ b).setCell ⟨g2, m * 5 + 2, none⟩ c).setCell ⟨g2, m * 5 + 3, none⟩ d).setCell ⟨g2, m * 5 + 4, none⟩ e).frozen? ⟨og, i, none⟩ = false := by
  have hb : (((((w2.setCell ⟨g2, m * 5, none⟩ a).setCell ⟨g2, m * 5 + 1, none⟩ b).setCell ⟨g2, m * 5 + 2, none⟩ c).setCell ⟨g2, m * 5 + 3, none⟩ d).setCell ⟨g2, m * 5 + 4, none⟩ e).heap[og]? = wa.heap[og]? := by
    rw [Below.heap_setCell _ ⟨g2, _, none⟩ _ og h2, Below.heap_setCell _ ⟨g2, _, none⟩ _ og h2, Below.heap_setCell _ ⟨g2, _, none⟩ _ og h2, Below.heap_setCell _ ⟨g2, _, none⟩ _ og h2, Below.heap_setCell _ ⟨g2, _, none⟩ _ og h2]
    exact hgr.block og hlt hne
  exact both_of hb i hv hf
/-- Behind the append and the stores of a round of add. -/
theorem push_all {wr wa w2 : World} {base bp q og oc g2 c2 m n count : Nat} {p : Raw} {rest : List Raw} {x : RowT}
    (hO : OpenIs wr base (Qo base q) (.slice (some ⟨og, 0, none⟩) (rest.length + 1) oc) (p :: rest)) (hB : Bb wr bp (.slice (some ⟨og, 0, none⟩) (rest.length + 1) oc) false (.int .i64 0) (.bool false) (.int .u64 0) (.string ⟨#[]⟩) (.slice none 0 0) count)
    (hq : Row5 wr q (.int .i64 x.1.f0) (.bool x.1.f1) (.int .u64 x.1.f2) (.string x.1.f3) (.slice x.2.1 x.1.f4.length x.2.2)) (hx : RowOk wr (Still wr (Qo base q) (p :: rest)) x) (hL : ∀ g, Lists (p :: rest) g → g ≠ q) (hbase : base ≤ wr.heap.size)
    (hwa : Below wr.heap.size wr wa) (hm : p.rows.length = m) (hn : rest.length = n)
    (hown : w2.ownsRow base 25 5 (.slice (some ⟨g2, 0, none⟩) (m + 1) c2) (m + 1) (rowsCells p.rows ++ zero5)) (hgr : wa.grownBy w2 p.lv.ownBlock) (hg : p.lv.ownBlock = some g2 ∨ g2 = wa.heap.size) :
    ∀ W4, ((((((w2.setCell ⟨g2, m * 5, none⟩ (.int .i64 x.1.f0)).setCell ⟨g2, m * 5 + 1, none⟩ (.bool x.1.f1)).setCell ⟨g2, m * 5 + 2, none⟩ (.int .u64 x.1.f2)).setCell ⟨g2, m * 5 + 3, none⟩ (.string x.1.f3)).setCell ⟨g2, m * 5 + 4, none⟩ (.slice x.2.1 x.1.f4.length x.2.2)).setCell ⟨og, n * 5 + 4, none⟩ (.slice (some ⟨g2, 0, none⟩) (m + 1) c2)) = W4 →
      OpenIs W4 base (Qo base q) (.slice (some ⟨og, 0, none⟩) (rest.length + 1) oc) (p.push g2 (m + 1) c2 x :: rest) ∧ Bb W4 bp (.slice (some ⟨og, 0, none⟩) (rest.length + 1) oc) false (.int .i64 0) (.bool false) (.int .u64 0) (.string ⟨#[]⟩) (.slice none 0 0) count ∧
      Row5 W4 q (.int .i64 x.1.f0) (.bool x.1.f1) (.int .u64 x.1.f2) (.string x.1.f3) (.slice x.2.1 x.1.f4.length x.2.2) ∧ Built base wr W4 ∧ (∀ g, Lists (p.push g2 (m + 1) c2 x :: rest) g → g ≠ q) := by
  intro W4 hW4
  have hOa := hO.below hwa
  have hP := hOa.push (hx.below hwa) hm hn hown hgr hg
  rw [hW4] at hP
  have hp := (hOa.2.1 p (List.mem_cons_self ..)).1
  have hbq := hq.lt
  have hg2q : g2 ≠ q := by
    rcases hg with hg | hg
    · exact hL g2 ⟨p, List.mem_cons_self .., hg⟩
    · have := hwa.size; omega
  have t2 : TyIs w2 g2 25 := by obtain ⟨cs, hc⟩ := own_typed hown g2 rfl; exact ⟨cs, _, hc⟩
  have tog : TyIs wa og 220 := by obtain ⟨cs, hc⟩ := own_typed hOa.1 og rfl; exact ⟨cs, _, hc⟩
  have hogp : some og ≠ p.lv.ownBlock := fun e => by
    obtain ⟨cs, hc⟩ := own_typed hp og e.symm
    exact ty_ne tog ⟨cs, _, hc⟩ (by decide) rfl
  have togl := tog.lt
  have tog2 : TyIs w2 og 220 := by obtain ⟨cs, fr, hc⟩ := tog; exact ⟨cs, fr, (hgr.block og togl hogp).trans hc⟩
  have hba : base ≤ wa.heap.size := Nat.le_trans hbase hwa.size
  have hb2 : base ≤ g2 := own_base hown g2 rfl
  have hbo : base ≤ og := own_base hO.1 og rfl
  have S0 : Built base wr w2 := (Built.of_below hwa hbase).trans (Built.grown hgr hp (Nat.le_refl _) (.inl rfl) hba)
  have k2 : ∀ {W : World} (h : TyIs W g2 25) (j : Nat) (u : Value), TyIs (W.setCell ⟨g2, j, none⟩ u) g2 25 := fun {W} h j u => by
    obtain ⟨cs, fr, hc⟩ := h
    exact ⟨cs.setIfInBounds j u, fr, by simp [World.setCell, Array.getElem?_modify, hc]⟩
  have k3 : ∀ {W : World} (h : TyIs W g2 25) (h' : TyIs W og 220) (j : Nat) (u : Value), TyIs (W.setCell ⟨g2, j, none⟩ u) og 220 := fun {W} h h' j u => by
    have hne : og ≠ g2 := ty_ne h' h (by decide)
    obtain ⟨cs, fr, hc⟩ := h'
    exact ⟨cs, fr, (Below.heap_setCell W ⟨g2, j, none⟩ u og hne).trans hc⟩
  have a0 := k2 t2 (m * 5) (.int .i64 x.1.f0)
  have a1 := k2 a0 (m * 5 + 1) (.bool x.1.f1)
  have a2 := k2 a1 (m * 5 + 2) (.int .u64 x.1.f2)
  have a3 := k2 a2 (m * 5 + 3) (.string x.1.f3)
  have a4 := k2 a3 (m * 5 + 4) (.slice x.2.1 x.1.f4.length x.2.2)
  have b0 := k3 t2 tog2 (m * 5) (.int .i64 x.1.f0)
  have b1 := k3 a0 b0 (m * 5 + 1) (.bool x.1.f1)
  have b2 := k3 a1 b1 (m * 5 + 2) (.int .u64 x.1.f2)
  have b3 := k3 a2 b2 (m * 5 + 3) (.string x.1.f3)
  have b4 := k3 a3 b3 (m * 5 + 4) (.slice x.2.1 x.1.f4.length x.2.2)
  have S := (((((S0.trans (Built.setCell t2 (.inl rfl) hb2 (m * 5) (.int .i64 x.1.f0))).trans (Built.setCell a0 (.inl rfl) hb2 (m * 5 + 1) (.bool x.1.f1))).trans (Built.setCell a1 (.inl rfl) hb2 (m * 5 + 2) (.int .u64 x.1.f2))).trans (Built.setCell a2 (.inl rfl) hb2 (m * 5 + 3) (.string x.1.f3))).trans (Built.setCell a3 (.inl rfl) hb2 (m * 5 + 4) (.slice x.2.1 x.1.f4.length x.2.2))).trans
    (Built.setCell b4 (.inr (.inl rfl)) hbo (n * 5 + 4) (.slice (some ⟨g2, 0, none⟩) (m + 1) c2))
  -- a block that is neither the list's nor the open array's
  have far : ∀ g, g < wr.heap.size → some g ≠ p.lv.ownBlock → g ≠ g2 → g ≠ og → W4.heap[g]? = wr.heap[g]? := fun g h1 h2 h3 h4 => by
    rw [← hW4]
    rw [Below.heap_setCell _ ⟨og, _, none⟩ _ g h4, Below.heap_setCell _ ⟨g2, _, none⟩ _ g h3, Below.heap_setCell _ ⟨g2, _, none⟩ _ g h3, Below.heap_setCell _ ⟨g2, _, none⟩ _ g h3, Below.heap_setCell _ ⟨g2, _, none⟩ _ g h3, Below.heap_setCell _ ⟨g2, _, none⟩ _ g h3]
    exact (hgr.block g (Nat.lt_of_lt_of_le h1 hwa.size) h2).trans (hwa.block g h1)
  have togr : TyIs wr og 220 := by obtain ⟨cs, hc⟩ := own_typed hO.1 og rfl; exact ⟨cs, _, hc⟩
  have tpr : ∀ g, p.lv.ownBlock = some g → TyIs wr g 25 := fun g e => by
    obtain ⟨cs, hc⟩ := own_typed (hO.2.1 p (List.mem_cons_self ..)).1 g e
    exact ⟨cs, _, hc⟩
  have tqr : TyIs wr q 25 := ⟨_, _, hq⟩
  rw [hW4] at S
  refine ⟨hP, ?_, ?_, S, ?_⟩
  · refine (far bp hB.lt (fun e => ty_ne hB.ty (tpr bp e.symm) (by decide) rfl) (fun e => ?_) (fun e => ty_ne hB.ty togr (by decide) e)).trans hB
    rcases hg with hg | hg
    · exact ty_ne hB.ty (tpr g2 hg) (by decide) e
    · have := hB.lt; have := hwa.size; omega
  · exact (far q hbq (fun e => hL q ⟨p, List.mem_cons_self .., e.symm⟩ rfl) (fun e => hg2q e.symm) (fun e => ty_ne tqr togr (by decide) e)).trans hq
  · rintro g ⟨r, hr, hl⟩
    rcases List.mem_cons.1 hr with rfl | hr
    · injection hl with hl
      rw [← hl]; exact hg2q
    · exact hL g ⟨r, List.mem_cons_of_mem _ hr, hl⟩
/-- The slice is stored ahead of the element: the same memory. -/
theorem chain_swap (w2 : World) {og g2 : Nat} (h : og ≠ g2) (i m : Nat) (s a b c d e : Value) :
    (((((w2.setCell ⟨og, i, none⟩ s).setCell ⟨g2, m * 5, none⟩ a).setCell ⟨g2, m * 5 + 1, none⟩ b).setCell ⟨g2, m * 5 + 2, none⟩ c).setCell ⟨g2, m * 5 + 3, none⟩ d).setCell ⟨g2, m * 5 + 4, none⟩ e =
    (((((w2.setCell ⟨g2, m * 5, none⟩ a).setCell ⟨g2, m * 5 + 1, none⟩ b).setCell ⟨g2, m * 5 + 2, none⟩ c).setCell ⟨g2, m * 5 + 3, none⟩ d).setCell ⟨g2, m * 5 + 4, none⟩ e).setCell ⟨og, i, none⟩ s := by
  rw [setCell_comm w2 (a := ⟨og, i, none⟩) (b := ⟨g2, m * 5, none⟩) h, setCell_comm _ (a := ⟨og, i, none⟩) (b := ⟨g2, m * 5 + 1, none⟩) h, setCell_comm _ (a := ⟨og, i, none⟩) (b := ⟨g2, m * 5 + 2, none⟩) h, setCell_comm _ (a := ⟨og, i, none⟩) (b := ⟨g2, m * 5 + 3, none⟩) h, setCell_comm _ (a := ⟨og, i, none⟩) (b := ⟨g2, m * 5 + 4, none⟩) h]
theorem open_first {wa w2 : World} {og : Nat} {row : Option Nat} (hgr : wa.grownBy w2 row) (hlt : og < wa.heap.size) (hne : some og ≠ row) (i : Nat) {v : Value} (hv : wa.cell? ⟨og, i, none⟩ = some v) (hf : wa.frozen? ⟨og, i, none⟩ = false) : w2.cell? ⟨og, i, none⟩ = some v ∧ w2.frozen? ⟨og, i, none⟩ = false := both_of (hgr.block og hlt hne) i hv hf
theorem own_far {w2 : World} {base e size n g2 m c2 og i : Nat} {s : Value} {xs : List Value} (h : w2.ownsRow base e size (.slice (some ⟨g2, 0, none⟩) m c2) n xs) (hne : og ≠ g2) : (w2.setCell ⟨og, i, none⟩ s).ownsRow base e size (.slice (some ⟨g2, 0, none⟩) m c2) n xs :=
  own_move h fun k hk => by
    have e : k = g2 := by injection hk with hk; exact hk.symm
    exact Below.heap_setCell _ _ _ _ (fun e' => hne (by rw [← e]; exact e'.symm))
section
variable {W : World} {bp : Nat} {ov : Value} {wh : Bool} {x0 x1 x2 x3 x4 : Value} {count : Nat} (h : Bb W bp ov wh x0 x1 x2 x3 x4 count)
include h
theorem Bb.set2 (u : Bool) : Bb (W.setCell ⟨bp, 2, none⟩ (.bool u)) bp ov u x0 x1 x2 x3 x4 count := Blk.set_ h 2 _
theorem Bb.set3 (u : Value) : Bb (W.setCell ⟨bp, 3, none⟩ u) bp ov wh u x1 x2 x3 x4 count := Blk.set_ h 3 _
theorem Bb.set4 (u : Value) : Bb (W.setCell ⟨bp, 4, none⟩ u) bp ov wh x0 u x2 x3 x4 count := Blk.set_ h 4 _
theorem Bb.set5 (u : Value) : Bb (W.setCell ⟨bp, 5, none⟩ u) bp ov wh x0 x1 u x3 x4 count := Blk.set_ h 5 _
theorem Bb.set6 (u : Value) : Bb (W.setCell ⟨bp, 6, none⟩ u) bp ov wh x0 x1 x2 u x4 count := Blk.set_ h 6 _
theorem Bb.set7 (u : Value) : Bb (W.setCell ⟨bp, 7, none⟩ u) bp ov wh x0 x1 x2 x3 u count := Blk.set_ h 7 _
end
section
variable {W : World} {g : Nat} {a b c d e : Value} (h : Row5 W g a b c d e)
include h
theorem Row5.s0 (u : Value) : Row5 (W.setCell ⟨g, 0, none⟩ u) g u b c d e := Blk.set_ h 0 u
theorem Row5.s1 (u : Value) : Row5 (W.setCell ⟨g, 1, none⟩ u) g a u c d e := Blk.set_ h 1 u
theorem Row5.s2 (u : Value) : Row5 (W.setCell ⟨g, 2, none⟩ u) g a b u d e := Blk.set_ h 2 u
theorem Row5.s3 (u : Value) : Row5 (W.setCell ⟨g, 3, none⟩ u) g a b c u e := Blk.set_ h 3 u
theorem Row5.s4 (u : Value) : Row5 (W.setCell ⟨g, 4, none⟩ u) g a b c d u := Blk.set_ h 4 u
theorem Row5.ty : TyIs W g 25 := ⟨_, _, h⟩
theorem Row5.far {p : Addr} (hp : g ≠ p.block) (u : Value) : Row5 (W.setCell p u) g a b c d e := Blk.far h hp u
end
/-- What lies where no one has written. -/
theorem Still.alike {W W' : World} {X : Nat → Prop} {rs : List Raw} (hs : ∀ g, TyIs W g 220 ∨ (TyIs W g 25 ∧ ¬ X g) → W'.heap[g]? = W.heap[g]?) {g : Nat} (h : Still W X rs g) : Still W' X rs g := by
  refine ⟨?_, h.2⟩
  have h1 := hs g (.inr ⟨h.1, h.2.2⟩)
  obtain ⟨cs, fr, hc⟩ := h.1
  exact ⟨cs, fr, h1.trans hc⟩
theorem RowOk.alike {W W' : World} {X : Nat → Prop} {rs : List Raw} {x : RowT} (h : RowOk W (Still W X rs) x) (hs : ∀ g, TyIs W g 220 ∨ (TyIs W g 25 ∧ ¬ X g) → W'.heap[g]? = W.heap[g]?) : RowOk W' (Still W' X rs) x :=
  h.keep (fun _ h => h.alike hs) (fun g h => hs g (.inr ⟨h.1, h.2.2⟩))
theorem OpenIs.alike {W W' : World} {base : Nat} {X : Nat → Prop} {ov : Value} {rs : List Raw} (h : OpenIs W base X ov rs) (hs : ∀ g, TyIs W g 220 ∨ (TyIs W g 25 ∧ ¬ X g) → W'.heap[g]? = W.heap[g]?) (hL : ∀ g, Lists rs g → ¬ X g) : OpenIs W' base X ov rs := by
  refine ⟨own_move h.1 fun k hk => ?_, fun r hr => ⟨own_move (h.2.1 r hr).1 fun k hk => ?_, fun x hx => ((h.2.1 r hr).2 x hx).alike hs⟩, h.2.2⟩
  · obtain ⟨cs, hc⟩ := own_typed h.1 k hk
    exact hs k (.inl ⟨cs, _, hc⟩)
  · obtain ⟨cs, hc⟩ := own_typed (h.2.1 r hr).1 k hk
    exact hs k (.inr ⟨⟨cs, _, hc⟩, hL k ⟨r, hr, hk⟩⟩)
end Go.Proofs.YtfmceonbejlhlaaGreatDoor

/-
  event's Build: the head of add's loop.
-/
namespace Go.Proofs.YtfmceonbejlhlaaGreatDoor
open Go.RowKit Go.Proofs.YtfmceonbejlhlaaGreatDoorW.PrintWords Go.Proofs.YtfmceonbejlhlaaGreatDoorW.PrintLast Go.Proofs.YtfmceonbejlhlaaGreatDoorW.PrintMore
set_option linter.unusedVariables false

/-- What a method of the Build leaves. -/
def BuildPost (base bp : Nat) (v : Value) (st : List PartC) (wh : Option T) (count : Nat) (w : World) (e : Ending) (w' : World) : Prop := e = .returned v ∧ BuildIs w' base bp st wh count ∧ Built base w w'
/-- At the head of add's loop. -/
def AddInv (base bp q count : Nat) (st : List PartC) (t : T) (w : World) (n : Value) (wr : World) : Prop :=
  ∃ (rs : List Raw) (x : RowT) (ov : Value), n = .int .i64 ((rs.length : Int) - 1) ∧ OpenIs wr base (Qo base q) ov rs ∧ Bb wr bp ov false (.int .i64 0) (.bool false) (.int .u64 0) (.string ⟨#[]⟩) (.slice none 0 0) count ∧ Row5 wr q (.int .i64 x.1.f0) (.bool x.1.f1) (.int .u64 x.1.f2) (.string x.1.f3) (.slice x.2.1 x.1.f4.length x.2.2) ∧ RowOk wr (Still wr (Qo base q) rs) x ∧ addC (rs.map Raw.c) x.1 = addC st t ∧ Built base w wr ∧ rs.length ≤ 4294967296 ∧ (∀ r ∈ rs, r.rows.length ≤ 4294967296) ∧ ∀ g, Lists rs g → g ≠ q
theorem addC_cons (p : Raw) (rest : List Raw) (t : T) : addC ((p :: rest).map Raw.c) t = if p.k = 13 then addC (rest.map Raw.c) ⟨13, false, p.n, ⟨#[]⟩, p.rows.map (·.1) ++ [t]⟩ else (⟨p.k, p.n, p.rows.map (·.1) ++ [t]⟩ :: rest.map Raw.c, none) := rfl
/-- A value is stored into a variable's box, cell by cell. -/
theorem five_sets {W : World} {base q : Nat} {a0 b0 c0 d0 e0 : Value} (h : Row5 W q a0 b0 c0 d0 e0) (hb : base ≤ q) (a b c d e : Value) :
    ∀ W5, ((((W.setCell ⟨q, 0, none⟩ a).setCell ⟨q, 1, none⟩ b).setCell ⟨q, 2, none⟩ c).setCell ⟨q, 3, none⟩ d).setCell ⟨q, 4, none⟩ e = W5 → Row5 W5 q a b c d e ∧ (∀ g, g ≠ q → W5.heap[g]? = W.heap[g]?) ∧ Built base W W5 := by
  intro W5 hW
  have h1 := h.s0 a
  have h2 := h1.s1 b
  have h3 := h2.s2 c
  have h4 := h3.s3 d
  have h5 := h4.s4 e
  have s := ((((Built.setCell (base := base) h.ty (.inl rfl) hb 0 a).trans (Built.setCell h1.ty (.inl rfl) hb 1 b)).trans (Built.setCell h2.ty (.inl rfl) hb 2 c)).trans (Built.setCell h3.ty (.inl rfl) hb 3 d)).trans (Built.setCell h4.ty (.inl rfl) hb 4 e)
  refine ⟨hW ▸ h5, fun g hg => ?_, hW ▸ s⟩
  rw [← hW]
  rw [Below.heap_setCell _ ⟨q, _, none⟩ _ g hg, Below.heap_setCell _ ⟨q, _, none⟩ _ g hg, Below.heap_setCell _ ⟨q, _, none⟩ _ g hg, Below.heap_setCell _ ⟨q, _, none⟩ _ g hg, Below.heap_setCell _ ⟨q, _, none⟩ _ g hg]
theorem push_t {p : Raw} {g m c : Nat} {x : RowT} (hk : p.k = 13) : (p.push g m c x).t = ⟨13, false, p.n, ⟨#[]⟩, p.rows.map (·.1) ++ [x.1]⟩ := by
  show (⟨p.k, false, p.n, ⟨#[]⟩, (p.rows ++ [x]).map (·.1)⟩ : T) = _
  rw [hk]; simp
theorem add_next {base bp count og oc g2 c2 m n : Nat} {st : List PartC} {t : T} {w W4 : World} {p : Raw} {rest : List Raw} {x : RowT}
    (hadd : addC ((p :: rest).map Raw.c) x.1 = addC st t) (hk : p.k = 13) (hm : p.rows.length = m) (hn : rest.length = n)
    (hpp : OpenIs W4 base (Qo base w.heap.size) (.slice (some ⟨og, 0, none⟩) rest.length oc) rest ∧ ∃ a c, (p.push g2 (m + 1) c2 x).lv = .slice a (p.push g2 (m + 1) c2 x).rows.length c ∧ RowOk W4 (Still W4 (Qo base w.heap.size) rest) ((p.push g2 (m + 1) c2 x).t, a, c))
    (hB : Bb W4 bp (.slice (some ⟨og, 0, none⟩) (rest.length + 1) oc) false (.int .i64 0) (.bool false) (.int .u64 0) (.string ⟨#[]⟩) (.slice none 0 0) count) (hq : Row5 W4 w.heap.size (.int .i64 x.1.f0) (.bool x.1.f1) (.int .u64 x.1.f2) (.string x.1.f3) (.slice x.2.1 x.1.f4.length x.2.2)) (hbt : Built base w W4) (hbase : base ≤ w.heap.size) (hbp : base ≤ bp)
    (hL : ∀ g, Lists (p.push g2 (m + 1) c2 x :: rest) g → g ≠ w.heap.size) (hl1 : rest.length ≤ 4294967296) (hl2 : ∀ r ∈ rest, r.rows.length ≤ 4294967296) :
    ∀ W5, (((((W4.setCell ⟨w.heap.size, 0, none⟩ (.int .i64 13)).setCell ⟨w.heap.size, 1, none⟩ (.bool false)).setCell ⟨w.heap.size, 2, none⟩ (.int .u64 p.n)).setCell ⟨w.heap.size, 3, none⟩ (.string ⟨#[]⟩)).setCell ⟨w.heap.size, 4, none⟩ (.slice (some ⟨g2, 0, none⟩) (m + 1) c2)) = W5 →
    AddInv base bp w.heap.size count st t w (.int .i64 ((n : Int) - 1)) (W5.setCell ⟨bp, 1, none⟩ (.slice (some ⟨og, 0, none⟩) n oc)) := by
  intro W5 hW5
  obtain ⟨q5, hsame, bt5⟩ := five_sets hq hbase (.int .i64 13) (.bool false) (.int .u64 p.n) (.string ⟨#[]⟩) (.slice (some ⟨g2, 0, none⟩) (m + 1) c2) W5 hW5
  clear hW5
  obtain ⟨hO, a, c, hlv, hx⟩ := hpp
  have hne : bp ≠ w.heap.size := ty_ne hB.ty hq.ty (by decide)
  have b5 : Bb W5 bp (.slice (some ⟨og, 0, none⟩) (rest.length + 1) oc) false (.int .i64 0) (.bool false) (.int .u64 0) (.string ⟨#[]⟩) (.slice none 0 0) count := (hsame bp hne).trans hB
  have hs : ∀ g, TyIs W4 g 220 ∨ (TyIs W4 g 25 ∧ ¬ g = w.heap.size) → (W5.setCell ⟨bp, 1, none⟩ (.slice (some ⟨og, 0, none⟩) n oc)).heap[g]? = W4.heap[g]? := fun g hg => by
    have h1 : g ≠ bp := by
      rcases hg with h | h
      · exact ty_ne h hB.ty (by decide)
      · exact ty_ne h.1 hB.ty (by decide)
    have h2 : g ≠ w.heap.size := by
      rcases hg with h | h
      · exact ty_ne h hq.ty (by decide)
      · exact h.2
    rw [Below.heap_setCell _ ⟨bp, _, none⟩ _ g h1]
    exact hsame g h2
  have hLr : ∀ g, Lists rest g → g ≠ w.heap.size := fun g ⟨r, h1, h2⟩ => hL g ⟨r, List.mem_cons_of_mem _ h1, h2⟩
  have hlv' : (Value.slice (some ⟨g2, 0, none⟩) (m + 1) c2) = .slice a (p.rows ++ [x]).length c := hlv
  injection hlv' with h1 _ h3
  subst h1 h3
  rw [push_t hk] at hx
  have q6 := q5.far (p := ⟨bp, 1, none⟩) (fun e => hne e.symm) (.slice (some ⟨og, 0, none⟩) n oc)
  rw [hn] at hO
  have e1 : (p.rows.map (·.1) ++ [x.1]).length = m + 1 := by simp [hm]
  refine ⟨rest, (⟨13, false, p.n, ⟨#[]⟩, p.rows.map (·.1) ++ [x.1]⟩, some ⟨g2, 0, none⟩, c2), .slice (some ⟨og, 0, none⟩) n oc, by rw [hn], hO.alike (fun g hg => hs g (notQo hg)) (fun g hg h => h.elim (hLr g hg) (fun h => absurd h (Nat.not_lt.2 (lists_lt hO hg).1))), b5.set1 _, ?_, hx.alike (fun g hg => hs g (notQo hg)), ?_, (hbt.trans bt5).trans (Built.setCell b5.ty (.inr (.inr rfl)) hbp 1 _), hl1, hl2, hLr⟩
  · dsimp only
    rw [e1]
    exact q6
  · rw [← hadd, addC_cons, if_pos hk]
/-- Nothing is open: the value is whole. -/
theorem add_done {base bp count : Nat} {ov : Value} {w wr : World} {x : RowT} (hO : OpenIs wr base (Qo base w.heap.size) ov []) (hB : Bb wr bp ov false (.int .i64 0) (.bool false) (.int .u64 0) (.string ⟨#[]⟩) (.slice none 0 0) count) (hq : Row5 wr w.heap.size (.int .i64 x.1.f0) (.bool x.1.f1) (.int .u64 x.1.f2) (.string x.1.f3) (.slice x.2.1 x.1.f4.length x.2.2)) (hx : RowOk wr (Still wr (Qo base w.heap.size) []) x) (hbt : Built base w wr) (hbp : base ≤ bp) :
    ∀ W', (((((wr.setCell ⟨bp, 3, none⟩ (.int .i64 x.1.f0)).setCell ⟨bp, 4, none⟩ (.bool x.1.f1)).setCell ⟨bp, 5, none⟩ (.int .u64 x.1.f2)).setCell ⟨bp, 6, none⟩ (.string x.1.f3)).setCell ⟨bp, 7, none⟩ (.slice x.2.1 x.1.f4.length x.2.2)).setCell ⟨bp, 2, none⟩ (.bool true) = W' → BuildIs W' base bp [] (some x.1) count ∧ Built base w W' := by
  intro W' hW
  have h3 := hB.set3 (.int .i64 x.1.f0)
  have h4 := h3.set4 (.bool x.1.f1)
  have h5 := h4.set5 (.int .u64 x.1.f2)
  have h6 := h5.set6 (.string x.1.f3)
  have h7 := h6.set7 (.slice x.2.1 x.1.f4.length x.2.2)
  have h2 := h7.set2 true
  have ht : Bt 122 := .inr (.inr rfl)
  have s := (((((Built.setCell (base := base) hB.ty ht hbp 3 (.int .i64 x.1.f0)).trans (Built.setCell h3.ty ht hbp 4 (.bool x.1.f1))).trans (Built.setCell h4.ty ht hbp 5 (.int .u64 x.1.f2))).trans (Built.setCell h5.ty ht hbp 6 (.string x.1.f3))).trans (Built.setCell h6.ty ht hbp 7 (.slice x.2.1 x.1.f4.length x.2.2))).trans (Built.setCell h7.ty ht hbp 2 (.bool true))
  have far : ∀ g, g ≠ bp → W'.heap[g]? = wr.heap[g]? := fun g hg => by
    rw [← hW]
    rw [Below.heap_setCell _ ⟨bp, _, none⟩ _ g hg, Below.heap_setCell _ ⟨bp, _, none⟩ _ g hg, Below.heap_setCell _ ⟨bp, _, none⟩ _ g hg, Below.heap_setCell _ ⟨bp, _, none⟩ _ g hg, Below.heap_setCell _ ⟨bp, _, none⟩ _ g hg, Below.heap_setCell _ ⟨bp, _, none⟩ _ g hg]
  rw [hW] at h2 s
  have hs : ∀ g, TyIs wr g 220 ∨ (TyIs wr g 25 ∧ ¬ g = w.heap.size) → W'.heap[g]? = wr.heap[g]? := fun g hg => far g (by
    rcases hg with h | h
    · exact ty_ne h hB.ty (by decide)
    · exact ty_ne h.1 hB.ty (by decide))
  refine ⟨⟨ov, [], (hO.alike (fun g hg => hs g (notQo hg)) (fun g ⟨r, h, _⟩ => by cases h)).mono (fun g _ h => lo_qo g h), rfl, hbp, x.2.1, x.2.2, h2, (hx.alike (fun g hg => hs g (notQo hg))).mono (fun g hg => ⟨hg.1, hg.2.1, fun h => hg.2.2 (lo_qo g h)⟩)⟩, hbt.trans s⟩
end Go.Proofs.YtfmceonbejlhlaaGreatDoor

/-
  event's small functions: none, number, keyed, right.
-/
namespace Go.Proofs.YtfmceonbejlhlaaGreatDoor
open Go.RowKit Go.Proofs.YtfmceonbejlhlaaGreatDoorW.PrintWords Go.Proofs.YtfmceonbejlhlaaGreatDoorW.PrintLast Go.Proofs.YtfmceonbejlhlaaGreatDoorW.PrintMore
set_option linter.unusedVariables false

theorem none_any (bp : Nat) (w : World) (h : w.cell? ⟨bp, 0, none⟩ = some (.bool true)) : Calls Tryz.prog 71 #[.pointer (some ⟨bp, 0, none⟩)] w fun e w' => e = .returned (.bool false) ∧ w' = w := by
  go_enter Tryz.func71, Tryz.ntmps71
  go_wp2
  go_ret
  exact ⟨rfl, rfl⟩
set_option maxHeartbeats 1000000 in
theorem number_false (k n : Int) (b s l : Value) (w : World) (h : ¬ (k = 13 ∧ n / 2 = 1)) : Calls Tryz.prog 117 #[.agg #[.int .i64 k, b, .int .u64 n, s, l]] w (Ret (.bool false) w) := by
  go_enter Tryz.func117, Tryz.ntmps117
  by_cases hk : k = 13
  · subst hk
    have h2 : ¬ n / 2 = 1 := fun h' => h ⟨rfl, h'⟩
    have hb : (n / 2 == 1) = false := by simpa using h2
    clear h
    go_wp2
    go_ret
    exact ⟨rfl, (Below.refl _ _).alloc (Nat.le_refl _) _⟩
  · have hb : (k == 13) = false := by simpa using hk
    clear h
    go_wp2
    go_ret
    exact ⟨rfl, (Below.refl _ _).alloc (Nat.le_refl _) _⟩
set_option maxHeartbeats 1000000 in
theorem number_true (n : Int) (b s l : Value) (w : World) (h : n / 2 = 1) : Calls Tryz.prog 117 #[.agg #[.int .i64 13, b, .int .u64 n, s, l]] w (Ret (.bool true) w) := by
  have hb : (n / 2 == 1) = true := by simpa using h
  go_enter Tryz.func117, Tryz.ntmps117
  clear h
  go_wp2
  go_ret
  exact ⟨rfl, (Below.refl _ _).alloc (Nat.le_refl _) _⟩
set_option maxHeartbeats 1000000 in
/-- No key waits for its value. -/
theorem keyed_false (k n : Int) (b s : Value) (a : Option Addr) (m c : Nat) (w : World) (h : ¬ (k = 12 ∧ m % 2 = 1)) : Calls Tryz.prog 172 #[.agg #[.int .i64 k, b, .int .u64 n, s, .slice a m c]] w (Ret (.bool false) w) := by
  go_enter Tryz.func172, Tryz.ntmps172
  by_cases hk : k = 12
  · subst hk
    have h2 : ((m : Int) % 2 == 1) = false := by
      have : ¬ m % 2 = 1 := fun h' => h ⟨rfl, h'⟩
      simp; omega
    clear h
    go_wp2
    go_ret
    exact ⟨rfl, (Below.refl _ _).alloc (Nat.le_refl _) _⟩
  · have hb : (k == 12) = false := by simpa using hk
    clear h
    go_wp2
    go_ret
    exact ⟨rfl, (Below.refl _ _).alloc (Nat.le_refl _) _⟩
def T0 : T := ⟨0, false, 0, ⟨#[]⟩, []⟩
/-- May an event be, as a value without others? -/
def rightF (k : Int) (neg : Bool) (n : Int) (s : ByteArray) : Bool := if k = 13 then oneF k neg n s [T0] else oneF k neg n s []
end Go.Proofs.YtfmceonbejlhlaaGreatDoor

/-
  event's right.
-/
namespace Go.Proofs.YtfmceonbejlhlaaGreatDoor
open Go.RowKit Go.Proofs.YtfmceonbejlhlaaGreatDoorW.PrintWords Go.Proofs.YtfmceonbejlhlaaGreatDoorW.PrintLast Go.Proofs.YtfmceonbejlhlaaGreatDoorW.PrintMore
set_option linter.unusedVariables false

theorem tree_one {W : World} {base g q : Nat} {k' n' : Int} {neg' : Bool} {s' : ByteArray} {u : Value} (h : W.ownsRow base 25 5 (.slice (some ⟨g, 0, none⟩) 1 1) 1 (madeCells (Value.agg #[.int .i64 0, .bool false, .int .u64 0, .string ⟨#[]⟩, .slice none 0 0]).cells (1 * 5)).toList) (hne : q < g) :
    Tree (W.setCell ⟨q, 4, none⟩ u) (fun _ => True) ⟨k', neg', n', s', [T0]⟩ (some ⟨g, 0, none⟩) := by
  simp only [Tree]
  refine ⟨by simp, .inr ⟨g, 0, rfl, trivial, ?_⟩⟩
  refine ⟨⟨none, 0, fun j v hv => ?_, by simp [T0], by simp [Tree, T0]⟩, trivial⟩
  have h1 := h.cells (g := g) rfl j v (by
    have e : (madeCells (Value.agg #[.int .i64 0, .bool false, .int .u64 0, .string ⟨#[]⟩, .slice none 0 0]).cells (1 * 5)).toList = [.int .i64 0, .bool false, .int .u64 0, .string ⟨#[]⟩, .slice none 0 0] := by kernel_rfl
    rw [e, ← hv, ← Array.getElem?_toList]
    rfl)
  rw [WideShapes.add_plain, Nat.zero_add] at h1
  rw [Nat.zero_add, World.cell?_setCell_other _ _ _ _ (fun e => by have : q = g := by rw [Addr.mk.injEq] at e; exact e.1
                                                                   omega)]
  exact h1
theorem one_leaf (k : Int) (neg : Bool) (n : Int) (s : ByteArray) (W : World) (hs : s.size ≤ 9223372036854775807) : Calls Tryz.prog 34 #[.agg #[.int .i64 k, .bool neg, .int .u64 n, .string s, .slice none 0 0]] W (Ret (.bool (oneF k neg n s [])) W) :=
  one_any ⟨k, neg, n, s, []⟩ none 0 W (fun _ => False) (by simp [Tree]) (Nat.le_refl _) hs
/-- What right tells. -/
def RightPost (k : Int) (neg : Bool) (n : Int) (s : ByteArray) (w : World) (e : Ending) (w' : World) : Prop := e = .returned (.tuple #[.agg #[.int .i64 k, .bool neg, .int .u64 n, .string s, .slice none 0 0], .bool (rightF k neg n s)]) ∧ Below w.heap.size w w'

set_option maxRecDepth 100000 in
set_option maxHeartbeats 4000000 in
theorem right_leaf (k : Int) (neg : Bool) (n : Int) (s : ByteArray) (w : World) (hs : s.size ≤ 4294967296) (hk : k ≠ 13) :
    Calls Tryz.prog 147 #[.agg #[.int .i64 k, .bool neg, .int .u64 n, .string s]] w (RightPost k neg n s w) := by
  have hr : rightF k neg n s = oneF k neg n s [] := by unfold rightF; rw [if_neg hk]
  have hbk : (k != 13) = true := by simpa using hk
  have hO := one_leaf k neg n s
  unfold RightPost
  rw [hr]
  obtain ⟨o, ho⟩ : ∃ o, oneF k neg n s [] = o := ⟨_, rfl⟩
  rw [ho] at hO ⊢
  have HO := Lib.hid (fun W => hO W (by omega))
  have RE := Blk.new w 141 #[.int .i64 k, .bool neg, .int .u64 n, .string s]
  have RZ := Row5.new (w.alloc (.cells #[.int .i64 k, .bool neg, .int .u64 n, .string s] 141)) (.int .i64 0) (.bool false) (.int .u64 0) (.string ⟨#[]⟩) (.slice none 0 0)
  have RV := Row5.new ((w.alloc (.cells #[.int .i64 k, .bool neg, .int .u64 n, .string s] 141)).alloc (.cells #[.int .i64 0, .bool false, .int .u64 0, .string ⟨#[]⟩, .slice none 0 0] 25)) (.int .i64 k) (.bool neg) (.int .u64 n) (.string s) (.slice none 0 0)
  have RZ2 := RZ.alloc (.cells #[.int .i64 k, .bool neg, .int .u64 n, .string s, .slice none 0 0] 25)
  have hB := (((Below.refl _ w).alloc (Nat.le_refl _) (.cells #[.int .i64 k, .bool neg, .int .u64 n, .string s] 141)).alloc (by simp) (.cells #[.int .i64 0, .bool false, .int .u64 0, .string ⟨#[]⟩, .slice none 0 0] 25)).alloc (by simp; omega) (.cells #[.int .i64 k, .bool neg, .int .u64 n, .string s, .slice none 0 0] 25)
  simp only [World.size_alloc] at RZ RV RZ2
  have c0 := RV.c0
  have c1 := RV.c1
  have c2 := RV.c2
  have c3 := RV.c3
  have c4 := RV.c4
  clear hO ho hr hk
  go_enter Tryz.func147, Tryz.ntmps147
  go_wp2_with fail
  obtain ⟨W3, hW3⟩ : ∃ W3, ((w.alloc (.cells #[.int .i64 k, .bool neg, .int .u64 n, .string s] 141)).alloc (.cells #[.int .i64 0, .bool false, .int .u64 0, .string ⟨#[]⟩, .slice none 0 0] 25)).alloc (.cells #[.int .i64 k, .bool neg, .int .u64 n, .string s, .slice none 0 0] 25) = W3 := ⟨_, rfl⟩
  simp only [hW3] at *
  clear hW3
  go_region_law (go_simp; go_at_call 34; refine (HO.out _).mono ?_; rintro e w2 ⟨rfl, hb2⟩; have Rv2 := (show Row5 w2 _ _ _ _ _ _ from (hb2.block _ RV.lt).trans RV); have d0 := Rv2.c0; have d1 := Rv2.c1; have d2 := Rv2.c2; have d3 := Rv2.c3; have d4 := Rv2.c4; have Rz := (show Row5 w2 (w.heap.size + 1) _ _ _ _ _ from (hb2.block _ RZ2.lt).trans RZ2); have k0 := Rz.c0; have kf := Rz.fz; have k1 := fun a => (Rz.s0 a).c1; have kf1 := fun a => (Rz.s0 a).fz 1; have k2 := fun a b => ((Rz.s0 a).s1 b).c2; have kf2 := fun a b => ((Rz.s0 a).s1 b).fz 2; have k3 := fun a b c => (((Rz.s0 a).s1 b).s2 c).c3; have kf3 := fun a b c => (((Rz.s0 a).s1 b).s2 c).fz 3; have k4 := fun a b c d => ((((Rz.s0 a).s1 b).s2 c).s3 d).c4; have kf4 := fun a b c d => ((((Rz.s0 a).s1 b).s2 c).s3 d).fz 4)
  all_goals
    go_wp2
    have r := ((((Rz.s0 (.int .i64 k)).s1 (.bool neg)).s2 (.int .u64 n)).s3 (.string s)).s4 (.slice none 0 0)
    have r0 := r.c0
    have r1 := r.c1
    have r2 := r.c2
    have r3 := r.c3
    have r4 := r.c4
    refine bodyPost_ret (v := .tuple #[.agg #[.int .i64 k, .bool neg, .int .u64 n, .string s, .slice none 0 0], .bool o]) (by simp [results, Tryz.results147, go_sem, r0, r1, r2, r3, r4]) rfl ⟨rfl, ?_⟩
    exact (((((hB.drew.trans (hb2.mono hB.size)).setCell (p := ⟨w.heap.size + 1, 0, none⟩) (by show w.heap.size ≤ w.heap.size + 1; omega) _).setCell (p := ⟨w.heap.size + 1, 1, none⟩) (by show w.heap.size ≤ w.heap.size + 1; omega) _).setCell (p := ⟨w.heap.size + 1, 2, none⟩) (by show w.heap.size ≤ w.heap.size + 1; omega) _).setCell (p := ⟨w.heap.size + 1, 3, none⟩) (by show w.heap.size ≤ w.heap.size + 1; omega) _).setCell (p := ⟨w.heap.size + 1, 4, none⟩) (by show w.heap.size ≤ w.heap.size + 1; omega) _
set_option maxRecDepth 100000 in
set_option maxHeartbeats 4000000 in
theorem right_tag (neg : Bool) (n : Int) (s : ByteArray) (w : World) (hs : s.size ≤ 4294967296) :
    Calls Tryz.prog 147 #[.agg #[.int .i64 13, .bool neg, .int .u64 n, .string s]] w (RightPost 13 neg n s w) := by
  have RE := Blk.new w 141 #[.int .i64 13, .bool neg, .int .u64 n, .string s]
  have RZ := Row5.new (w.alloc (.cells #[.int .i64 13, .bool neg, .int .u64 n, .string s] 141)) (.int .i64 0) (.bool false) (.int .u64 0) (.string ⟨#[]⟩) (.slice none 0 0)
  have RV := Row5.new ((w.alloc (.cells #[.int .i64 13, .bool neg, .int .u64 n, .string s] 141)).alloc (.cells #[.int .i64 0, .bool false, .int .u64 0, .string ⟨#[]⟩, .slice none 0 0] 25)) (.int .i64 13) (.bool neg) (.int .u64 n) (.string s) (.slice none 0 0)
  have RZ2 := RZ.alloc (.cells #[.int .i64 13, .bool neg, .int .u64 n, .string s, .slice none 0 0] 25)
  have hB := (((Below.refl _ w).alloc (Nat.le_refl _) (.cells #[.int .i64 13, .bool neg, .int .u64 n, .string s] 141)).alloc (by simp) (.cells #[.int .i64 0, .bool false, .int .u64 0, .string ⟨#[]⟩, .slice none 0 0] 25)).alloc (by simp; omega) (.cells #[.int .i64 13, .bool neg, .int .u64 n, .string s, .slice none 0 0] 25)
  simp only [World.size_alloc] at RZ RV RZ2
  have c0 := RV.c0
  have c1 := RV.c1
  have c2 := RV.c2
  have c3 := RV.c3
  have c4 := RV.c4
  go_enter Tryz.func147, Tryz.ntmps147
  obtain ⟨i0, hi, hz0, hz1, hz2⟩ := info_parts info25
  have HO := fun W a h => one_any ⟨13, neg, n, s, [T0]⟩ a 1 W (fun _ => True) h (Nat.le_refl _) (by dsimp only; omega)
  have hrf : rightF 13 neg n s = oneF 13 neg n s [T0] := by unfold rightF; rw [if_pos rfl]
  unfold RightPost
  rw [hrf]
  obtain ⟨o, ho⟩ : ∃ o, oneF 13 neg n s [T0] = o := ⟨_, rfl⟩
  dsimp only at HO
  rw [ho] at HO ⊢
  have HO2 := Lib.hid HO
  clear HO ho hrf
  go_wp2_with (first
    | (at_make; go_loud ((obtain ⟨W3, hW3⟩ : ∃ W3, ((w.alloc (.cells #[.int .i64 13, .bool neg, .int .u64 n, .string s] 141)).alloc (.cells #[.int .i64 0, .bool false, .int .u64 0, .string ⟨#[]⟩, .slice none 0 0] 25)).alloc (.cells #[.int .i64 13, .bool neg, .int .u64 n, .string s, .slice none 0 0] 25) = W3 := ⟨_, rfl⟩); have hws : w.heap.size ≤ W3.heap.size := (by rw [← hW3]; simp; omega); simp only [hW3] at *; clear hW3; (refine wpList_make_full _ rfl _ _ 23 rfl w.heap.size 25 i0 (.agg #[.int .i64 0, .bool false, .int .u64 0, .string ⟨#[]⟩, .slice none 0 0]) 5 Tryz.underlying23 hi hz0 hz1 .i64 .i64 1 1 1 rfl rfl rfl rfl (by rw [hz2]; decide) (by decide) hws ?_); intro w4 hown hgr; have hb4 := ((Below.refl W3.heap.size W3).grown hgr (Nat.le_refl _) (fun k e => by cases e)); have R4 := (show Row5 w4 _ _ _ _ _ _ from (hb4.block _ RV.lt).trans RV); have Rz4 := (show Row5 w4 (w.heap.size + 1) _ _ _ _ _ from (hb4.block _ RZ2.lt).trans RZ2); have f4 := R4.fz 4; have k4 := R4.c4; have R5 := R4.s4 (.slice (some ⟨W3.heap.size, 0, none⟩) 1 1); have d0 := R5.c0; have d1 := R5.c1; have d2 := R5.c2; have d3 := R5.c3; have d4 := R5.c4; have f5 := R5.fz 4; have hTr := Lib.hid (tree_one (q := w.heap.size + 1 + 1) (k' := 13) (n' := n) (neg' := neg) (s' := s) (u := .slice (some ⟨W3.heap.size, 0, none⟩) 1 1) hown (by have := RV.lt; omega))))
    | (go_at_call 34; refine (HO2.out _ _ hTr.out).mono ?_; rintro e w6 ⟨rfl, hb6⟩; have R6 := (show Row5 w6 _ _ _ _ _ _ from (hb6.block _ R5.lt).trans R5); have e0 := R6.c0; have e1 := R6.c1; have e2 := R6.c2; have e3 := R6.c3; have e4 := R6.c4; have f6 := R6.fz 4; have R7 := R6.s4 (.slice none 0 0); have g0 := R7.c0; have g1 := R7.c1; have g2 := R7.c2; have g3 := R7.c3; have g4 := R7.c4; have Rz5 := Rz4.far (p := ⟨w.heap.size + 1 + 1, 4, none⟩) (by show w.heap.size + 1 ≠ w.heap.size + 1 + 1; omega) (.slice (some ⟨W3.heap.size, 0, none⟩) 1 1); have Rz := (show Row5 w6 (w.heap.size + 1) _ _ _ _ _ from (hb6.block _ Rz5.lt).trans Rz5); have k0 := Rz.c0; have k1 := Rz.c1; have k2 := Rz.c2; have k3 := Rz.c3; have k4' := Rz.c4; have kf := Rz.fz; have Rz7 := Rz.far (p := ⟨w.heap.size + 1 + 1, 4, none⟩) (by show w.heap.size + 1 ≠ w.heap.size + 1 + 1; omega) (.slice none 0 0)))
  have r := ((((Rz7.s0 (.int .i64 13)).s1 (.bool neg)).s2 (.int .u64 n)).s3 (.string s)).s4 (.slice none 0 0)
  have r0 := r.c0
  have r1 := r.c1
  have r2 := r.c2
  have r3 := r.c3
  have r4 := r.c4
  refine bodyPost_ret (v := .tuple #[.agg #[.int .i64 13, .bool neg, .int .u64 n, .string s, .slice none 0 0], .bool o]) (by simp [results, Tryz.results147, go_sem, r0, r1, r2, r3, r4]) rfl ⟨rfl, ?_⟩
  have hbx := ((hB.trans (hb4.mono hB.size)).setCell (p := ⟨w.heap.size + 1 + 1, 4, none⟩) (by show w.heap.size ≤ w.heap.size + 1 + 1; omega) (.slice (some ⟨W3.heap.size, 0, none⟩) 1 1))
  exact ((((((hbx.trans (hb6.mono hbx.size)).setCell (p := ⟨w.heap.size + 1 + 1, 4, none⟩) (by show w.heap.size ≤ w.heap.size + 1 + 1; omega) _).setCell (p := ⟨w.heap.size + 1, 0, none⟩) (by show w.heap.size ≤ w.heap.size + 1; omega) _).setCell (p := ⟨w.heap.size + 1, 1, none⟩) (by show w.heap.size ≤ w.heap.size + 1; omega) _).setCell (p := ⟨w.heap.size + 1, 2, none⟩) (by show w.heap.size ≤ w.heap.size + 1; omega) _).setCell (p := ⟨w.heap.size + 1, 3, none⟩) (by show w.heap.size ≤ w.heap.size + 1; omega) _).setCell (p := ⟨w.heap.size + 1, 4, none⟩) (by show w.heap.size ≤ w.heap.size + 1; omega) _
theorem right_any (k : Int) (neg : Bool) (n : Int) (s : ByteArray) (w : World) (hs : s.size ≤ 4294967296) : Calls Tryz.prog 147 #[.agg #[.int .i64 k, .bool neg, .int .u64 n, .string s]] w (RightPost k neg n s w) := by
  by_cases hk : k = 13
  · subst hk; exact right_tag neg n s w hs
  · exact right_leaf k neg n s w hs hk
end Go.Proofs.YtfmceonbejlhlaaGreatDoor
