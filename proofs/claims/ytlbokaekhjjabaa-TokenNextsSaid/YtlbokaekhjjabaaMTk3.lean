import Derived.Test.YtlbokaekhjjabaaMTk0
import Derived.Test.YtlbokaekhjjabaaMTk1
import Derived.Test.YtlbokaekhjjabaaMTk2
/-
  token's List: its walk.
-/
namespace Go.Proofs.Ytlbokaekhjjabaa
open Go.RowKit Go.Shelf Go.Proofs.YtlbokaekhjjabaaW.PrintWords
set_option linter.unusedVariables false
attribute [local go_sem] Oper.semAt_some

set_option maxHeartbeats 1000000 in
theorem each_in (n : Nat) (s : ByteArray) (w : World) :
    CallsIn Fence.wide n Try.prog 67 #[.string s] w fun e w' => e = .returned (.func (.func 78) #[] #[.pointer (some ⟨w.heap.size, 0, none⟩)]) ∧ w' = w.alloc (.cells #[.string s] 9) := by
  refine callsIn_of_wp Try.func67 rfl trivial ?_ rfl
  simp only [Try.ntmps67, List.size_toArray, List.length_cons, List.length_nil, Nat.reduceAdd, Nat.reduceSub, Array.replicate_succ, Array.replicate_zero, List.push_toArray, List.append_toArray, List.nil_append, List.cons_append]
  gi_wp2
  go_ret
  exact ⟨rfl, rfl⟩
theorem each_stops (n : Nat) (hn : 2 ≤ n) (Bn : Nat) (s : ByteArray) (hs : s.size ≤ 140737488351232) (hN : NextIs s) (w : World) (hc : Boxed w Bn 9 (.string s)) :
    SeqStopsK Fence.wide n Try.prog 78 #[.pointer (some ⟨Bn, 0, none⟩)] encItem (Keep Bn) (fun ys => ys = items s) (fun pre => pre <+: items s) (items s).length w := fun l J Jx W hW hJ hJx hY h0 =>
  each1_in n hn l Bn s hs hN J Jx _ hJ hY W ((hW.block Bn hc.lt).trans hc) h0

def rowsOf (l : List Item) : List Value := l.flatMap fun x => tokCells x.1
theorem rowsOf_snoc (l : List Item) (x : Item) : rowsOf (l ++ [x]) = rowsOf l ++ tokCells x.1 := by simp [rowsOf]
/-- The first error among what came. -/
def itemErr : List Item → Option (Nat × Int)
  | [] => none
  | x :: t => if x.2 ≠ 0 then some (x.1.2.2.1, x.2) else itemErr t
theorem itemErr_none : ∀ {l : List Item}, (∀ x ∈ l, x.2 = 0) → itemErr l = none
  | [], _ => rfl
  | x :: t, h => by
    simp only [itemErr]
    rw [if_neg (fun h' => h' (h x (List.mem_cons_self ..)))]
    exact itemErr_none fun y hy => h y (List.mem_cons_of_mem _ hy)
theorem itemErr_some : ∀ {l : List Item} {x : Item} {r : List Item}, (∀ x ∈ l, x.2 = 0) → x.2 ≠ 0 → itemErr (l ++ x :: r) = some (x.1.2.2.1, x.2)
  | [], x, r, _, h => by simp only [List.nil_append, itemErr]; rw [if_pos h]
  | y :: t, x, r, hl, h => by
    simp only [List.cons_append, itemErr]
    rw [if_neg (fun h' => h' (hl y (List.mem_cons_self ..)))]
    exact itemErr_some (fun z hz => hl z (List.mem_cons_of_mem _ hz)) h
/-- What List tells: the tokens, the place, the error. -/
def lstF (s : ByteArray) : List Item × Nat × Int := match itemErr (items s) with
  | some (n, e) => ([], n, e)
  | none => (items s, s.size, 0)
/-- A slice that owns these tokens. -/
def ListIs (s : ByteArray) (w : World) (e : Ending) (W' : World) : Prop :=
  ∃ v, e = .returned (.tuple #[v, .int .i64 (lstF s).2.1, .int .i64 (lstF s).2.2]) ∧ W'.ownsRow w.heap.size 60 4 v (lstF s).1.length (rowsOf (lstF s).1) ∧ (v = .slice none 0 0 ↔ (lstF s).1 = []) ∧ Below w.heap.size w W'

theorem row4_own {β : Type} (B : Nat) (f : β → Value × Value × Value × Value) : Own (fun s W => Row4 W B (f s).1 (f s).2.1 (f s).2.2.1 (f s).2.2.2) := fun s X Y row hs hg hrow =>
  (hg.block B hs.lt (fun e' => by obtain ⟨o, ho, hc⟩ := hrow B e'.symm; rw [show X.heap[B]? = _ from hs] at ho; cases ho; cases hc)).trans hs
theorem cell_tok_new (W : World) (t : Tok) (j : Nat) (u : Value) (h : (tokCells t)[j]? = some u) : (W.alloc (.cells #[.int .u8 t.1, .int .i64 t.2.1, .int .i64 t.2.2.1, .string t.2.2.2] 60)).cell? ((⟨W.heap.size, 0, none⟩ : Addr).add j) = some u := by
  have e : (⟨W.heap.size, 0, none⟩ : Addr).add j = ⟨W.heap.size, j, none⟩ := by unfold Addr.add; split <;> simp_all
  rw [e, cell_of_row _ _ j _ _ _ (heap_alloc_last W _)]
  rw [← h]
  simp [tokCells]
theorem infoTok : (Try.prog.info? 60).map (fun i => (i.zero, i.size, i.bytes)) = some (some (.agg #[.int .u8 0, .int .i64 0, .int .i64 0, .string ⟨#[]⟩]), 4, 40) := by kernel_rfl

set_option maxRecDepth 100000 in
set_option maxHeartbeats 4000000 in
theorem list_in (n : Nat) (hn : 5 ≤ n) (s : ByteArray) (hs : s.size ≤ 1099511627776) (hN : NextIs s) (hlen : (items s).length ≤ s.size + 1) (w : World) :
    CallsIn Fence.wide n Try.prog 43 #[.string s] w (ListIs s w) := by
  have h1 : 1 ≤ n := by omega
  obtain ⟨i0, hi, hz0, hz1, hz2⟩ := info_parts infoTok
  refine callsIn_of_wp_marks Try.func43 rfl trivial ?_ rfl
  simp only [Try.ntmps43, List.size_toArray, List.length_cons, List.length_nil, Nat.reduceAdd, Nat.reduceSub, Array.replicate_succ, Array.replicate_zero, List.push_toArray, List.append_toArray, List.nil_append, List.cons_append]
  gi_wp2_with (refine ⟨trivial, ?_⟩; gi_at_call 67; refine (each_in (n - 1) s _).mono ?_; rintro e w' ⟨rfl, rfl⟩)
  have bR := ((((Boxed.new w 67 (.slice none 0 0)).alloc (.cells #[.int .i64 0] 3)).alloc (.cells #[.int .i64 0] 22)).alloc (.cells #[.slice none 0 0] 67)).alloc (.cells #[.string s] 9)
  have bN := (((Boxed.new (w.alloc (.cells #[.slice none 0 0] 67)) 3 (.int .i64 0)).alloc (.cells #[.int .i64 0] 22)).alloc (.cells #[.slice none 0 0] 67)).alloc (.cells #[.string s] 9)
  have bE := ((Boxed.new ((w.alloc (.cells #[.slice none 0 0] 67)).alloc (.cells #[.int .i64 0] 3)) 22 (.int .i64 0)).alloc (.cells #[.slice none 0 0] 67)).alloc (.cells #[.string s] 9)
  have bL := (Boxed.new (((w.alloc (.cells #[.slice none 0 0] 67)).alloc (.cells #[.int .i64 0] 3)).alloc (.cells #[.int .i64 0] 22)) 67 (.slice none 0 0)).alloc (.cells #[.string s] 9)
  have bS := Boxed.new ((((w.alloc (.cells #[.slice none 0 0] 67)).alloc (.cells #[.int .i64 0] 3)).alloc (.cells #[.int .i64 0] 22)).alloc (.cells #[.slice none 0 0] 67)) 9 (.string s)
  have hB0 : Below w.heap.size w (((((w.alloc (.cells #[.slice none 0 0] 67)).alloc (.cells #[.int .i64 0] 3)).alloc (.cells #[.int .i64 0] 22)).alloc (.cells #[.slice none 0 0] 67)).alloc (.cells #[.string s] 9)) :=
    (((((Below.refl _ w).alloc (Nat.le_refl _) _).alloc (by simp) _).alloc (by simp; omega) _).alloc (by simp; omega) _).alloc (by simp; omega) _
  have hsz : (((((w.alloc (.cells #[.slice none 0 0] 67)).alloc (.cells #[.int .i64 0] 3)).alloc (.cells #[.int .i64 0] 22)).alloc (.cells #[.slice none 0 0] 67)).alloc (.cells #[.string s] 9)).heap.size = w.heap.size + 5 := by simp
  simp only [World.size_alloc] at bN bE bL bS
  obtain ⟨W0, hW0⟩ : ∃ W0, ((((w.alloc (.cells #[.slice none 0 0] 67)).alloc (.cells #[.int .i64 0] 3)).alloc (.cells #[.int .i64 0] 22)).alloc (.cells #[.slice none 0 0] 67)).alloc (.cells #[.string s] 9) = W0 := ⟨_, rfl⟩
  rw [hW0] at bR bN bE bL bS hB0 hsz ⊢
  clear hW0
  refine wpIn_rangeFunc_ownH rfl h1 (gf := 78) (lb := #[.pointer (some ⟨w.heap.size + 1 + 1 + 1 + 1, 0, none⟩)]) rfl trivial (enters_of Try.func78 (by kernel_rfl) rfl)
    (each_stops (n - 1) (by omega) (w.heap.size + 1 + 1 + 1 + 1) s (by omega) hN W0 bS) (fun h h' => h.trans h') (fun W l o o' hl _ _ _ => Keep.putObj W l o' (by omega)) (Below.refl _ _) (fun _ => rfl)
    (fun pre W => (((∃ v, Boxed W (w.heap.size + 1 + 1 + 1) 67 v ∧ W.ownsRow w.heap.size 60 4 v pre.length (rowsOf pre) ∧ (v = .slice none 0 0 ↔ pre = [])) ∧ (∀ x ∈ pre, x.2 = 0)) ∧ (((Boxed W w.heap.size 67 (.slice none 0 0) ∧ Boxed W (w.heap.size + 1) 3 (.int .i64 0)) ∧ Boxed W (w.heap.size + 1 + 1) 22 (.int .i64 0)) ∧ Boxed W (w.heap.size + 1 + 1 + 1 + 1) 9 (.string s))) ∧ Below w.heap.size w W)
    (fun c pre W => (c = .ret ∧ ∃ pre' x, pre = pre' ++ [x] ∧ x.2 ≠ 0 ∧ (∀ y ∈ pre', y.2 = 0) ∧ (Boxed W w.heap.size 67 (.slice none 0 0) ∧ Boxed W (w.heap.size + 1) 3 (.int .i64 x.1.2.2.1)) ∧ Boxed W (w.heap.size + 1 + 1) 22 (.int .i64 x.2)) ∧ Below w.heap.size w W)
    ?hI ?hIx ?h0 
    (fun x a' W => ∃ Bx, w.heap.size + 4 < Bx ∧ Row4 W Bx (.int .u8 x.1.1) (.int .i64 x.1.2.1) (.int .i64 x.1.2.2.1) (.string x.1.2.2.2) ∧ a' = { tmps := #[.string s, undef, .pointer (some ⟨w.heap.size, 0, none⟩), .pointer (some ⟨w.heap.size + 1, 0, none⟩), .pointer (some ⟨w.heap.size + 1 + 1, 0, none⟩), .pointer (some ⟨w.heap.size + 1 + 1 + 1, 0, none⟩), .pointer (some ⟨Bx, 0, none⟩), .int .i64 x.2, .string s, .func (.func 78) #[] #[.pointer (some ⟨w.heap.size + 1 + 1 + 1 + 1, 0, none⟩)], tokVal x.1, .int .i64 x.2, undef, undef, undef, undef, undef, undef, undef, undef, undef, undef, undef, undef], defers := [] })
    (fun x a' _ X Y row hs hg hr => by obtain ⟨Bx, h1, h2, h3⟩ := hs; exact ⟨Bx, h1, row4_own Bx (fun (_ : Unit) => (Value.int .u8 x.1.1, Value.int .i64 x.1.2.1, Value.int .i64 x.1.2.2.1, Value.string x.1.2.2.2)) () X Y row h2 hg (fun r e => (hr r e).2), h3⟩)
    ?assign ?body ?done ?stop
  case hI =>
    refine OwnFrom.and (OwnFrom.and (OwnFrom.and (Own.from (holdsRow_own w.heap.size (w.heap.size + 1 + 1 + 1) 67 60 4 (fun pre => pre.length) (fun pre => rowsOf pre) (fun pre v => v = .slice none 0 0 ↔ pre = [])) _) (ownFrom_pure _ (fun (pre : List Item) => ∀ x ∈ pre, x.2 = 0))) ?_) (ownFrom_below (Nat.le_refl _) (by omega))
    exact OwnFrom.and (OwnFrom.and (OwnFrom.and (Own.from (boxed_own _ _ (fun _ => .slice none 0 0)) _) (Own.from (boxed_own _ _ (fun _ => .int .i64 0)) _)) (Own.from (boxed_own _ _ (fun _ => .int .i64 0)) _)) (Own.from (boxed_own _ _ (fun _ => .string s)) _)
  case hIx =>
    rintro c s' X Y row ⟨⟨rfl, pre', x, e1, e2, e3, ⟨b1, b2⟩, b3⟩, hb⟩ hg hr
    exact ⟨⟨rfl, pre', x, e1, e2, e3, ⟨boxed_own _ _ (fun (_ : Unit) => .slice none 0 0) () X Y row b1 hg (fun r e => (hr r e).2), boxed_own _ _ (fun (_ : Unit) => .int .i64 x.1.2.2.1) () X Y row b2 hg (fun r e => (hr r e).2)⟩,
      boxed_own _ _ (fun (_ : Unit) => .int .i64 x.2) () X Y row b3 hg (fun r e => (hr r e).2)⟩, ownFrom_below (β := Unit) (B := W0.heap.size) (Nat.le_refl _) (by omega) () X Y row hb hg hr⟩
  case h0 => exact ⟨⟨⟨⟨_, bL, World.ownsRow_nil _ _ _ _, by simp⟩, by simp⟩, ⟨⟨bR, bN⟩, bE⟩, bS⟩, hB0⟩
  case assign =>
    rintro l pre ⟨⟨tk, tf, tt, tx⟩, e⟩ W K ⟨⟨⟨⟨v, hv, hrow, hnil⟩, hall⟩, ⟨⟨bR1, bN1⟩, bE1⟩, bS1⟩, hB⟩ hK
    dsimp only [encItem, tokVal] at hK ⊢
    gi_wp2
    exact hK _ _ ((KeepsOthers.alloc _ _).from _) (Keep.alloc _ bS1.lt) ⟨⟨⟨⟨v, hv.alloc _, hrow.alloc _, hnil⟩, hall⟩, ⟨⟨bR1.alloc _, bN1.alloc _⟩, bE1.alloc _⟩, bS1.alloc _⟩, hB.alloc hB.size _⟩ ⟨W.heap.size, by have := bS1.lt; omega, Row4.new W _ _ _ _, rfl⟩
  case body =>
    rintro l pre ⟨⟨tk, tf, tt, tx⟩, e⟩ a' W hl hr ⟨⟨⟨⟨v, hv, hrow, hnil⟩, hall⟩, ⟨⟨bR1, bN1⟩, bE1⟩, bS1⟩, hB⟩ ⟨Bx, hBx, bT, rfl⟩ hlt
    dsimp only at bT ⊢
    have hl4 := bS1.lt
    have hc := hv.cell
    have tc0 := bT.c0
    have tc1 := bT.c1
    have tc2 := bT.c2
    have tc3 := bT.c3
    by_cases he : e = 0
    · subst he
      gi_wp2_with (gi_at_builtin; (refine wpListIn_append_own _ rfl _ _ 67 rfl w.heap.size 60 i0 (.agg #[.int .u8 0, .int .i64 0, .int .i64 0, .string ⟨#[]⟩]) 4 40 Try.underlying67 hi hz0 hz1 hz2 rfl (by decide) _ _ _ rfl (hrow.alloc _) ⟨W.heap.size, 0, none⟩ 1 1 (tokCells (tk, tf, tt, tx)) rfl rfl (cell_tok_new _ _) (by simp [tokCells, Value.oneCell']) (by unfold Go.maxLen; omega) (by omega) (by have := hB.size; simp; omega) ?_; intro v' w1 hown' hgrow _; obtain ⟨g', cap', rfl⟩ := ownsRow_succ hown'; obtain ⟨hv1, hv2, hr2, hk2, hb2⟩ := hv.appended (by decide) hrow hB.size (by omega) hown' hgrow; have hc1 := hv1.cell; have hf1 := hv1.frozen))
      have kept : ∀ {B : Nat} {ty : TypeId} {u : Value}, Boxed W B ty u → ty ≠ 60 → B ≠ w.heap.size + 1 + 1 + 1 → Boxed (w1.setCell ⟨w.heap.size + 1 + 1 + 1, 0, none⟩ (.slice (some ⟨g', 0, none⟩) (pre.length + 1) cap')) B ty u :=
        fun h ht hne => ((h.alloc _).kept hgrow (h.not_row ht hrow)).other hne _
      have bS3 := kept bS1 (by decide) (by omega)
      refine ⟨hk2.from _, ⟨hb2.size, bS3.trans bS1.symm⟩, ⟨⟨⟨⟨_, hv2, by rw [rowsOf_snoc]; simpa using hr2, by simp⟩, ?_⟩, ⟨⟨kept bR1 (by decide) (by omega), kept bN1 (by decide) (by omega)⟩, kept bE1 (by decide) (by omega)⟩, bS3⟩, hB.trans hb2⟩⟩
      intro x hx
      rcases List.mem_append.mp hx with hx | hx
      · exact hall x hx
      · rw [List.mem_singleton] at hx; subst hx; rfl
    · have heb : (e != 0) = true := by simpa using he
      have cR := bR1.cell
      have fR := bR1.frozen
      have cN := bN1.cell
      have fN := bN1.frozen
      have cE := bE1.cell
      have fE := bE1.frozen
      gi_wp2
      gi_region
      all_goals gi_wp2
      all_goals
        have R := ((bR1.set (.slice none 0 0)).other (B' := w.heap.size + 1) (by omega) (.int .i64 tt)).other (B' := w.heap.size + 1 + 1) (by omega) (.int .i64 e)
        have N := ((bN1.other (B' := w.heap.size) (by omega) (.slice none 0 0)).set (.int .i64 tt)).other (B' := w.heap.size + 1 + 1) (by omega) (.int .i64 e)
        have E := ((bE1.other (B' := w.heap.size) (by omega) (.slice none 0 0)).other (B' := w.heap.size + 1) (by omega) (.int .i64 tt)).set (.int .i64 e)
        exact ⟨((((KeepsOthers.setCell _ _ _).trans (KeepsOthers.setCell _ _ _)).trans (KeepsOthers.setCell _ _ _)).trans (KeepsOthers.drew _)).from _,
          ⟨rfl, pre, ((tk, tf, tt, tx), e), rfl, he, hall, ⟨R, N⟩, E⟩,
          (((hB.setCell (p := ⟨w.heap.size, 0, none⟩) (Nat.le_refl _) _).setCell (p := ⟨w.heap.size + 1, 0, none⟩) (by show w.heap.size ≤ w.heap.size + 1; omega) _).setCell (p := ⟨w.heap.size + 1 + 1, 0, none⟩) (by show w.heap.size ≤ w.heap.size + 1 + 1; omega) _).drew⟩
  case done =>
    rintro D ys W hD rfl ⟨⟨⟨⟨v, hv, hrow, hnil⟩, hall⟩, ⟨⟨bR1, bN1⟩, bE1⟩, bS1⟩, hB⟩ hK
    obtain ⟨sa, sm, sc, rfl⟩ : ∃ a m c, v = .slice a m c := by rcases hrow.2 with ⟨h, _⟩ | ⟨g, cap, cur, h, _⟩ <;> exact ⟨_, _, _, h⟩
    have cL := hv.cell
    have cR := bR1.cell
    have fR := bR1.frozen
    have cN := bN1.cell
    have fN := bN1.frozen
    have cE := bE1.cell
    have fE := bE1.frozen
    have R := ((bR1.set (.slice sa sm sc)).other (B' := w.heap.size + 1) (by omega) (.int .i64 s.size)).other (B' := w.heap.size + 1 + 1) (by omega) (.int .i64 0)
    have N := ((bN1.other (B' := w.heap.size) (by omega) (.slice sa sm sc)).set (.int .i64 s.size)).other (B' := w.heap.size + 1 + 1) (by omega) (.int .i64 0)
    have E := ((bE1.other (B' := w.heap.size) (by omega) (.slice sa sm sc)).other (B' := w.heap.size + 1) (by omega) (.int .i64 s.size)).set (.int .i64 0)
    have hK' := (((KeepsOthers.setCell W ⟨w.heap.size, 0, none⟩ (.slice sa sm sc)).trans (KeepsOthers.setCell _ ⟨w.heap.size + 1, 0, none⟩ (.int .i64 s.size))).trans (KeepsOthers.setCell _ ⟨w.heap.size + 1 + 1, 0, none⟩ (.int .i64 0))).same D _ hK rfl
    have O1 := hrow.kept (grownBy_setCell' W w.heap.size (.slice sa sm sc)) (.inr (bR1.not_row (by decide) hrow).symm)
    have O2 := O1.kept (grownBy_setCell' _ (w.heap.size + 1) (.int .i64 s.size)) (.inr ((bN1.other (B' := w.heap.size) (by omega) (.slice sa sm sc)).not_row (by decide) O1).symm)
    have O3 := O2.kept (grownBy_setCell' _ (w.heap.size + 1 + 1) (.int .i64 0)) (.inr (((bE1.other (B' := w.heap.size) (by omega) (.slice sa sm sc)).other (B' := w.heap.size + 1) (by omega) (.int .i64 s.size)).not_row (by decide) O2).symm)
    have kR := (R.kept (grownBy_putObj' _ D (.deferred none)) (by intro h; cases h; omega)).cell
    have kN := (N.kept (grownBy_putObj' _ D (.deferred none)) (by intro h; cases h; omega)).cell
    have kE := (E.kept (grownBy_putObj' _ D (.deferred none)) (by intro h; cases h; omega)).cell
    gi_wp2
    refine ⟨by simp, .inl ⟨_, _, rfl, run_takeDeferred hK', ?_⟩⟩
    refine ⟨.tuple #[(.slice sa sm sc), .int .i64 s.size, .int .i64 0], by simp [results, Try.f43, go_sem, kR, kN, kE], ?_⟩
    have hf : lstF s = (items s, s.size, 0) := by unfold lstF; rw [itemErr_none hall]
    refine ⟨(.slice sa sm sc), by rw [hf], by rw [hf]; exact ownsRow_putObj O3 _ hK' rfl, by rw [hf]; exact hnil, ?_⟩
    exact (((hB.setCell (p := ⟨w.heap.size, 0, none⟩) (Nat.le_refl _) _).setCell (p := ⟨w.heap.size + 1, 0, none⟩) (by show w.heap.size ≤ w.heap.size + 1; omega) _).setCell (p := ⟨w.heap.size + 1 + 1, 0, none⟩) (by show w.heap.size ≤ w.heap.size + 1 + 1; omega) _).trans (belowK_b (w := w) (Nat.le_refl _) _ D _ _ (by omega) hK' rfl rfl)
  case stop =>
    rintro D c pre W hD ⟨r, hpre⟩ ⟨⟨rfl, pre', x, rfl, he, hall, ⟨bR1, bN1⟩, bE1⟩, hB⟩ hK
    have kR := (bR1.kept (grownBy_putObj' _ D (.deferred none)) (by intro h; cases h; omega)).cell
    have kN := (bN1.kept (grownBy_putObj' _ D (.deferred none)) (by intro h; cases h; omega)).cell
    have kE := (bE1.kept (grownBy_putObj' _ D (.deferred none)) (by intro h; cases h; omega)).cell
    gi_wp2
    refine ⟨by simp, .inl ⟨_, _, rfl, run_takeDeferred hK, ?_⟩⟩
    refine ⟨.tuple #[.slice none 0 0, .int .i64 x.1.2.2.1, .int .i64 x.2], by simp [results, Try.f43, go_sem, kR, kN, kE], ?_⟩
    have hf : lstF s = ([], x.1.2.2.1, x.2) := by
      unfold lstF
      rw [← hpre, List.append_assoc, List.singleton_append, itemErr_some hall he]
    refine ⟨.slice none 0 0, by rw [hf], by rw [hf]; exact World.ownsRow_nil _ _ _ _, by rw [hf]; simp, ?_⟩
    exact hB.trans (belowK_b (w := w) (Nat.le_refl _) _ D _ _ (by omega) hK rfl rfl)
end Go.Proofs.Ytlbokaekhjjabaa

/-
  token's List, for every text; the law's awake.
-/
namespace Go.Proofs.Ytlbokaekhjjabaa
open Go.RowKit Go.Shelf Go.Proofs.YtlbokaekhjjabaaW.PrintWords
set_option linter.unusedVariables false

theorem itemsGo_len (s : ByteArray) (k : Nat) : ∀ p, (itemsGo s k p).length ≤ k := by
  induction k with
  | zero => intro p; exact Nat.le_refl _
  | succ k ih =>
    intro p
    simp only [itemsGo]
    by_cases h1 : (nextF s p).2.2 ≠ 0
    · rw [if_pos h1]; simp
    · rw [if_neg h1]
      by_cases h2 : (nextF s p).1.1 = 0
      · rw [if_pos h2]; simp
      · rw [if_neg h2]; have := ih (nextF s p).2.1; simp; omega
theorem list_any (s : ByteArray) (hs : s.size ≤ 1099511627776) (w : World) : Calls Try.prog 43 #[.string s] w (ListIs s w) :=
  callsIn_wide.1 (list_in 9 (by decide) s hs (next_is s (by omega)) (itemsGo_len s _ 0) w)

def openB : ByteArray := ⟨#[91]⟩
theorem open_at : byteAt openB 0 = 91 := by decide
theorem open_next0 : nextF openB 0 = ((91, 0, 1, ⟨#[]⟩), 1, 0) := by
  have h0 : skipF openB 0 = 0 := by rw [skipF, dif_pos (by decide), open_at]; rfl
  unfold nextF
  rw [h0, if_neg (by decide), open_at, show kindF 91 = 91 from by decide]
  unfold tokV
  rw [if_neg (by decide), if_neg (by decide), if_neg (by decide)]
  have hw : wordF 91 = openB := by decide
  have hs : sub openB 0 = openB := by decide
  have hc : comN openB openB 0 = 1 := by
    rw [comN, dif_pos (by decide), comN, dif_neg (by decide)]
  rw [hw, hs, hc]
  decide
theorem open_next1 : nextF openB 1 = ((0, 1, 1, ⟨#[]⟩), 1, 0) := by
  have h0 : skipF openB 1 = 1 := by rw [skipF, dif_neg (by decide)]
  unfold nextF
  rw [h0, if_pos (by decide)]
  rfl
theorem open_items : items openB = [((91, 0, 1, ⟨#[]⟩), 0)] := by
  show itemsGo openB 2 0 = _
  simp only [itemsGo]
  rw [open_next0, open_next1]
  rfl
theorem open_list : lstF openB = ([((91, 0, 1, ⟨#[]⟩), 0)], 1, 0) := by
  unfold lstF
  rw [open_items]
  rfl
set_option maxHeartbeats 2000000 in
set_option maxRecDepth 100000 in
theorem awake14 (w : World) : Calls Try.prog 42 #[] w fun e w' => e = .returned (.bool true) ∧ Below w.heap.size w w' := by
  go_enter Try.func42, Try.ntmps42
  go_wp2_with (fail)
  refine (list_any openB (by decide) w).mono ?_
  rintro e w1 ⟨v, rfl, hrow, hnil, hb⟩
  rw [open_list] at hrow hnil ⊢
  dsimp only at hrow hnil ⊢
  obtain ⟨g, cap, rfl⟩ := ownsRow_succ hrow
  have hcell : w1.cell? ⟨g, 0, none⟩ = some (.int .u8 91) := (hrow.cellAt 0 (by simp)).trans rfl
  go_wp2_with (fail)
  go_ret
  exact ⟨rfl, hb⟩
end Go.Proofs.Ytlbokaekhjjabaa

/-
  Tokens stand one behind the other; between them stand blanks. Without Go.
-/
namespace Go.Proofs.Ytlbokaekhjjabaa
open Go.RowKit
set_option linter.unusedVariables false

/-- Tokens from a place on: each behind the one ahead, blanks between, and behind the last. -/
def Chain (s : ByteArray) : Nat → List Item → Prop
  | p, [] => p ≤ s.size ∧ ∀ k, p ≤ k → k < s.size → blankB (byteAt s k) = true
  | p, x :: t => p ≤ x.1.2.1 ∧ x.1.2.1 < x.1.2.2.1 ∧ x.1.2.2.1 ≤ s.size ∧ (∀ k, p ≤ k → k < x.1.2.1 → blankB (byteAt s k) = true) ∧ Chain s x.1.2.2.1 t
theorem skip_blank (s : ByteArray) (m : Nat) : ∀ p, s.size - p < m → ∀ k, p ≤ k → k < skipF s p → blankB (byteAt s k) = true := by
  induction m with
  | zero => intro p h; omega
  | succ m ih =>
    intro p h k h1 h2
    rw [skipF] at h2
    by_cases hp : p < s.size
    · rw [dif_pos hp] at h2
      by_cases hb : blankB (byteAt s p) = true
      · rw [if_pos hb] at h2
        by_cases hk : k = p
        · rw [hk]; exact hb
        · exact ih (p + 1) (by omega) k (by omega) h2
      · rw [if_neg hb] at h2; omega
    · rw [dif_neg hp] at h2; omega
theorem skip_blanks (s : ByteArray) (p k : Nat) (h1 : p ≤ k) (h2 : k < skipF s p) : blankB (byteAt s k) = true := skip_blank s _ p (Nat.lt_succ_self _) k h1 h2
theorem items_chain (s : ByteArray) (n : Nat) : ∀ p, s.size - p < n → p ≤ s.size → itemErr (itemsGo s n p) = none → Chain s p (itemsGo s n p) ∧ ∀ x ∈ itemsGo s n p, x.2 = 0 := by
  induction n with
  | zero => intro p h; omega
  | succ n ih =>
    intro p hn hp he
    have ha := skipF_le s p hp
    simp only [itemsGo] at he ⊢
    by_cases h1 : (nextF s p).2.2 ≠ 0
    · rw [if_pos h1] at he
      simp only [itemErr] at he
      rw [if_pos h1] at he
      cases he
    rw [if_neg h1] at he ⊢
    have h1' : (nextF s p).2.2 = 0 := by omega
    by_cases h2 : (nextF s p).1.1 = 0
    · rw [if_pos h2]
      have hend : skipF s p = s.size := by
        refine Classical.byContradiction fun hne => ?_
        have hv : nextF s p = tokV s (skipF s p) (kindF (byteAt s (skipF s p))) := by unfold nextF; rw [if_neg hne]
        have ht := tokV_at s (skipF s p) (kindF (byteAt s (skipF s p))) (by omega)
        rw [← hv] at ht
        have := ht.2.2.1 h1'
        exact this.2.1 (by rw [← this.1]; exact h2)
      exact ⟨⟨hp, fun k a b => skip_blanks s p k a (by omega)⟩, fun x hx => by cases hx⟩
    · rw [if_neg h2] at he ⊢
      simp only [itemErr] at he
      rw [if_neg (by simp)] at he
      have hat := nextF_at s p hp
      have h3 := hat.2.2.1 h1' h2
      have hne : ¬ skipF s p = s.size := by
        intro hend
        have hv : nextF s p = ((0, s.size, s.size, ⟨#[]⟩), s.size, 0) := by unfold nextF; rw [if_pos hend]
        rw [hv] at h2; exact h2 rfl
      have hv : nextF s p = tokV s (skipF s p) (kindF (byteAt s (skipF s p))) := by unfold nextF; rw [if_neg hne]
      have ht := tokV_at s (skipF s p) (kindF (byteAt s (skipF s p))) (by omega)
      rw [← hv] at ht
      have h4 := ht.2.2.1 h1'
      have hr := ih (nextF s p).2.1 (by omega) hat.1 he
      refine ⟨⟨h3.1, h3.2.1, by show (nextF s p).1.2.2.1 ≤ _; omega, ?_, ?_⟩, ?_⟩
      · intro k a b
        exact skip_blanks s p k a (by have : k < (nextF s p).1.2.1 := b; omega)
      · show Chain s (nextF s p).1.2.2.1 _
        rw [h3.2.2.1]
        exact hr.1
      · intro x hx
        rcases List.mem_cons.mp hx with rfl | hx
        · rfl
        · exact hr.2 x hx
/-- The error among tokens: never at 0 of a place beyond the text. -/
theorem items_err (s : ByteArray) (n : Nat) : ∀ p q e, s.size - p < n → p ≤ s.size → itemErr (itemsGo s n p) = some (q, e) → q ≤ s.size ∧ e ≠ 0 := by
  induction n with
  | zero => intro p q e h; omega
  | succ n ih =>
    intro p q e hn hp he
    have hat := nextF_at s p hp
    simp only [itemsGo] at he
    by_cases h1 : (nextF s p).2.2 ≠ 0
    · rw [if_pos h1] at he
      simp only [itemErr] at he
      rw [if_pos h1] at he
      cases he
      exact ⟨hat.1, h1⟩
    rw [if_neg h1] at he
    by_cases h2 : (nextF s p).1.1 = 0
    · rw [if_pos h2] at he
      cases he
    · rw [if_neg h2] at he
      simp only [itemErr] at he
      rw [if_neg (by simp)] at he
      have h3 := hat.2.2.1 (by omega) h2
      exact ih _ q e (by omega) hat.1 he
/-- What List tells, in two ways. -/
theorem list_ways (s : ByteArray) : ((lstF s).2.2 ≠ 0 ∧ (lstF s).1 = [] ∧ (lstF s).2.1 ≤ s.size) ∨ ((lstF s).2.2 = 0 ∧ (lstF s).2.1 = s.size ∧ Chain s 0 (lstF s).1 ∧ lstF s = (items s, s.size, 0)) := by
  unfold lstF
  cases h : itemErr (items s) with
  | none => right; exact ⟨rfl, rfl, (items_chain s _ 0 (by omega) (Nat.zero_le _) h).1, rfl⟩
  | some r =>
    left
    obtain ⟨q, e⟩ := r
    have := items_err s _ 0 q e (by omega) (Nat.zero_le _) h
    exact ⟨this.2, rfl, this.1⟩
theorem rows_get (l : List Item) : ∀ (i : Nat) (x : Item), l[i]? = some x → ∀ j, j < 4 → (rowsOf l)[i * 4 + j]? = (tokCells x.1)[j]? := by
  induction l with
  | nil => intro i x h; cases h
  | cons y t ih =>
    intro i x h j hj
    have e : rowsOf (y :: t) = tokCells y.1 ++ rowsOf t := by simp [rowsOf]
    have hl : (tokCells y.1).length = 4 := rfl
    rw [e]
    cases i with
    | zero =>
      simp only [List.getElem?_cons_zero, Option.some.injEq] at h
      subst h
      rw [List.getElem?_append_left (by omega)]
      simp
    | succ i =>
      simp only [List.getElem?_cons_succ] at h
      rw [List.getElem?_append_right (by omega), hl, show (i + 1) * 4 + j - 4 = i * 4 + j by omega]
      exact ih i x h j hj
theorem own_below {W W' : World} {base n e k : Nat} {v : Value} {xs : List Value} (h : W.ownsRow base e k v n xs) (hb : Below W.heap.size W W') : W'.ownsRow base e k v n xs := by
  refine h.kept (row := none) ⟨hb.os, hb.tape, hb.output, hb.size, fun k hk _ => hb.block k hk⟩ ?_
  rcases h.2 with ⟨h', _⟩ | ⟨g, cap, cur, h', _⟩
  · exact .inl (by rw [h']; rfl)
  · exact .inr (by rw [h']; simp [Value.ownBlock])
theorem own_slice {W : World} {base n e k : Nat} {v : Value} {xs : List Value} (h : W.ownsRow base e k v n xs) : ∃ a c, v = .slice a n c := by
  rcases h.2 with ⟨h', h2⟩ | ⟨g, cap, cur, h', _⟩
  · rcases h2 with ⟨rfl, _⟩
    exact ⟨_, _, h'⟩
  · exact ⟨_, _, h'⟩
theorem own_addr {W : World} {base n e k : Nat} {a : Option Addr} {c j : Nat} {xs : List Value} (h : W.ownsRow base e k (.slice a n c) n xs) (hj : j < n) : ∃ g, a = some ⟨g, 0, none⟩ := by
  rcases h.2 with ⟨h', h2⟩ | ⟨g, cap, cur, h', _⟩
  · rcases h2 with ⟨rfl, _⟩
    omega
  · cases h'; exact ⟨g, rfl⟩
end Go.Proofs.Ytlbokaekhjjabaa
