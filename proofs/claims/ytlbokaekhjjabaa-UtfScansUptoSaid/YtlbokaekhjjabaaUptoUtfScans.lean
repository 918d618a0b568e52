/-
  The row of UtfScansUptoSaid: a slice of slices of bytes opened; over the walk (Scans).
-/
import Derived.Test.YtlbokaekhjjabaaRows
import Derived.Test.YtlbokaekhjjabaaScans
import Derived.WalkKit
import Derived.ProofKit
import Derived.OpenShut
import Derived.ChangeOld
import Derived.Below
import Derived.Carry
import Derived.Deep.Slices
import Derived.SizedLaws
import Derived.JoinedCond
namespace Go.Proofs.Ytlbokaekhjjabaa.utfScansUpto
open Go.ChangeShapes Go.WideShapes Go.ChangeAt Go.RowKit
set_option linter.unusedVariables false
theorem own : ownKnob Try.prog.godebug = none := by kernel_rfl
theorem laidOut : laidOutB Try.prog = true := by kernel_rfl
theorem cells5 : Try.prog.cellsOf 5 = 1 := by kernel_rfl
theorem cells28 : Try.prog.cellsOf 28 = 1 := by kernel_rfl
theorem bulk_lits {H : Type} (zs : List Int) : Rows.uptoBulkAll (lits (H := H) .u8 zs) = zs.length := by
  induction zs with
  | nil => simp [lits, Rows.uptoBulkAll]
  | cons z zs ih => simp only [lits, List.map_cons, Rows.uptoBulkAll, List.length_cons] at ih ⊢; rw [ih]; simp [Rows.uptoBulk]; omega
theorem flat_bulk {H : Type} (cs : Nat → List UInt8) (D : Nat → DataW H) : ∀ l : List Nat, (∀ i ∈ l, (cs i).length + 1 ≤ Rows.uptoBulk (D i)) → (l.map cs).flatten.length + l.length ≤ Rows.uptoBulkAll (l.map D) := by
  intro l
  induction l with
  | nil => intro _; simp [Rows.uptoBulkAll]
  | cons a t ih =>
    intro h
    have h1 := ih (fun i hi => h i (List.mem_cons_of_mem _ hi))
    have h2 := h a (List.mem_cons_self ..)
    simp only [List.map_cons, List.flatten_cons, List.length_append, List.length_cons, Rows.uptoBulkAll]
    omega

theorem bytes_of (zs : List Int) (h : ∀ n ∈ zs, (Lit.int .u8 n).wf = true) : ∃ cs : List UInt8, cs.length = zs.length ∧ ∀ j (hj : j < cs.length), zs.getD j 0 = (cs[j].toNat : Int) := by
  refine ⟨zs.map fun n => UInt8.ofNat n.toNat, by simp, fun j hj => ?_⟩
  have hj' : j < zs.length := by simpa using hj
  have hw := h (zs[j]) (List.getElem_mem ..)
  have e1 : IntKind.u8.min = 0 := rfl
  have e2 : IntKind.u8.max = 255 := rfl
  have hw' : 0 ≤ zs[j] ∧ zs[j] ≤ 255 := by simpa [Lit.wf, e1, e2] using hw
  rw [List.getD_eq_getElem?_getD, List.getElem?_eq_getElem hj']
  simp only [List.getElem_map, Option.getD_some]
  rw [UInt8.toNat_ofNat']
  omega

/-- One piece, opened. -/
theorem open_piece {H : Type} {enc : TypeId × Value → H} {W : World} {n : Nat} {v : Value} {d : DataW H} {p : List MemPlace} (h : DataW.trod enc Try.prog W 0 (fun _ => true) true n 28 [v] = some (d, p)) :
    ∃ cs : List UInt8, BytesIn W W.heap.size v cs ∧ cs.length + 1 ≤ Rows.uptoBulk d := by
  rcases open_ints Try.underlying28 Try.underlying5 cells5 h with ⟨hcs, hx⟩ | ⟨a, len, cap, zs, hcs, _, hl, hm, hz, hx, hcell, hwz⟩
  · simp only [Prod.mk.injEq] at hx
    obtain ⟨rfl, rfl⟩ := hx
    cases hcs
    exact ⟨[], ⟨none, 0, rfl, fun j hj => by simp at hj⟩, by simp [Rows.uptoBulk]⟩
  · simp only [Prod.mk.injEq] at hx
    obtain ⟨rfl, rfl⟩ := hx
    cases hcs
    simp only [if_true] at hz
    obtain ⟨cs, h1, h2⟩ := bytes_of zs hwz
    refine ⟨cs.take len, ⟨some a, cap, ?_, fun j hj => ?_⟩, ?_⟩
    · rw [List.length_take, Nat.min_eq_left (by omega)]
    · obtain ⟨b, off, spot⟩ := a
      have hj' : j < cs.length := by rw [List.length_take] at hj; omega
      have hc := hcell j (by omega)
      have hspot : spot = none := by
        have := World.cell?_spot (hcell 0 (by omega))
        simpa [Addr.add] using this
      subst hspot
      rw [add_plain, h2 j hj'] at hc
      exact ⟨b, off, rfl, block_lt_of_cell hc, by rw [hc, List.getElem_take]⟩
    · simp only [Rows.uptoBulk, bulk_lits, List.length_take]; omega

theorem open_pieces {H : Type} {enc : TypeId × Value → H} {W : World} {v : Value} {d : DataW H} {p : List MemPlace} (h0 : DataW.Trod enc Try.prog W 0 (fun _ => true) true 50 v d p) (hv : ∃ a len cap, v = .slice a len cap) :
    ∃ ps : List (List UInt8), PiecesIn W W.heap.size v ps ∧ ps.flatten.length + ps.length ≤ Rows.uptoBulk d := by
  obtain ⟨fuel, hf⟩ := h0
  obtain ⟨a0, len0, cap0, rfl⟩ := hv
  rcases Go.Deep.open_slice1 Try.underlying50 cells28 hf with ⟨hcs, hx⟩ | ⟨a, len, cap, m, n, V, D, Pl, hcs, _, hl, hm, hmm, hx, hcell⟩
  · simp only [Prod.mk.injEq] at hx
    obtain ⟨rfl, rfl⟩ := hx
    simp [Value.cells] at hcs
    obtain ⟨rfl, rfl, rfl⟩ := hcs
    exact ⟨[], ⟨none, 0, rfl, fun j hj => by simp at hj⟩, by simp [Rows.uptoBulk]⟩
  · simp only [Prod.mk.injEq] at hx
    obtain ⟨rfl, rfl⟩ := hx
    simp [Value.cells] at hcs
    obtain ⟨rfl, rfl, rfl⟩ := hcs
    simp only [if_true] at hmm
    obtain ⟨cs, hcs⟩ := Go.Deep.choose_lt (n := len0) (p := fun i (c : List UInt8) => BytesIn W W.heap.size (V i) c ∧ c.length + 1 ≤ Rows.uptoBulk (D i)) (fun i hi => open_piece (hcell i (by omega)).2)
    refine ⟨(List.range len0).map cs, ⟨some a, cap0, by simp, fun j hj => ?_⟩, ?_⟩
    · obtain ⟨b, off, spot⟩ := a
      have hj' : j < len0 := by simpa using hj
      have hc := (hcell j (by omega)).1
      have hspot : spot = none := by
        have := World.cell?_spot (hcell 0 (by omega)).1
        simpa [Addr.add] using this
      subst hspot
      rw [add_plain] at hc
      exact ⟨b, off, V j, rfl, block_lt_of_cell hc, hc, by simpa using (hcs j hj').1⟩
    · have := flat_bulk cs D (List.range len0) (fun i hi => (hcs i (by simpa using hi)).2)
      simp only [List.length_map] at this ⊢
      simp only [Rows.uptoBulk]
      omega

set_option maxRecDepth 100000 in
theorem contract (H : Type) (enc : TypeId × Value → H) (W : World) (base : Nat) (args : Array Value) (ds gs : List (DataW H)) (before : List MemPlace)
    (hval : ∀ (j : Nat) t v, Try.f11.params[j]? = some t → args[j]? = some v → Value.okWide Try.prog W .any base t v)
    (hW : DataW.Whole enc Try.prog Try.f11.params.toList Rows.utfScansSpec.vars false W args.toList ds gs before) (hk : Rows.uptoSmall H (ds ++ gs) = true) :
    Calls Try.prog 11 args W fun e W' => ∃ v, e = .returned v ∧ Rows.utfScansSpec.post enc Try.prog Try.f11 false true false false W args v W' := by
  have hW' := hW
  obtain ⟨p, q, hA0, hV, rfl, hfz, hnd⟩ := hW
  have hA : DataW.TrodAll enc Try.prog W 0 (fun _ => true) true Try.f11.params.toList args.toList ds p := hA0
  rw [Try.params11] at hA hval
  obtain ⟨v0, d0, rfl, rfl, h0⟩ := trodAll_one hA
  obtain ⟨rfl, rfl⟩ := trodVars_none hV
  have hb := of_decide_eq_true hk
  simp only [List.cons_append, List.nil_append, Rows.uptoBulkAll] at hb
  have hsl := okWide_slice Try.underlying50 (hval 0 50 v0 rfl rfl)
  obtain ⟨ps, hps, hbu⟩ := open_pieces h0 hsl
  clear hA0 hval
  simp only [List.append_nil] at hW'
  have hlt : ∀ x ∈ p, x.block < W.heap.size := fun x hx => by simpa using hW'.lt x hx
  have hargs : ∀ (W' : World), Below W.heap.size W W' → DataW.Trod enc Try.prog W' 0 (fun b => decide (b < W.heap.size)) true 50 v0 d0 p :=
    fun W' hn => Below.trod laidOut (by kernel_rfl) (of_decide_eq_true (by kernel_rfl)) h0 hn hlt
  refine (scans_any v0 ps W hps (by omega) (by omega)).mono fun e W' ⟨he, bel⟩ => ?_
  subst he
  exact ⟨_, rfl, _, _, _, [], _, [], hW', trodAll_mk1 (shut_bool Try.underlying4 _), trodAll_mk1 (hargs W' bel), rfl, bel.frame _, fun h => by cases h⟩
set_option maxRecDepth 100000 in
theorem lifted (os : Os) (started : os.Started) (H : Type) (enc : TypeId × Value → H) (F : Stop.Interp) :
    ReturnsInHanded {} Try.checked os 11 .any ((Rows.OpenSpec.upto Rows.utfScansSpec).pre6 enc Try.prog Try.f11 Rows.utfScansUptoRow.domain false) (((Rows.OpenSpec.upto Rows.utfScansSpec).at F).post enc Try.prog Try.f11 false true false false) := by
  refine returnsInHanded_of_cond (C := Try.checked) (s := Rows.OpenSpec.upto Rows.utfScansSpec) (k := Rows.uptoSmall) rfl own started (by kernel_rfl) Try.func11
    (OpenSpec.witness (enc := enc) (C := Try.checked) (s := Rows.OpenSpec.upto Rows.utfScansSpec) (k := Rows.uptoSmall) rfl false ⟨#[], #[.slice none 0 0], []⟩ 8 (by kernel_rfl) (by kernel_rfl) (by kernel_rfl)
      (x := ([.nil], [], [])) (by kernel_rfl) rfl (by kernel_rfl)) ?_
  intro W base args ds gs before hval hW _ hk _
  exact contract H enc W base args ds gs before hval hW hk
theorem over : Rows.utfScansUptoRow.holds Try.pinned (Rows.OpenSpec.upto Rows.utfScansSpec) :=
  OpenClaim.holds_of_cond 11 Try.f11 rfl rfl rfl rfl rfl rfl rfl ⟨rfl, rfl, rfl, rfl, rfl⟩ rfl rfl rfl rfl rfl (by kernel_rfl) Try.func11 (by kernel_rfl)
    (of_decide_eq_true (by kernel_rfl)) (by unfold Func.isWrapper; first | (rw [if_pos (by decide +kernel)]; kernel_rfl) | (rw [if_neg (by decide +kernel)]; exact ⟨rfl, rfl⟩))
    (fun os started H enc _ F => lifted os started H enc F)
theorem proved : Rows.UtfScansUptoSaid := over
#print axioms proved
end Go.Proofs.Ytlbokaekhjjabaa.utfScansUpto
namespace Go.Proofs.Ytlbokaekhjjabaa
theorem utfScansUpto_holds : Rows.UtfScansUptoSaid := utfScansUpto.proved
end Go.Proofs.Ytlbokaekhjjabaa
