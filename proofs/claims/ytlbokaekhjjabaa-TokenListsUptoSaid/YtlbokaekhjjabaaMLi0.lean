import Derived.StillTailTactics
import Derived.Test.YtlbokaekhjjabaaRows
import Derived.WalkKit
import Derived.ProofKit
import Derived.OpenShut
import Derived.ShutString
import Derived.ChangeOld
import Derived.Below
import Derived.SizedLaws
import Derived.JoinedCond
import Derived.Test.YtlbokaekhjjabaaMTk0
import Derived.Test.YtlbokaekhjjabaaMTk1
import Derived.Test.YtlbokaekhjjabaaMTk2
import Derived.Test.YtlbokaekhjjabaaMTk3
import Derived.Test.YtlbokaekhjjabaaMRf0
import Derived.Test.YtlbokaekhjjabaaMRf1
/-
  The reference's List: its walk.
-/
namespace Go.Proofs.Ytlbokaekhjjabaa
open Go.RowKit PureT Go.Proofs.YtlbokaekhjjabaaW.PrintWords
set_option linter.unusedVariables false

theorem infoTok6 : (Try.prog.info? 63).map (fun i => (i.zero, i.size, i.bytes)) = some (some (.agg #[.int .u8 0, .int .i64 0, .int .i64 0, .string ⟨#[]⟩]), 4, 40) := by kernel_rfl
theorem cell_tok6_new (W : World) (t : Tok) (j : Nat) (u : Value) (h : (tokCells t)[j]? = some u) : (W.alloc (.cells #[.int .u8 t.1, .int .i64 t.2.1, .int .i64 t.2.2.1, .string t.2.2.2] 63)).cell? ((⟨W.heap.size, 0, none⟩ : Addr).add j) = some u := by
  have e : (⟨W.heap.size, 0, none⟩ : Addr).add j = ⟨W.heap.size, j, none⟩ := by unfold Addr.add; split <;> simp_all
  rw [e, cell_of_row _ _ j _ _ _ (heap_alloc_last W _)]
  rw [← h]
  simp [tokCells]
theorem own_base {W : World} {base n e k : Nat} {v : Value} {xs : List Value} (h : W.ownsRow base e k v n xs) : ∀ j, v.ownBlock = some j → base ≤ j := by
  intro j hj
  rcases h.2 with ⟨h', _⟩ | ⟨g, cap, cur, h', hb, _⟩
  · rw [h'] at hj; cases hj
  · rw [h'] at hj; cases hj; exact hb
/-- A slice that owns these tokens, the reference's. -/
def RefList (s : ByteArray) (w : World) (e : Ending) (W' : World) : Prop :=
  ∃ v, e = .returned (.tuple #[v, .int .i64 (lstF s).2.1, .int .i64 (lstF s).2.2]) ∧ W'.ownsRow w.heap.size 63 4 v (lstF s).1.length (rowsOf (lstF s).1) ∧ (v = .slice none 0 0 ↔ (lstF s).1 = []) ∧ Below w.heap.size w W'
set_option maxHeartbeats 4000000 in
set_option maxRecDepth 100000 in
theorem ref_list (s : ByteArray) (hs : s.size ≤ 1099511627776) (w : World) : Calls Try.prog 44 #[.string s] w (RefList s w) := by
  obtain ⟨i0, hi, hz0, hz1, hz2⟩ := info_parts infoTok6
  go_enter Try.func44, Try.ntmps44
  go_wp2_with (fail)
  go_loopw [5, 6] (fun lv pv wr => ∃ (pre : List Item) (q k : Nat), pv = .int .i64 q ∧ q ≤ s.size ∧ s.size - q < k ∧ pre.length ≤ q ∧ Hid (items s = pre ++ itemsGo s k q) ∧ Hid (∀ x ∈ pre, x.2 = 0) ∧ wr.ownsRow w.heap.size 63 4 lv pre.length (rowsOf pre) ∧ Hid (lv = .slice none 0 0 ↔ pre = []) ∧ Below w.heap.size w wr) (fun _ p _ => s.size - (intOf p).toNat)
  case atStart => exact ⟨[], 0, s.size + 1, rfl, by omega, by omega, Nat.zero_le _, rfl, fun x hx => by (cases hx), World.ownsRow_nil _ _ _ _, by show _ ↔ _; simp, Below.refl _ _⟩
  case round =>
    obtain ⟨pre, q, k, rfl, hq, hk, hpl, hx, hall, hrow, hnil, hB⟩ := hrel
    obtain ⟨k, rfl⟩ : ∃ k', k = k' + 1 := ⟨k - 1, by omega⟩
    have hat := nextF_at s q hq
    have hC := ref_is s (by omega) q wr hq
    obtain ⟨⟨⟨tk, tf, tt, tx⟩, m, e⟩, hr⟩ : ∃ r, nextF s q = r := ⟨_, rfl⟩
    rw [hr] at hat hC
    dsimp only [tokVal] at hC
    dsimp only at hat
    have hAt := Lib.hid hat
    clear hat
    go_wp2_with (fail)
    refine hC.mono ?_
    rintro e1 w1 ⟨rfl, hb1⟩
    have hB1 : Below w.heap.size w w1 := hB.trans (hb1.mono hB.size)
    have hrow1 := own_below hrow hb1
    by_cases he : e = 0
    · subst he
      by_cases h0 : tk = 0
      · subst h0
        have hf : lstF s = (pre, s.size, 0) := by
          have hx' := hx.out
          simp only [itemsGo] at hx'
          rw [hr, if_neg (by simp), if_pos rfl, List.append_nil] at hx'
          unfold lstF
          rw [hx', itemErr_none hall.out]
        go_wp2_with (fail)
        go_ret3
        exact ⟨_, by rw [hf]; rfl, by rw [hf]; exact hrow1.alloc _, by rw [hf]; exact hnil.out, hB1.alloc hB1.size _⟩
      · have hb0 : (tk == 0) = false := by simpa using h0
        have hx' : items s = (pre ++ [((tk, tf, tt, tx), 0)]) ++ itemsGo s k m := by
          have hx' := hx.out
          simp only [itemsGo] at hx'
          rw [hr, if_neg (by simp), if_neg h0] at hx'
          rw [hx']; simp
        have hcell : ∀ (j : Nat) (u : Value), (tokCells (tk, tf, tt, tx))[j]? = some u → ((w1.alloc (.cells #[.int .u8 tk, .int .i64 tf, .int .i64 tt, .string tx] 63)).alloc (.cells #[.int .u8 tk, .int .i64 tf, .int .i64 tt, .string tx] 63)).cell? ((⟨w1.heap.size + 1, 0, none⟩ : Addr).add j) = some u := by
          intro j u h
          have := cell_tok6_new (w1.alloc (.cells #[.int .u8 tk, .int .i64 tf, .int .i64 tt, .string tx] 63)) (tk, tf, tt, tx) j u h
          rw [World.size_alloc] at this
          exact this
        have hat3 := hAt.out.2.2.1 rfl h0
        have hat0 := hAt.out.1
        have hrow2 := (hrow1.alloc (.cells #[.int .u8 tk, .int .i64 tf, .int .i64 tt, .string tx] 63)).alloc (.cells #[.int .u8 tk, .int .i64 tf, .int .i64 tt, .string tx] 63)
        have hB3 := (hB1.alloc hB1.size (.cells #[.int .u8 tk, .int .i64 tf, .int .i64 tt, .string tx] 63)).alloc (by have := hB1.size; simp; omega) (.cells #[.int .u8 tk, .int .i64 tf, .int .i64 tt, .string tx] 63)
        have hbase : ∀ j, u5.ownBlock = some j → w.heap.size ≤ j := own_base hrow1
        have hbytes : (pre.length + 1) * 40 ≤ 140737488355328 := by omega
        have H3 := Lib.hid hat3
        have H0 := Lib.hid hat0
        have HX := Lib.hid hx'
        obtain ⟨lv, hlv⟩ : ∃ lv, u5 = lv := ⟨_, rfl⟩
        rw [hlv] at hrow2 hbase ⊢
        clear hat3 hat0 hx' hx hrow hrow1 hnil hlv
        go_wp2_with (at_builtin; refine wpList_append_own _ rfl _ _ 70 rfl w.heap.size 63 i0 (.agg #[.int .u8 0, .int .i64 0, .int .i64 0, .string ⟨#[]⟩]) 4 40 Try.underlying70 hi hz0 hz1 hz2 rfl (by decide) _ _ _ rfl hrow2 ⟨w1.heap.size + 1, 0, none⟩ 1 1 (tokCells (tk, tf, tt, tx)) rfl rfl hcell (by simp [tokCells, Value.oneCell']) (by unfold Go.maxLen; omega) hbytes hB3.size ?_; intro v' w3 hown' hgrow _; obtain ⟨g', cap', rfl⟩ := ownsRow_succ hown')
        go_roundw
        case rel =>
          have H3 := H3.out
          have H0' := H0.out
          refine ⟨pre ++ [((tk, tf, tt, tx), 0)], m, k, rfl, H0.out, by omega, by rw [List.length_append]; simp; omega, HX.out, ?_, ?_, ?_, hB3.grown hgrow hB3.size hbase⟩
          · show ∀ x ∈ _, _
            intro x hx
            rcases List.mem_append.mp hx with hx | hx
            · exact hall.out x hx
            · rw [List.mem_singleton] at hx; subst hx; rfl
          · rw [rowsOf_snoc]; simpa using hown'
          · show _ ↔ _; simp
        case measure => have := H3.out; have := H0.out; simp [intOf]; omega
    · have heb : (e != 0) = true := by simpa using he
      have hn0 := hAt.out.2.2.2 he
      have hf : lstF s = ([], m, e) := by
        have hx' := hx.out
        simp only [itemsGo] at hx'
        rw [hr, if_pos he] at hx'
        unfold lstF
        rw [hx', itemErr_some hall.out he]
      clear hn0
      go_wp2_with (fail)
      go_ret3
      exact ⟨_, by rw [hf]; rfl, by rw [hf]; exact World.ownsRow_nil _ _ _ _, by rw [hf]; simp, hB1.alloc hB1.size _⟩
end Go.Proofs.Ytlbokaekhjjabaa

/-
  TokenLists, walked.
-/
namespace Go.Proofs.Ytlbokaekhjjabaa
open Go.RowKit PureT Go.Proofs.YtlbokaekhjjabaaW.PrintWords
set_option linter.unusedVariables false

set_option maxHeartbeats 4000000 in
set_option maxRecDepth 100000 in
theorem lists_law (s : ByteArray) (hs : s.size ≤ 1048576) (w : World) : Calls Try.prog 17 #[.string s] w fun e w' => e = .returned (.bool true) ∧ Below w.heap.size w w' := by
  obtain ⟨L, m, er, hf⟩ : ∃ L m er, lstF s = (L, m, er) := ⟨_, _, _, rfl⟩
  have hLn : L.length ≤ 1048577 := by
    have hw := list_ways s
    rw [hf] at hw
    rcases hw with ⟨_, h2, _⟩ | ⟨_, _, _, h4⟩
    · have : L = [] := h2
      rw [this]; simp
    · have h5 := itemsGo_len s (s.size + 1) 0
      have h6 : L = itemsGo s (s.size + 1) 0 := congrArg Prod.fst h4
      rw [← h6] at h5
      omega
  have hA := list_any s (by omega)
  have hC := ref_list s (by omega)
  unfold ListIs at hA
  unfold RefList at hC
  rw [hf] at hA hC
  dsimp only at hA hC
  clear hf
  go_enter Try.func17, Try.ntmps17
  go_wp2_with (fail)
  refine (hA _).mono ?_
  rintro e1 w1 ⟨v1, rfl, hrow1, hnil1, hb1⟩
  go_wp2_with (fail)
  refine (hC _).mono ?_
  rintro e2 w2 ⟨v2, rfl, hrow2, hnil2, hb2⟩
  have hrow1' := own_below hrow1 hb2
  have hB2 : Below w.heap.size w w2 := hb1.trans (hb2.mono hb1.size)
  obtain ⟨a1, c1, hv1⟩ := own_slice hrow1
  subst hv1
  obtain ⟨a2, c2, hv2⟩ := own_slice hrow2
  subst hv2
  obtain ⟨E0, O1⟩ : ∃ B, w2.ownsRow B 60 4 (.slice a1 L.length c1) L.length (rowsOf L) := ⟨_, hrow1'⟩
  obtain ⟨E1, O2⟩ : ∃ B, w2.ownsRow B 63 4 (.slice a2 L.length c2) L.length (rowsOf L) := ⟨_, hrow2⟩
  clear hrow1' hrow2 hnil1 hnil2 hrow1 hb1 hb2 hA hC
  go_wp2_with (fail)
  go_loopw [9] (fun jv wr' => ∃ j : Nat, jv = .int .i64 j ∧ j ≤ L.length ∧ wr'.ownsRow E0 60 4 (.slice a1 L.length c1) L.length (rowsOf L) ∧ wr'.ownsRow E1 63 4 (.slice a2 L.length c2) L.length (rowsOf L) ∧ Below w.heap.size w wr') (fun j _ => L.length - (intOf j).toNat)
  case atStart => exact ⟨0, rfl, Nat.zero_le _, O1, O2, hB2⟩
  case round =>
    obtain ⟨j, rfl, hj, o1, o2, hB3⟩ := hrel
    clear O1 O2 hB2
    by_cases hjl : j < L.length
    · have g2 : decide (j < L.length) = true := decide_eq_true hjl
      obtain ⟨x, hx⟩ : ∃ x, L[j]? = some x := ⟨_, List.getElem?_eq_getElem hjl⟩
      obtain ⟨g1', rfl⟩ := own_addr o1 hjl
      obtain ⟨g2', rfl⟩ := own_addr o2 hjl
      have k1 : ∀ c, c < 4 → wr.cell? ⟨g1', j * 4 + c, none⟩ = (tokCells x.1)[c]? := fun c hc => (o1.cellAt _ (by omega)).trans (rows_get L j x hx c hc)
      have k2 : ∀ c, c < 4 → wr.cell? ⟨g2', j * 4 + c, none⟩ = (tokCells x.1)[c]? := fun c hc => (o2.cellAt _ (by omega)).trans (rows_get L j x hx c hc)
      obtain ⟨⟨tk, tf, tt, tx⟩, xe⟩ := x
      dsimp only at k1 k2
      have p0 : wr.cell? ⟨g1', j * 4, none⟩ = some (.int .u8 tk) := (k1 0 (by omega)).trans rfl
      have p1 : wr.cell? ⟨g1', j * 4 + 1, none⟩ = some (.int .i64 tf) := (k1 1 (by omega)).trans rfl
      have p2 : wr.cell? ⟨g1', j * 4 + 2, none⟩ = some (.int .i64 tt) := (k1 2 (by omega)).trans rfl
      have p3 : wr.cell? ⟨g1', j * 4 + 3, none⟩ = some (.string tx) := (k1 3 (by omega)).trans rfl
      have q0 : wr.cell? ⟨g2', j * 4, none⟩ = some (.int .u8 tk) := (k2 0 (by omega)).trans rfl
      have q1 : wr.cell? ⟨g2', j * 4 + 1, none⟩ = some (.int .i64 tf) := (k2 1 (by omega)).trans rfl
      have q2 : wr.cell? ⟨g2', j * 4 + 2, none⟩ = some (.int .i64 tt) := (k2 2 (by omega)).trans rfl
      have q3 : wr.cell? ⟨g2', j * 4 + 3, none⟩ = some (.string tx) := (k2 3 (by omega)).trans rfl
      clear k1 k2
      have o1' : wr.drew.ownsRow E0 60 4 (.slice (some ⟨g1', 0, none⟩) L.length c1) L.length (rowsOf L) := o1
      have o2' : wr.drew.ownsRow E1 63 4 (.slice (some ⟨g2', 0, none⟩) L.length c2) L.length (rowsOf L) := o2
      have hB4 : Below w.heap.size w wr.drew := hB3.drew
      clear hx o1 o2 hB3
      go_wp2_with (fail)
      go_still_tail 8, (by kernel_rfl)
      change wpList _ _ _ _ _ wr.drew
      clear p0 p1 p2 p3 q0 q1 q2 q3
      generalize wr.drew = W4 at o1' o2' hB4 ⊢
      go_wp2_with (fail)
      refine (twin_same tk tf tt tx _).mono ?_
      rintro e5 w5 ⟨rfl, hb5⟩
      have o1 := own_below o1' hb5
      have o2 := own_below o2' hb5
      have hB5 := hB4.trans (hb5.mono hB4.size)
      clear o1' o2'
      go_wp2_with (fail)
      go_roundw
      case rel => exact ⟨j + 1, rfl, by omega, o1, o2, hB5⟩
      case measure => simp [intOf]; omega
    · have g2 : decide (j < L.length) = false := decide_eq_false hjl
      go_wp2_with (fail)
      refine (awake14 _).mono ?_
      rintro e4 w4 ⟨rfl, hb4⟩
      go_wp2_with (fail)
      go_ret
      exact ⟨rfl, hB3.trans (hb4.mono hB3.size)⟩
theorem lists_upto (s : ByteArray) (w : World) (hs : s.size ≤ 1048576) : Calls Try.prog 17 #[.string s] w fun e w' => e = .returned (.bool true) ∧ Below w.heap.size w w' := lists_law s hs w
end Go.Proofs.Ytlbokaekhjjabaa

/-
  The row of TokenListsUptoSaid: over the walk and the plain law.
-/
namespace Go.Proofs.Ytlbokaekhjjabaa.tokenListsUpto
open Go.ChangeShapes Go.WideShapes Go.ChangeAt Go.RowKit
open Go.ChangeMaps (open_string shut_string)
set_option linter.unusedVariables false
theorem own : ownKnob Try.prog.godebug = none := by kernel_rfl
theorem bulk_string {H : Type} (bytes : List UInt8) : Rows.uptoBulk (DataW.lit (H := H) (.string bytes)) = bytes.length + 1 := by simp [Rows.uptoBulk]
set_option maxRecDepth 100000 in
theorem contract (H : Type) (enc : TypeId × Value → H) (W : World) (base : Nat) (args : Array Value) (ds gs : List (DataW H)) (before : List MemPlace)
    (hval : ∀ (j : Nat) t v, Try.f17.params[j]? = some t → args[j]? = some v → Value.okWide Try.prog W .any base t v)
    (hW : DataW.Whole enc Try.prog Try.f17.params.toList Rows.tokenListsSpec.vars false W args.toList ds gs before) (hk : Rows.uptoSmall H (ds ++ gs) = true) :
    Calls Try.prog 17 args W fun e W' => ∃ v, e = .returned v ∧ Rows.tokenListsSpec.post enc Try.prog Try.f17 false true false false W args v W' := by
  have hW' := hW
  obtain ⟨p, q, hA0, hV, rfl, hfz, hnd⟩ := hW
  have hA : DataW.TrodAll enc Try.prog W 0 (fun _ => true) true Try.f17.params.toList args.toList ds p := hA0
  rw [Try.params17] at hA hval
  obtain ⟨v0, vs0, d0, ds0, p0, q0, hargs, rfl, rfl, h0, r0⟩ := trodAll_cons hA
  obtain ⟨rfl, rfl, rfl⟩ := trodAll_nil r0
  obtain rfl : args = #[v0] := by cases args; simp_all
  obtain ⟨rfl, rfl⟩ := trodVars_none hV
  obtain ⟨a0, rfl, rfl, rfl, y0⟩ := open_string Try.underlying9 (hval 0 9 v0 rfl rfl) h0
  have hb := of_decide_eq_true hk
  simp only [List.cons_append, List.nil_append, Rows.uptoBulkAll, bulk_string] at hb
  have w0 : a0.size ≤ 1048576 := by
    have hl : a0.data.toList.length = a0.size := by rw [Array.length_toList]; rfl
    omega
  clear hA0 hval hk hb
  refine (lists_upto a0 W w0).mono fun e W' ⟨he, bel⟩ => ?_
  subst he
  exact ⟨_, rfl, _, _, _, [], _, [], hW', trodAll_mk1 (shut_bool Try.underlying4 _), (trodAll_cons_mk (shut_string Try.underlying9 y0) trodAll_mk0), rfl, bel.frame _, fun h => by cases h⟩
set_option maxRecDepth 100000 in
theorem lifted (os : Os) (started : os.Started) (H : Type) (enc : TypeId × Value → H) (F : Stop.Interp) :
    ReturnsInHanded {} Try.checked os 17 .any ((Rows.OpenSpec.upto Rows.tokenListsSpec).pre6 enc Try.prog Try.f17 Rows.tokenListsUptoRow.domain false) (((Rows.OpenSpec.upto Rows.tokenListsSpec).at F).post enc Try.prog Try.f17 false true false false) := by
  refine returnsInHanded_of_cond (C := Try.checked) (s := Rows.OpenSpec.upto Rows.tokenListsSpec) (k := Rows.uptoSmall) rfl own started (by kernel_rfl) Try.func17
    (OpenSpec.witness (enc := enc) (C := Try.checked) (s := Rows.OpenSpec.upto Rows.tokenListsSpec) (k := Rows.uptoSmall) rfl false ⟨#[], #[.string ByteArray.empty], []⟩ 8 (by kernel_rfl) (by kernel_rfl) (by kernel_rfl)
      (x := ([.lit (.string [])], [], [])) (by kernel_rfl) rfl (by kernel_rfl)) ?_
  intro W base args ds gs before hval hW _ hk _
  exact contract H enc W base args ds gs before hval hW hk
theorem over : Rows.tokenListsUptoRow.holds Try.pinned (Rows.OpenSpec.upto Rows.tokenListsSpec) :=
  OpenClaim.holds_of_cond 17 Try.f17 rfl rfl rfl rfl rfl rfl rfl ⟨rfl, rfl, rfl, rfl, rfl⟩ rfl rfl rfl rfl rfl (by kernel_rfl) Try.func17 (by kernel_rfl)
    (of_decide_eq_true (by kernel_rfl)) (by unfold Func.isWrapper; first | (rw [if_pos (by decide +kernel)]; kernel_rfl) | (rw [if_neg (by decide +kernel)]; exact ⟨rfl, rfl⟩))
    (fun os started H enc _ F => lifted os started H enc F)
theorem proved : Rows.TokenListsUptoSaid := over
#print axioms proved
end Go.Proofs.Ytlbokaekhjjabaa.tokenListsUpto
namespace Go.Proofs.Ytlbokaekhjjabaa
theorem tokenListsUpto_holds : Rows.TokenListsUptoSaid := tokenListsUpto.proved
end Go.Proofs.Ytlbokaekhjjabaa
