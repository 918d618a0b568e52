/-
  The walk of the law UtfScans: it returns true.
-/
import Derived.Test.YtlbokaekhjjabaaFeed
import Derived.Test.YtlbokaekhjjabaaUtfB
import Derived.Test.YtlbokaekhjjabaaUtfC
import Derived.Laws.BytesArg
namespace Go.Proofs.Ytlbokaekhjjabaa
open Go.RowKit Go.Proofs.YtlbokaekhjjabaaW.PrintWords Go.Proofs.YtlbokaekhjjabaaW.PrintLast Go.Proofs.YtlbokaekhjjabaaW.PrintMore
set_option linter.unusedVariables false

theorem refCheck_any (s : ByteArray) (w : World) (hs : s.size ≤ 140737488351232) : Calls Try.prog 33 #[.string s] w (Pair (chk s) w) := by
  obtain ⟨K, h⟩ := Pure.refCheck_ev s hs
  obtain ⟨r1, r2, hr⟩ : ∃ r1 r2, chk s = (r1, r2) := ⟨_, _, rfl⟩
  rw [hr] at h ⊢
  exact (U.glossatorref02_Check.calls K s r1 r2 w (h K (Nat.le_refl _))).mono fun e w' ⟨he, hd⟩ => ⟨he, hd.below⟩
theorem awake2_any (w : World) : Calls Try.prog 21 #[] w (Say (.bool true) w) := (U.glossatorlaw02_awake.calls true w Pure.awake_fv).mono fun e w' ⟨he, hb⟩ => ⟨he, hb⟩

/-! ### Bytes, one behind the other -/
theorem runB_app (a b : List UInt8) : ∀ st i, runB (a ++ b) st i = (match runB a st i with | (some st', m) => runB b st' m | (none, m) => (none, m)) := by
  induction a with
  | nil => intro st i; rfl
  | cons c t ih =>
    intro st i
    simp only [List.cons_append, runB]
    cases stp st c.toNat (-1) with
    | none => rfl
    | some st' => exact ih st' (i + 1)
theorem runB_some {a : List UInt8} : ∀ {st st' i m}, runB a st i = (some st', m) → m = i + a.length := by
  induction a with
  | nil => intro st st' i m h; simp only [runB, Prod.mk.injEq] at h; simp [h.2]
  | cons c t ih =>
    intro st st' i m h
    simp only [runB] at h
    cases hs : stp st c.toNat (-1) with
    | none => rw [hs] at h; cases h
    | some st1 => rw [hs] at h; rw [ih h, List.length_cons]; omega
theorem runB_left {a : List UInt8} : ∀ {st st' i m}, runB a st i = (some st', m) → (0 ≤ st.1 ∧ st.1 ≤ 3) → 0 ≤ st'.1 ∧ st'.1 ≤ 3 := by
  induction a with
  | nil => intro st st' i m h h0; simp only [runB, Prod.mk.injEq, Option.some.injEq] at h; rw [← h.1]; exact h0
  | cons c t ih =>
    intro st st' i m h h0
    simp only [runB] at h
    cases hs : stp st c.toNat (-1) with
    | none => rw [hs] at h; cases h
    | some st1 => rw [hs] at h; exact ih h (stp_left hs h0)
theorem chkL_runB (a : List UInt8) : ∀ st i, chkL a st i = (match runB a st i with | (some st', m) => (if st'.1 > 0 then (m, 3) else (m, 0)) | (none, m) => (m, 4)) := by
  induction a with
  | nil => intro st i; rfl
  | cons c t ih =>
    intro st i
    simp only [runB, chkL]
    cases stp st c.toNat (-1) with
    | none => rfl
    | some st' => exact ih st' (i + 1)

/-- A text of these bytes. -/
def txt (cs : List UInt8) : ByteArray := ⟨cs.toArray⟩
theorem txt_data (cs : List UInt8) : (txt cs).data.toList = cs := by simp [txt]
theorem txt_size (cs : List UInt8) : (txt cs).size = cs.length := by simp [txt, ByteArray.size]
theorem txt_app (a b : List UInt8) : txt a ++ txt b = txt (a ++ b) := by
  have : (txt a ++ txt b).data.toList = (txt (a ++ b)).data.toList := by rw [txt_data, Pure.app_dat, txt_data, txt_data]
  cases h1 : txt a ++ txt b; cases h2 : txt (a ++ b)
  rw [h1, h2] at this
  exact congrArg ByteArray.mk (Array.toList_inj.1 this)

theorem conv_in (w0 W : World) (B : Nat) (v : Value) (cs : List UInt8) (h : BytesIn w0 B v cs) (hb : Below B w0 W) : (convert 28 9 v).run Try.prog W = .ok (.string (txt cs)) W := by
  obtain ⟨a, cap, rfl, hc⟩ := h
  cases a with
  | none =>
    cases cs with
    | nil => exact run_convert_bytes_nil (w := W) 28 5 Try.underlying28 Try.underlying5 0 cap 9 Try.underlying9
    | cons c t => obtain ⟨b, off, h1, _⟩ := hc 0 (by simp); cases h1
  | some p =>
    cases cs with
    | nil =>
      show (convert 28 9 (.slice (some p) 0 cap)).run Try.prog W = _
      rw [run_convert_bytes_string W 28 9 5 _ 0 cap Try.underlying28 Try.underlying5 Try.underlying9]
      simp [Conv.bytesToString, loadCells, loadCellsFrom]
      rfl
    | cons c t =>
      obtain ⟨b, off, h1, hbB, _⟩ := hc 0 (by simp)
      cases h1
      have := run_convert_bytes_arg W 28 5 Try.underlying28 Try.underlying5 b off (c :: t).length cap ((c :: t).map fun x => (x.toNat : Int)) (by simp) (fun i hi => by
        obtain ⟨b1, off1, e1, _, h2⟩ := hc i hi
        cases e1
        rw [hb.cell (p := ⟨b, off + i, none⟩) hbB, h2, List.getD_eq_getElem?_getD, List.getElem?_map, List.getElem?_eq_getElem hi]
        rfl) 9 Try.underlying9
      rw [this]
      have e : strOfNums ((c :: t).map fun x => (x.toNat : Int)) = txt (c :: t) := by
        have : (strOfNums ((c :: t).map fun x => (x.toNat : Int))).data.toList = (txt (c :: t)).data.toList := by
          rw [strOfNums_data, txt_data, List.map_map]
          exact (List.map_congr_left (fun x _ => by simp)).trans (List.map_id _)
        cases h1 : strOfNums ((c :: t).map fun x => (x.toNat : Int)); cases h2 : txt (c :: t)
        rw [h1, h2] at this
        exact congrArg ByteArray.mk (Array.toList_inj.1 this)
      rw [e]


/-- A slice of slices of bytes, read in a world below a mark. -/
def PiecesIn (W : World) (B : Nat) (v : Value) (ps : List (List UInt8)) : Prop :=
  ∃ a cap, v = .slice a ps.length cap ∧ ∀ j (h : j < ps.length), ∃ b off u, a = some ⟨b, off, none⟩ ∧ b < B ∧ W.cell? ⟨b, off + j, none⟩ = some u ∧ BytesIn W B u ps[j]

theorem flat_take (ps : List (List UInt8)) (k : Nat) (h : k < ps.length) : (ps.take (k + 1)).flatten = (ps.take k).flatten ++ ps[k] := by
  rw [List.take_succ_eq_append_getElem h, List.flatten_append]; simp
theorem flat_le (ps : List (List UInt8)) (k : Nat) : (ps.take k).flatten.length ≤ ps.flatten.length := by
  have := List.take_append_drop k ps
  have h2 : ps.flatten.length = (ps.take k).flatten.length + (ps.drop k).flatten.length := by
    rw [← List.length_append, ← List.flatten_append, this]
  omega

def TrueBelow (w : World) (e : Ending) (w' : World) : Prop := e = .returned (.bool true) ∧ Below w.heap.size w w'

theorem ne5 : ((2 : Int) == 0) = false := by decide
theorem ne6 : ((2 : Int) != 1) = true := by decide
theorem ne7 : ((3 : Int) == 0) = false := by decide
theorem ne8 : ((3 : Int) != 1) = true := by decide
theorem up {w a b : World} (h : Below w.heap.size w a) (k : Below a.heap.size a b) : Below w.heap.size w b := h.trans (k.mono h.size)
/-- The text so far, its state. -/
structure Way (ps : List (List UInt8)) (k : Nat) (X : ByteArray) (st : St) : Prop where
  text : X = txt (ps.take k).flatten
  run : runB (ps.take k).flatten st0 0 = (some st, (X.size : Int))
  left : 0 ≤ st.1 ∧ st.1 ≤ 3
theorem Way.zero (ps : List (List UInt8)) : Way ps 0 ⟨#[]⟩ st0 := ⟨rfl, rfl, by decide⟩
theorem Way.size {ps : List (List UInt8)} {k : Nat} {X : ByteArray} {st : St} (h : Way ps k X st) : X.size ≤ ps.flatten.length := by
  rw [h.text, txt_size]; exact flat_le ps k
theorem Way.next {ps : List (List UInt8)} {k : Nat} {X : ByteArray} {st st' : St} {m : Int} (h : Way ps k X st) (hk : k < ps.length) (hr : runB ps[k] st X.size = (some st', m)) : Way ps (k + 1) (X ++ txt ps[k]) st' ∧ m = ((X ++ txt ps[k]).size : Int) := by
  have e : X ++ txt ps[k] = txt (ps.take (k + 1)).flatten := by rw [h.text, txt_app, flat_take ps k hk]
  have hm : m = ((X ++ txt ps[k]).size : Int) := by
    have h1 := runB_some hr
    have h2 : (X ++ txt ps[k]).size = X.size + ps[k].length := by rw [ByteArray.size_append, txt_size]
    rw [h2]; omega
  refine ⟨⟨e, ?_, runB_left hr h.left⟩, hm⟩
  rw [flat_take ps k hk, runB_app, h.run]
  dsimp only
  rw [hr, hm]
theorem Way.chk {ps : List (List UInt8)} {k : Nat} {X : ByteArray} {st : St} (h : Way ps k X st) : chk X = ((X.size : Int), if st.1 > 0 then 3 else 0) := by
  have e : X.data.toList = (ps.take k).flatten := by rw [h.text, txt_data]
  unfold Ytlbokaekhjjabaa.chk
  rw [e, chkL_runB, h.run]
  dsimp only
  split <;> rfl
theorem Way.bad {ps : List (List UInt8)} {k : Nat} {X : ByteArray} {st : St} {m : Int} (h : Way ps k X st) (hk : k < ps.length) (hr : runB ps[k] st X.size = (none, m)) : Ytlbokaekhjjabaa.chk (X ++ txt ps[k]) = (m, 4) := by
  have e : X ++ txt ps[k] = txt (ps.take (k + 1)).flatten := by rw [h.text, txt_app, flat_take ps k hk]
  unfold Ytlbokaekhjjabaa.chk
  rw [e, txt_data, chkL_runB, flat_take ps k hk, runB_app, h.run]
  dsimp only
  rw [hr]

set_option maxHeartbeats 4000000 in
set_option maxRecDepth 100000 in
theorem scans_any (v : Value) (ps : List (List UInt8)) (w : World) (hv : PiecesIn w w.heap.size v ps) (hl : ps.flatten.length ≤ 1048576) (hl2 : ps.length ≤ 1048576) :
    Calls Try.prog 11 #[v] w (TrueBelow w) := by
  obtain ⟨a, cap, rfl, hcell⟩ := hv
  have HC := Lib.hid hcell
  clear hcell
  go_enter Try.func11, Try.ntmps11
  go_wp2_with (go_at_call 36; refine (new_any _).mono ?_; rintro en w1 ⟨rfl, hS1, hb1⟩)
  go_loopw [4, 5] (fun x i wr => ∃ (k : Nat) (X : ByteArray) (st : St), k ≤ ps.length ∧ i = .int .i64 k ∧ x = .string X ∧ Hid (Way ps k X st) ∧ Sc wr w.heap.size 1 st (X.size : Int) ∧ Below w.heap.size w wr) (fun x i _ => ps.length - (intOf i).toNat)
  case atStart => exact ⟨0, ⟨#[]⟩, st0, by omega, rfl, rfl, Way.zero ps, hS1, hb1⟩
  case round =>
    obtain ⟨k, X, st, hk, rfl, rfl, hc, hI, hb⟩ := hrel
    have hX := hc.out.size
    by_cases hlt : k < ps.length
    · obtain ⟨b, off, u, rfl, hbB, hck, hu⟩ := HC.out k hlt
      have hck' : wr.cell? ⟨b, off + k, none⟩ = some u := (hb.cell (p := ⟨b, off + k, none⟩) hbB).trans hck
      clear hck
      have hlen1 : ps[k].length ≤ 1048576 := by
        have h1 := flat_take ps k hlt
        have h2 := flat_le ps (k + 1)
        have h3 := congrArg List.length h1
        rw [List.length_append] at h3
        omega
      have hu' := Lib.hid hu
      have hcv := conv_in w wr w.heap.size u ps[k] hu hb
      obtain ⟨P, hP⟩ : ∃ P, txt ps[k] = P := ⟨_, rfl⟩
      have hPs : P.size ≤ 1048576 := by rw [← hP, txt_size]; exact hlen1
      rw [hP] at hcv
      have hP' := Lib.hid hP
      have hsz : (X ++ P).size = X.size + P.size := by rw [ByteArray.size_append]
      clear hu hP
      obtain ⟨r, hr⟩ : ∃ r, runB ps[k] st X.size = r := ⟨_, rfl⟩
      go_wp2_with (fail)
      refine (feed_any w.heap.size w.heap.size u ps[k] st X.size w wr (Nat.le_refl _) hb.size hu'.out hb hI hc.out.left (by omega) (by omega)).mono ?_
      rw [hr]
      obtain ⟨r1, m⟩ := r
      cases r1 with
      | none =>
        rintro en w2 ⟨st2, rfl, hI2, hb2⟩
        have hchk := Lib.hid (hc.out.bad hlt hr)
        rw [hP'.out] at hchk
        clear hr
        go_wp2_with (fail)
        refine (refCheck_any (X ++ P) _ (by omega)).mono ?_
        rintro en w3 ⟨rfl, hb3⟩
        rw [hchk.out]
        dsimp only
        have hI3 := hI2.below hb3
        go_wp2_with (fail)
        refine (at_is _ m _ hI3.c4).mono ?_
        rintro en w4 ⟨rfl, hb4⟩
        have hI4 := hI3.below hb4
        go_wp2_with (fail)
        refine (feed_state _ 2 _ _ hI4.c0 ne5 ne6).mono ?_
        rintro en w5 ⟨rfl, hb5⟩
        have hI5 := hI4.below hb5
        go_wp2_with (fail)
        refine (close_state _ 2 _ hI5.c0 ne5 ne6).mono ?_
        rintro en w6 ⟨rfl, hb6⟩
        go_wp2
        go_ret
        exact ⟨rfl, up (up (up (up (hb.trans hb2) hb3) hb4) hb5) hb6⟩
      | some st' =>
        rintro en w2 ⟨rfl, hI2, hb2⟩
        obtain ⟨hw', hm⟩ := hc.out.next hlt hr
        rw [hP'.out] at hw' hm
        subst hm
        have hchk := Lib.hid hw'.chk
        have hw2 := Lib.hid hw'
        obtain ⟨f, hf⟩ : ∃ f : Int, f = (if st'.1 > 0 then 3 else 0) := ⟨_, rfl⟩
        rw [← hf] at hchk
        have hf4 : (f == 4) = false := by rw [hf]; split <;> rfl
        clear hr hf hw'
        go_wp2_with (fail)
        refine (refCheck_any (X ++ P) _ (by omega)).mono ?_
        rintro en w3 ⟨rfl, hb3⟩
        rw [hchk.out]
        dsimp only
        have hI3 := hI2.below hb3
        go_wp2_with (fail)
        refine (at_is _ _ _ hI3.c4).mono ?_
        rintro en w4 ⟨rfl, hb4⟩
        have hI4 := hI3.below hb4
        go_wp2
        go_roundw
        case rel => exact ⟨k + 1, X ++ P, st', by omega, by go_num, rfl, hw2, hI4, up (up (hb.trans hb2) hb3) hb4⟩
        case measure => simp [intOf]; omega
    · obtain rfl : k = ps.length := by omega
      have hchk := Lib.hid hc.out.chk
      obtain ⟨f, hf⟩ : ∃ f : Int, f = (if st.1 > 0 then 3 else 0) := ⟨_, rfl⟩
      rw [← hf] at hchk
      have HF := Lib.hid hf
      clear hf
      go_wp2_with (fail)
      refine (refCheck_any X _ (by omega)).mono ?_
      rintro en w3 ⟨rfl, hb3⟩
      rw [hchk.out]
      dsimp only
      have hI3 := hI.below hb3
      have hB3 := up hb hb3
      go_wp2_with (fail)
      obtain ⟨hw, h5, h6, hcl⟩ : ∃ hw : Int, (hw == 0) = false ∧ (hw != 1) = true ∧ Calls Try.prog 24 #[.pointer (some ⟨w.heap.size, 0, none⟩)] w3 (Told w.heap.size w.heap.size f hw st X.size w3) := by
        by_cases hl : 0 < st.1
        · refine ⟨2, ne5, ne6, ?_⟩
          rw [HF.out, if_pos hl]
          exact close_short w.heap.size w.heap.size st X.size w3 (Nat.le_refl _) hB3.size hI3 hl
        · refine ⟨3, ne7, ne8, ?_⟩
          rw [HF.out, if_neg hl]
          exact close_right w.heap.size w.heap.size st X.size w3 (Nat.le_refl _) hB3.size hI3 hl
      refine hcl.mono ?_
      rintro en w4 ⟨rfl, hI4, hb4⟩
      have hB4 := hB3.trans hb4
      clear hcl
      go_wp2_with (fail)
      refine (at_is _ _ _ hI4.c4).mono ?_
      rintro en w5 ⟨rfl, hb5⟩
      have hI5 := hI4.below hb5
      go_wp2_with (fail)
      refine (feed_state _ _ _ _ hI5.c0 h5 h6).mono ?_
      rintro en w6 ⟨rfl, hb6⟩
      go_wp2_with (fail)
      refine (awake2_any _).mono ?_
      rintro en w7 ⟨rfl, hb7⟩
      go_wp2
      go_ret
      exact ⟨rfl, up (up (up hB4 hb5) hb6) hb7⟩
end Go.Proofs.Ytlbokaekhjjabaa
