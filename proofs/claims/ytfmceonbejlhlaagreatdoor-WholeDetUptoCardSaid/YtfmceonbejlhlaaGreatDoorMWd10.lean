import Derived.Laws.IdiomStrings
import Derived.Test.YtfmceonbejlhlaaGreatDoorMWd5
import Derived.Test.YtfmceonbejlhlaaGreatDoorMWd9
/-
  cbor's Reader: a text is read.
-/
namespace Go.Proofs.YtfmceonbejlhlaaGreatDoor
open Go.RowKit Go.Proofs.YtfmceonbejlhlaaGreatDoorW.PrintWords Go.Proofs.YtfmceonbejlhlaaGreatDoorW.PrintLast Go.Proofs.YtfmceonbejlhlaaGreatDoorW.PrintMore
set_option linter.unusedVariables false

theorem chk_need : ∀ (l : List UInt8) (st : St) (i j : Int), chkL l st i = (j, 0) → st.1 ≤ l.length
  | [], st, i, j, h => by
    unfold chkL at h
    split at h
    · injection h with _ h; cases h
    · simp; omega
  | c :: t, st, i, j, h => by
    unfold chkL at h
    cases hs : stp st c.toNat (-1) with
    | none => rw [hs] at h; injection h with _ h; cases h
    | some st' =>
      rw [hs] at h
      have ih := chk_need t st' (i + 1) j h
      by_cases h0 : st.1 > 0
      · unfold stp at hs
        rw [if_pos h0] at hs
        split at hs
        · cases hs
        · have := Option.some.inj hs
          rw [← this] at ih
          simp at ih ⊢; omega
      · simp; omega
theorem chk_within : ∀ (l : List UInt8) (st : St) (i j : Int), 0 ≤ i → chkL l st i = (j, 0) → (wthL (i + l.length) l st i).2 = 0
  | [], st, i, j, hi, h => by
    unfold wthL
    rw [if_neg (by simp)]
  | c :: t, st, i, j, hi, h => by
    unfold chkL at h
    unfold wthL
    rw [if_pos (by simp; omega)]
    cases hs : stp st c.toNat (-1) with
    | none => rw [hs] at h; injection h with _ h; cases h
    | some st' =>
      rw [hs] at h
      have hn := chk_need t st' (i + 1) j h
      have e : stp st c.toNat (i + ((c :: t).length : Nat) - 1 - i) = some st' := by
        unfold stp at hs ⊢
        by_cases h0 : st.1 > 0
        · rw [if_pos h0] at hs ⊢; exact hs
        · rw [if_neg h0] at hs ⊢
          by_cases h1 : (rowOf leadRows c.toNat).2.2.1 = 0
          · rw [if_pos (.inl h1)] at hs; cases hs
          · rw [if_neg (fun h => by rcases h with h | h; exact h1 h; omega)] at hs
            have hst := Option.some.inj hs
            rw [← hst] at hn
            simp only at hn
            rw [if_neg (fun h => by rcases h with h | h; exact h1 h; simp at h; omega)]
            exact hs
      rw [e]
      have ih := chk_within t st' (i + 1) j (by omega) h
      rw [show i + ((c :: t).length : Nat) = i + 1 + (t.length : Nat) by simp; omega]
      exact ih
theorem wth_ok (s : ByteArray) (h : (chk s).2 = 0) : (wth s s.size).2 = 0 := by
  unfold wth
  unfold chk at h
  have hz : s.data.toList.length = s.size := by rw [Array.length_toList]; rfl
  have := chk_within s.data.toList st0 0 (chkL s.data.toList st0 0).1 (Int.le_refl _) (Prod.ext rfl h)
  rw [Int.zero_add, hz] at this
  rw [show max (s.size : Int) 0 = s.size by omega]
  exact this
section
variable {base rp bp bg n cap qb : Nat} {bs : List Int}
theorem conv_text (W : World) (s : ByteArray) (o c : Nat) (h : s.size = 0 ∨ BytesAt W bg o (strB s)) : (convert 26 9 (.slice (some ⟨bg, o, none⟩) s.size c)).run Tryz.prog W = .ok (.string s) W := by
  have hz : s.data.toList.length = s.size := by rw [Array.length_toList]; rfl
  have := run_convert_bytes_back (P := Tryz.prog) W 26 9 5 ⟨bg, o, none⟩ c s.data.toList Tryz.underlying26 Tryz.underlying5 Tryz.underlying9 (fun j hj => by
    rcases h with h | h
    · omega
    · rw [WideShapes.add_plain]
      exact h j _ (by unfold strB; rw [List.getElem?_map, List.getElem?_eq_getElem hj]; rfl))
  rw [hz] at this
  rw [this]
set_option maxRecDepth 100000 in
set_option maxHeartbeats 4000000 in
theorem bytes_any (pos count : Nat) (st : List PartC) (wh : Option T) (at_ : Int) (s : ByteArray) (r : List Int) (w : World) (h : Rs base rp bp bg n cap qb bs pos st wh count w) (hb : bs.drop pos = strB s ++ r) :
    Calls Tryz.prog 77 #[.pointer (some ⟨rp, 0, none⟩), .int .i64 at_, .int .u64 s.size, .bool false] w (ReadPost base rp bp bg n cap qb bs (.string s) (pos + s.size) st wh count w) := by
  have hn := h.small
  have hc := h.cap_
  have hp := h.at_
  obtain ⟨m, hm⟩ : ∃ m, s.size = m := ⟨_, rfl⟩
  have hle : pos + m ≤ n := by
    rcases bytes_len h.len hb with h' | h'
    · rw [strB_len] at h'; omega
    · have e0 := congrArg List.length h'.1
      rw [strB_len] at e0
      have e1 : s.size = 0 := e0
      omega
  obtain ⟨q, hq⟩ : ∃ q, n - pos = q := ⟨_, rfl⟩
  obtain ⟨cp, hcp⟩ : ∃ c, cap - pos = c := ⟨_, rfl⟩
  have HRoom := Lib.hid (room1 (n := n) (cap := cap) (bs := bs) (base := base) (bp := bp) (bg := bg) pos count st wh at_ m w h (by omega) (by omega))
  have HRest : Hid (∀ k, Calls Tryz.prog 111 #[.pointer (some ⟨rp, 0, none⟩)] (w.drewN k) fun e w' => ∃ o, e = .returned (.slice (some ⟨bg, o, none⟩) q cp) ∧ (pos < n → o = pos) ∧ ∃ j, w' = (w.drewN k).drewN j) := Lib.hid (fun k => by
    have := rest_any rp bp bg n cap pos (w.drewN k) (h.below (below_drewN _ w k)).rb hp hc hn
    unfold RestPost at this
    rw [hq, hcp] at this
    exact this)
  have HCv : Hid (∀ k o, (pos < n → o = pos) → (convert 26 9 (.slice (some ⟨bg, o, none⟩) m cp)).run Tryz.prog (w.drewN k) = .ok (.string s) (w.drewN k)) := Lib.hid (fun k o ho => by
    rw [← hm]
    refine conv_text _ s o cp ?_
    by_cases h0 : s.size = 0
    · exact .inl h0
    · rw [ho (by omega)]
      exact .inr (bytes_from (W := w) h.bytes hb))
  have HNeed : Hid (∀ W, Below w.heap.size w W → Calls Tryz.prog 112 #[.pointer (some ⟨rp, 0, none⟩), .int .i64 m] W (RestPost bg n cap pos W)) := Lib.hid (fun W hW => need_any pos m count st wh W (h.below hW) hle)
  have HW : Hid (∀ W, Calls Tryz.prog 116 #[.string s, .int .i64 m] W (Pair (wth s m) W)) := Lib.hid (fun W => within_any s m W (by omega) (by omega))
  have HH := Lib.hid h
  have HLE := Lib.hid hle
  have HM := Lib.hid hm
  rw [hm]
  have b1 : (m : Int) ≤ q := by omega
  have b2 : (q : Int) ≤ 1048576 := by omega
  have b3 : (m : Int) ≤ cp := by omega
  have b4 : (pos : Int) + m ≤ 1048576 := by omega
  have b5 : m ≤ cp := by omega
  have m1 : (if m < q then (m : Int) else (q : Int)) = m := by split <;> omega
  have m2 : (if m < q then Value.int .u64 m else Value.int .u64 q) = Value.int .u64 m := by split; rfl; congr 1; omega
  have c5 := h.rb.c5
  have cf := h.rb.fz 5
  clear h hb hn hc hp hq hcp hle
  go_enter Tryz.func77, Tryz.ntmps77
  go_wp2_with (first
    | (go_at_call 115; refine HRoom.out.mono ?_; rintro e w1 ⟨rfl, k1, rfl⟩)
    | (go_at_call 111; refine (HRest.out _).mono ?_; rintro e w2 ⟨o, rfl, ho, k2, rfl⟩; have hcv := HCv.out (k1 + k2) o ho; clear ho; have HB2 := Lib.hid (below_drewN w.heap.size w (k1 + k2)); have c5 := ((HH.out.below HB2.out).rb).c5)
    | (go_at_call 112; refine (HNeed.out _ HB2.out).mono ?_; rintro e w4 ⟨o2, rfl, _, k4, rfl⟩; have HB4 := Lib.hid (HB2.out.trans (below_drewN _ _ k4)); have d5 := ((HH.out.below HB4.out).rb).c5; have df := ((HH.out.below HB4.out).rb).fz 5))
  have HB5 := Lib.hid (below_drewN w.heap.size w (k1 + k2 + k4))
  have hs := (HH.out.below HB5.out).setPos (pos + m) (by have := HLE.out; omega)
  rw [Int.natCast_add] at hs
  go_ret
  exact ⟨rfl, hs.1, (HB5.out.mono HH.out.size).trans hs.2⟩
set_option maxRecDepth 100000 in
set_option maxHeartbeats 4000000 in
theorem text_read (pos count : Nat) (st : List PartC) (wh : Option T) (at_ : Int) (s : ByteArray) (r : List Int) (w : World) (h : Rs base rp bp bg n cap qb bs pos st wh count w) (hb : bs.drop pos = strB s ++ r) (hchk : (chk s).2 = 0) :
    Calls Tryz.prog 77 #[.pointer (some ⟨rp, 0, none⟩), .int .i64 at_, .int .u64 s.size, .bool true] w (ReadPost base rp bp bg n cap qb bs (.string s) (pos + s.size) st wh count w) := by
  have hn := h.small
  have hc := h.cap_
  have hp := h.at_
  obtain ⟨m, hm⟩ : ∃ m, s.size = m := ⟨_, rfl⟩
  have hle : pos + m ≤ n := by
    rcases bytes_len h.len hb with h' | h'
    · rw [strB_len] at h'; omega
    · have e0 := congrArg List.length h'.1
      rw [strB_len] at e0
      have e1 : s.size = 0 := e0
      omega
  obtain ⟨q, hq⟩ : ∃ q, n - pos = q := ⟨_, rfl⟩
  obtain ⟨cp, hcp⟩ : ∃ c, cap - pos = c := ⟨_, rfl⟩
  have HRoom := Lib.hid (room1 (n := n) (cap := cap) (bs := bs) (base := base) (bp := bp) (bg := bg) pos count st wh at_ m w h (by omega) (by omega))
  have HRest : Hid (∀ k, Calls Tryz.prog 111 #[.pointer (some ⟨rp, 0, none⟩)] (w.drewN k) fun e w' => ∃ o, e = .returned (.slice (some ⟨bg, o, none⟩) q cp) ∧ (pos < n → o = pos) ∧ ∃ j, w' = (w.drewN k).drewN j) := Lib.hid (fun k => by
    have := rest_any rp bp bg n cap pos (w.drewN k) (h.below (below_drewN _ w k)).rb hp hc hn
    unfold RestPost at this
    rw [hq, hcp] at this
    exact this)
  have HCv : Hid (∀ k o, (pos < n → o = pos) → (convert 26 9 (.slice (some ⟨bg, o, none⟩) m cp)).run Tryz.prog (w.drewN k) = .ok (.string s) (w.drewN k)) := Lib.hid (fun k o ho => by
    rw [← hm]
    refine conv_text _ s o cp ?_
    by_cases h0 : s.size = 0
    · exact .inl h0
    · rw [ho (by omega)]
      exact .inr (bytes_from (W := w) h.bytes hb))
  have HNeed : Hid (∀ W, Below w.heap.size w W → Calls Tryz.prog 112 #[.pointer (some ⟨rp, 0, none⟩), .int .i64 m] W (RestPost bg n cap pos W)) := Lib.hid (fun W hW => need_any pos m count st wh W (h.below hW) hle)
  have HW : Hid (∀ W, Calls Tryz.prog 116 #[.string s, .int .i64 m] W (Pair (wth s m) W)) := Lib.hid (fun W => within_any s m W (by omega) (by omega))
  have HH := Lib.hid h
  have HLE := Lib.hid hle
  have HM := Lib.hid hm
  rw [hm]
  have b1 : (m : Int) ≤ q := by omega
  have b2 : (q : Int) ≤ 1048576 := by omega
  have b3 : (m : Int) ≤ cp := by omega
  have b4 : (pos : Int) + m ≤ 1048576 := by omega
  have b5 : m ≤ cp := by omega
  have m1 : (if m < q then (m : Int) else (q : Int)) = m := by split <;> omega
  have m2 : (if m < q then Value.int .u64 m else Value.int .u64 q) = Value.int .u64 m := by split; rfl; congr 1; omega
  have c5 := h.rb.c5
  have cf := h.rb.fz 5
  obtain ⟨wk, hwk⟩ : ∃ k, wth s m = (k, 0) := ⟨(wth s m).1, Prod.ext rfl (by rw [← hm]; exact wth_ok s hchk)⟩
  have HW2 : Hid (∀ W, Calls Tryz.prog 116 #[.string s, .int .i64 m] W (Pair (wk, 0) W)) := Lib.hid (fun W => by have := HW.out W; rw [hwk] at this; exact this)
  clear hchk hwk HW
  clear h hb hn hc hp hq hcp hle
  go_enter Tryz.func77, Tryz.ntmps77
  go_wp2_with (first
    | (go_at_call 115; refine HRoom.out.mono ?_; rintro e w1 ⟨rfl, k1, rfl⟩)
    | (go_at_call 111; refine (HRest.out _).mono ?_; rintro e w2 ⟨o, rfl, ho, k2, rfl⟩; have hcv := HCv.out (k1 + k2) o ho; clear ho; have HB2 := Lib.hid (below_drewN w.heap.size w (k1 + k2)); have c5 := ((HH.out.below HB2.out).rb).c5)
    | (go_at_call 116; refine (HW2.out _).mono ?_; rintro e w3 ⟨rfl, hb3⟩; have HB2 := Lib.hid (HB2.out.trans (hb3.mono HB2.out.size)); have c5 := ((HH.out.below HB2.out).rb).c5)
    | (go_at_call 73; refine (fail_no _ _ _ _).mono ?_; rintro e w1 ⟨rfl, rfl⟩)
    | (go_at_call 112; refine (HNeed.out _ HB2.out).mono ?_; rintro e w4 ⟨o2, rfl, _, k4, rfl⟩; have HB4 := Lib.hid (HB2.out.trans (below_drewN _ _ k4)); have d5 := ((HH.out.below HB4.out).rb).c5; have df := ((HH.out.below HB4.out).rb).fz 5))
  have HB5 := Lib.hid (HB4.out)
  have hs := (HH.out.below HB5.out).setPos (pos + m) (by have := HLE.out; omega)
  rw [Int.natCast_add] at hs
  go_ret
  exact ⟨rfl, hs.1, (HB5.out.mono HH.out.size).trans hs.2⟩
end
end Go.Proofs.YtfmceonbejlhlaaGreatDoor

/-
  cbor's Reader: pieces.
-/
namespace Go.Proofs.YtfmceonbejlhlaaGreatDoor
open Go.RowKit Go.Proofs.YtfmceonbejlhlaaGreatDoorW.PrintWords Go.Proofs.YtfmceonbejlhlaaGreatDoorW.PrintLast Go.Proofs.YtfmceonbejlhlaaGreatDoorW.PrintMore
set_option linter.unusedVariables false

/-- The first byte of a head of the shortest form. -/
theorem putF_first (m : Nat) (n : Int) (hm : m ≤ 7) (h0 : 0 ≤ n) : ∃ (x : Int) (t : List Int), putF m n = ((m : Int) * 32 + x) :: t ∧ 0 ≤ x ∧ x ≤ 27 := by
  unfold putF
  repeat' split
  · exact ⟨n, [], rfl, h0, by omega⟩
  · exact ⟨24, _, rfl, by omega, by omega⟩
  · exact ⟨25, _, rfl, by omega, by omega⟩
  · exact ⟨26, _, rfl, by omega, by omega⟩
  · exact ⟨27, _, rfl, by omega, by omega⟩
theorem empty_append (s : ByteArray) : (⟨#[]⟩ : ByteArray) ++ s = s := ByteArray.empty_append
section
variable {base rp bp bg n cap qb : Nat} {bs : List Int}
/-- At the head of the loop over the pieces. -/
def PieceInv (base rp bp bg n cap qb : Nat) (bs : List Int) (m : Nat) (s : ByteArray) (r : List Int) (count : Nat) (st : List PartC) (wh : Option T) (w : World) (sv : Value) (wr : World) (p : Nat) : Prop :=
  ∃ x : ByteArray, sv = .string x ∧ Rs base rp bp bg n cap qb bs p st wh count wr ∧ Below base w wr ∧ ((bs.drop p = 255 :: r ∧ x = s) ∨ (bs.drop p = putF m s.size ++ (strB s ++ 255 :: r) ∧ x = ⟨#[]⟩))
set_option maxRecDepth 100000 in
set_option maxHeartbeats 8000000 in
theorem pieces_any (m : Nat) (hm : m = 2 ∨ m = 3) (p0 count : Nat) (st : List PartC) (wh : Option T) (s : ByteArray) (r : List Int) (w : World) (h : Rs base rp bp bg n cap qb bs p0 st wh count w)
    (hb : (bs.drop p0 = 255 :: r ∧ s = ⟨#[]⟩) ∨ bs.drop p0 = putF m s.size ++ (strB s ++ 255 :: r)) (hchk : m = 3 → (chk s).2 = 0) (hs : s.size ≤ 1073741824) :
    Calls Tryz.prog 76 #[.pointer (some ⟨rp, 0, none⟩), .int .i64 m] w (ReadPost base rp bp bg n cap qb bs (.string s) (n - r.length) st wh count w) := by
  have HI : Hid (PieceInv base rp bp bg n cap qb bs m s r count st wh w (.string ⟨#[]⟩) w p0) := Lib.hid (by
    refine ⟨_, rfl, h, Below.refl _ _, ?_⟩
    rcases hb with ⟨h1, h2⟩ | h1
    · exact .inl ⟨h1, h2.symm⟩
    · exact .inr ⟨h1, rfl⟩)
  have HCk := Lib.hid hchk
  clear h hb hchk
  go_enter Tryz.func76, Tryz.ntmps76
  go_wp2
  go_loopw [5] (fun sv wr => ∃ p, PieceInv base rp bp bg n cap qb bs m s r count st wh w sv wr p) (fun sv wr => match wr.cell? ⟨rp, 5, none⟩ with | some (.int _ x) => (n - x).toNat | _ => 0)
  case atStart => exact ⟨p0, HI.out⟩
  case round =>
    obtain ⟨p, x, rfl, h, hbel, hcase⟩ := hrel
    rcases hcase with ⟨hd, rfl⟩ | ⟨hd, rfl⟩
    · have hE := Lib.hid (ends_stop p count st wh r wr h hd)
      have HH := Lib.hid h
      have HD := Lib.hid hd
      clear h hd HI
      go_wp2_with (go_at_call 114; refine hE.out.mono ?_; rintro e w1 ⟨rfl, h1, hb1⟩)
      go_ret
      refine ⟨rfl, ?_, hbel.trans hb1⟩
      have hl := bytes_len (hd := [255]) (r := r) HH.out.len HD.out
      rcases hl with hl | hl
      · rw [show n - r.length = p + 1 by simp at hl; omega]; exact h1
      · simp at hl
    · have hm7 : m ≤ 7 := by omega
      have hpl := drop_more hd
      obtain ⟨fx, ft, hf, hx0, hx27⟩ := putF_first m s.size hm7 (by omega)
      have hd1 : bs.drop p = ((m : Int) * 32 + fx) :: (ft ++ (strB s ++ 255 :: r)) := by rw [hd, hf]; rfl
      obtain ⟨L, hL⟩ : ∃ L, (putF m s.size).length = L := ⟨_, rfl⟩
      have hL1 : 0 < L := by rw [← hL]; exact putF_pos m s.size
      have hE := Lib.hid (ends_any p count st wh ((m : Int) * 32 + fx) _ wr h hd1 (by omega))
      have hplen : p + L + (strB s ++ 255 :: r).length = n := by
        rcases bytes_len h.len hd with h' | h'
        · rw [hL] at h'; exact h'
        · rw [h'.1] at hL; simp at hL; omega
      rw [List.length_append, strB_len, List.length_cons] at hplen
      have hpn : p < n := by omega
      have hn := h.small
      have HRest : Hid (∀ W, Rs base rp bp bg n cap qb bs p st wh count W → Calls Tryz.prog 111 #[.pointer (some ⟨rp, 0, none⟩)] W (RestPost bg n cap p W)) := Lib.hid (fun W hW => rest_any rp bp bg n cap p W hW.rb hW.at_ hW.cap_ hW.small)
      have HHead : Hid (∀ W, Rs base rp bp bg n cap qb bs p st wh count W → Calls Tryz.prog 74 #[.pointer (some ⟨rp, 0, none⟩)] W (ReadPost base rp bp bg n cap qb bs (.tuple #[.int .i64 m, .int .i64 (infoF s.size), .int .u64 s.size]) (p + L) st wh count W)) := Lib.hid (fun W hW => by
        have := rhead_any p count st wh W hW _ _ hd m (infoF s.size) s.size (heads_put m s.size hm7 (by omega) (by omega) (by omega))
        rw [hL] at this
        exact this)
      rw [hL] at hpl
      have HText : Hid (∀ W at_, Rs base rp bp bg n cap qb bs (p + L) st wh count W → Calls Tryz.prog 77 #[.pointer (some ⟨rp, 0, none⟩), .int .i64 at_, .int .u64 s.size, .bool ((m : Int) == 3)] W (ReadPost base rp bp bg n cap qb bs (.string s) (p + L + s.size) st wh count W)) := Lib.hid (fun W at_ hW => by
        rcases hm with rfl | rfl
        · exact bytes_any (p + L) count st wh at_ s _ W hW hpl
        · exact text_read (p + L) count st wh at_ s _ W hW hpl (HCk.out rfl))
      have hdone : bs.drop (p + L + s.size) = 255 :: r := by
        have := drop_more hpl
        rwa [strB_len] at this
      have HDone := Lib.hid hdone
      have HCell : Hid (∀ W, Rs base rp bp bg n cap qb bs p st wh count W → W.cell? ⟨bg, p, none⟩ = some (.int .u8 ((m : Int) * 32 + fx))) := Lib.hid (fun W hW => by
        have := bytes_from (hd := [(m : Int) * 32 + fx]) (r := ft ++ (strB s ++ 255 :: r)) hW.bytes hd1 0 _ rfl
        rwa [Nat.add_zero] at this)
      have HMS : Hid (p + L + s.size < n + 1 ∧ p < p + L + s.size) := Lib.hid (by omega)
      have z1 : ((m : Int) * 32 + fx) / 32 = m := by omega
      have z2 := and31 m fx hm7 hx0 (by omega)
      have z3 : ((m : Int) != m) = false := by simp
      have z4 : decide ((27 : Int) < fx) = false := decide_eq_false (by omega)
      have z5 := empty_append s
      have HPN := Lib.hid hpn
      have hnp1 : (0 : Int) < ((n - p : Nat) : Int) := by omega
      have hnp2 : 0 < n - p := by omega
      have hmm := h.rb.c5
      clear h hd hd1 hf hpl hL hplen HI hdone hpn hm hn
      go_wp2_with (first
        | (go_at_call 114; refine hE.out.mono ?_; rintro e w1 ⟨rfl, h1, hb1⟩; have H1 := Lib.hid h1; have c5 := h1.rb.c5; clear h1)
        | (go_at_call 111; refine (HRest.out _ H1.out).mono ?_; rintro e w2 ⟨o, rfl, ho, k, rfl⟩; (obtain rfl : o = p := ho HPN.out); have H2 := Lib.hid (H1.out.below (below_drewN _ w1 k)); have cc := HCell.out _ H1.out)
        | (go_at_call 73; refine (fail_no _ _ _ _).mono ?_; rintro e w1 ⟨rfl, rfl⟩)
        | (go_at_call 74; refine (HHead.out _ H2.out).mono ?_; rintro e w3 ⟨rfl, h3, hb3⟩; have H3 := Lib.hid h3; clear h3)
        | (go_at_call 77; refine (HText.out _ _ H3.out).mono ?_; rintro e w4 ⟨rfl, h4, hb4⟩; have H4 := Lib.hid h4; clear h4))
      refine ⟨⟨o + L + s.size, s, rfl, H4.out, hbel.trans ((hb1.trans (below_drewN _ _ _)).trans (hb3.trans hb4)), .inl ⟨HDone.out, rfl⟩⟩, ?_⟩
      rw [H4.out.rb.c5, hmm]
      have := HMS.out
      show ((n : Int) - ((o + L + s.size : Nat) : Int)).toNat < ((n : Int) - (o : Int)).toNat
      omega
end
end Go.Proofs.YtfmceonbejlhlaaGreatDoor

/-
  cbor's Reader: item, by its head's major.
-/
namespace Go.Proofs.YtfmceonbejlhlaaGreatDoor
open Go.RowKit Go.Proofs.YtfmceonbejlhlaaGreatDoorW.PrintWords Go.Proofs.YtfmceonbejlhlaaGreatDoorW.PrintLast Go.Proofs.YtfmceonbejlhlaaGreatDoorW.PrintMore
set_option linter.unusedVariables false

/-- The event of a head of the major 7. -/
def otherF (info n : Int) : Int × Int := if info = 20 ∨ info = 21 then (1, n - 20) else if info = 22 then (0, 0) else if info = 23 then (2, 0) else if info = 25 ∨ info = 26 ∨ info = 27 then (info - 19, n) else (3, n)
def OtherPost (info n : Int) (w : World) (e : Ending) (w' : World) : Prop := e = .returned (.agg #[.int .i64 (otherF info n).1, .bool false, .int .u64 (otherF info n).2, .string ⟨#[]⟩]) ∧ Below w.heap.size w w'
section
variable {base rp bp bg n cap qb : Nat} {bs : List Int}
/-- Event puts this. -/
def Evs (base rp bp bg n cap qb : Nat) (bs : List Int) (pos count : Nat) (st : List PartC) (k : Int) (neg : Bool) (nn : Int) (s : ByteArray) (st' : List PartC) (wh' : Option T) (count' : Nat) : Prop :=
  ∀ W at_, Rs base rp bp bg n cap qb bs pos st none count W → Calls Tryz.prog 75 #[.pointer (some ⟨rp, 0, none⟩), .int .i64 at_, .agg #[.int .i64 k, .bool neg, .int .u64 nn, .string s]] W (ReadPost base rp bp bg n cap qb bs (.tuple #[]) pos st' wh' count' W)
theorem evs_of_puts {pos count count' : Nat} {st st' : List PartC} {k nn : Int} {neg : Bool} {s : ByteArray} {wh' : Option T} (h : Puts base bp st count k neg nn s st' wh' count') : Evs base rp bp bg n cap qb bs pos count st k neg nn s st' wh' count' :=
  fun W at_ hW => event_any pos count count' st st' wh' at_ k nn neg s W hW h
set_option maxRecDepth 100000 in
set_option maxHeartbeats 4000000 in
theorem item_num0 (pos count count' : Nat) (st st' : List PartC) (wh' : Option T) (w : World) (h : Rs base rp bp bg n cap qb bs pos st none count w) (hd r : List Int) (hb : bs.drop pos = hd ++ r) (info x : Int) (hh : Heads hd 0 info x)
    (hE : Evs base rp bp bg n cap qb bs (pos + hd.length) count st 4 false x ⟨#[]⟩ st' wh' count') :
    Calls Tryz.prog 46 #[.pointer (some ⟨rp, 0, none⟩)] w (ReadPost base rp bp bg n cap qb bs (.tuple #[]) (pos + hd.length) st' wh' count' w) := by
  have HHd := Lib.hid (rhead_any pos count st none w h hd r hb 0 info x hh)
  have c5 := h.rb.c5
  have HE := Lib.hid hE
  clear h hb hh hE
  go_enter Tryz.func46, Tryz.ntmps46
  go_wp2_with (first
    | (go_at_call 74; refine HHd.out.mono ?_; rintro e w1 ⟨rfl, h1, hb1⟩; have H1 := Lib.hid h1; clear h1)
    | (go_at_call 75; refine (HE.out _ _ H1.out).mono ?_; rintro e w2 ⟨rfl, h2, hb2⟩))
  go_end0
  exact ⟨rfl, h2, hb1.trans hb2⟩
set_option maxRecDepth 100000 in
set_option maxHeartbeats 4000000 in
theorem item_num1 (pos count count' : Nat) (st st' : List PartC) (wh' : Option T) (w : World) (h : Rs base rp bp bg n cap qb bs pos st none count w) (hd r : List Int) (hb : bs.drop pos = hd ++ r) (info x : Int) (hh : Heads hd 1 info x)
    (hE : Evs base rp bp bg n cap qb bs (pos + hd.length) count st 4 true x ⟨#[]⟩ st' wh' count') :
    Calls Tryz.prog 46 #[.pointer (some ⟨rp, 0, none⟩)] w (ReadPost base rp bp bg n cap qb bs (.tuple #[]) (pos + hd.length) st' wh' count' w) := by
  have HHd := Lib.hid (rhead_any pos count st none w h hd r hb 1 info x hh)
  have c5 := h.rb.c5
  have HE := Lib.hid hE
  clear h hb hh hE
  go_enter Tryz.func46, Tryz.ntmps46
  go_wp2_with (first
    | (go_at_call 74; refine HHd.out.mono ?_; rintro e w1 ⟨rfl, h1, hb1⟩; have H1 := Lib.hid h1; clear h1)
    | (go_at_call 75; refine (HE.out _ _ H1.out).mono ?_; rintro e w2 ⟨rfl, h2, hb2⟩))
  go_end0
  exact ⟨rfl, h2, hb1.trans hb2⟩
set_option maxRecDepth 100000 in
set_option maxHeartbeats 4000000 in
theorem item_seven (pos count count' : Nat) (st st' : List PartC) (wh' : Option T) (w : World) (h : Rs base rp bp bg n cap qb bs pos st none count w) (hd r : List Int) (hb : bs.drop pos = hd ++ r) (info x : Int) (hh : Heads hd 7 info x) (hi : info ≠ 31)
    (hO : ∀ W, Calls Tryz.prog 80 #[.int .i64 info, .int .u64 x] W (OtherPost info x W))
    (hE : Evs base rp bp bg n cap qb bs (pos + hd.length) count st (otherF info x).1 false (otherF info x).2 ⟨#[]⟩ st' wh' count') :
    Calls Tryz.prog 46 #[.pointer (some ⟨rp, 0, none⟩)] w (ReadPost base rp bp bg n cap qb bs (.tuple #[]) (pos + hd.length) st' wh' count' w) := by
  have HHd := Lib.hid (rhead_any pos count st none w h hd r hb 7 info x hh)
  have c5 := h.rb.c5
  have HE := Lib.hid hE
  have HO := Lib.hid hO
  have q1 : (info == 31) = false := by simpa using hi
  clear h hb hh hE hO hi
  go_enter Tryz.func46, Tryz.ntmps46
  go_wp2_with (first
    | (go_at_call 74; refine HHd.out.mono ?_; rintro e w1 ⟨rfl, h1, hb1⟩; have H1 := Lib.hid h1; clear h1)
    | (go_at_call 73; refine (fail_no _ _ _ _).mono ?_; rintro e w2 ⟨rfl, rfl⟩)
    | (go_at_call 80; refine (HO.out _).mono ?_; rintro e w2 ⟨rfl, hb2⟩; have H2 := Lib.hid (H1.out.below hb2))
    | (go_at_call 75; refine (HE.out _ _ H2.out).mono ?_; rintro e w3 ⟨rfl, h3, hb3⟩))
  go_end0
  exact ⟨rfl, h3, (hb1.trans (hb2.mono H1.out.size)).trans hb3⟩
set_option maxRecDepth 100000 in
set_option maxHeartbeats 4000000 in
theorem item_tag (pos pos' count count1 count' : Nat) (st st1 st' : List PartC) (wh' : Option T) (w : World) (h : Rs base rp bp bg n cap qb bs pos st none count w) (hd r : List Int) (hb : bs.drop pos = hd ++ r) (info x : Int) (hh : Heads hd 6 info x)
    (hE : Evs base rp bp bg n cap qb bs (pos + hd.length) count st 13 false x ⟨#[]⟩ st1 none count1)
    (hI : ∀ W, Rs base rp bp bg n cap qb bs (pos + hd.length) st1 none count1 W → Calls Tryz.prog 46 #[.pointer (some ⟨rp, 0, none⟩)] W (ReadPost base rp bp bg n cap qb bs (.tuple #[]) pos' st' wh' count' W)) :
    Calls Tryz.prog 46 #[.pointer (some ⟨rp, 0, none⟩)] w (ReadPost base rp bp bg n cap qb bs (.tuple #[]) pos' st' wh' count' w) := by
  have HHd := Lib.hid (rhead_any pos count st none w h hd r hb 6 info x hh)
  have c5 := h.rb.c5
  have HE := Lib.hid hE
  have HI := Lib.hid hI
  clear h hb hh hE hI
  go_enter Tryz.func46, Tryz.ntmps46
  go_wp2_with (first
    | (go_at_call 74; refine HHd.out.mono ?_; rintro e w1 ⟨rfl, h1, hb1⟩; have H1 := Lib.hid h1; clear h1)
    | (go_at_call 75; refine (HE.out _ _ H1.out).mono ?_; rintro e w2 ⟨rfl, h2, hb2⟩; have H2 := Lib.hid h2; clear h2)
    | (go_at_call 46; refine (HI.out _ H2.out).mono ?_; rintro e w3 ⟨rfl, h3, hb3⟩))
  go_end0
  exact ⟨rfl, h3, (hb1.trans hb2).trans hb3⟩
set_option maxRecDepth 100000 in
set_option maxHeartbeats 4000000 in
theorem item_str2o (pos pos' count count' : Nat) (st st' : List PartC) (wh' : Option T) (w : World) (s : ByteArray) (h : Rs base rp bp bg n cap qb bs pos st none count w) (hd r : List Int) (hb : bs.drop pos = hd ++ r) (info x : Int) (hh : Heads hd 2 info x) (hi : info = 31) (hT : ∀ W (_ : Int), Rs base rp bp bg n cap qb bs (pos + hd.length) st none count W → Calls Tryz.prog 76 #[.pointer (some ⟨rp, 0, none⟩), .int .i64 2] W (ReadPost base rp bp bg n cap qb bs (.string s) pos' st none count W))
    (hBig : ∀ W, Rs base rp bp bg n cap qb bs pos' st none count W → Calls Tryz.prog 78 #[.pointer (some ⟨bp, 0, none⟩), .string s] W (Ret (.bool false) W)) 
    (hE : Evs base rp bp bg n cap qb bs pos' count st 9 false 0 s st' wh' count') :
    Calls Tryz.prog 46 #[.pointer (some ⟨rp, 0, none⟩)] w (ReadPost base rp bp bg n cap qb bs (.tuple #[]) pos' st' wh' count' w) := by
  have HHd := Lib.hid (rhead_any pos count st none w h hd r hb 2 info x hh)
  have c5 := h.rb.c5
  have HE := Lib.hid hE
  have HT := Lib.hid hT
  have HBig := Lib.hid hBig
  subst hi
  clear h hb hh hE hT hBig
  go_enter Tryz.func46, Tryz.ntmps46
  go_wp2_with (first
    | (go_at_call 74; refine HHd.out.mono ?_; rintro e w1 ⟨rfl, h1, hb1⟩; have H1 := Lib.hid h1; clear h1)
    | (go_at_call 76; refine (HT.out _ 0 H1.out).mono ?_; rintro e w2 ⟨rfl, h2, hb2⟩; have c0 := h2.rb.c0; have H2 := Lib.hid h2; clear h2)
    | (go_at_call 78; refine (HBig.out _ H2.out).mono ?_; rintro e w3 ⟨rfl, hb3⟩; have H3 := Lib.hid (H2.out.below hb3))
    | (go_at_call 75; refine (HE.out _ _ H3.out).mono ?_; rintro e w4 ⟨rfl, h4, hb4⟩))
  go_end0
  exact ⟨rfl, h4, ((hb1.trans hb2).trans (hb3.mono H2.out.size)).trans hb4⟩
set_option maxRecDepth 100000 in
set_option maxHeartbeats 4000000 in
theorem item_str2c (pos pos' count count' : Nat) (st st' : List PartC) (wh' : Option T) (w : World) (s : ByteArray) (h : Rs base rp bp bg n cap qb bs pos st none count w) (hd r : List Int) (hb : bs.drop pos = hd ++ r) (info x : Int) (hh : Heads hd 2 info x) (hi : info ≠ 31) (hT : ∀ W at_, Rs base rp bp bg n cap qb bs (pos + hd.length) st none count W → Calls Tryz.prog 77 #[.pointer (some ⟨rp, 0, none⟩), .int .i64 at_, .int .u64 x, .bool false] W (ReadPost base rp bp bg n cap qb bs (.string s) pos' st none count W))
    (hBig : ∀ W, Rs base rp bp bg n cap qb bs pos' st none count W → Calls Tryz.prog 78 #[.pointer (some ⟨bp, 0, none⟩), .string s] W (Ret (.bool false) W)) 
    (hE : Evs base rp bp bg n cap qb bs pos' count st 9 false 0 s st' wh' count') :
    Calls Tryz.prog 46 #[.pointer (some ⟨rp, 0, none⟩)] w (ReadPost base rp bp bg n cap qb bs (.tuple #[]) pos' st' wh' count' w) := by
  have HHd := Lib.hid (rhead_any pos count st none w h hd r hb 2 info x hh)
  have c5 := h.rb.c5
  have HE := Lib.hid hE
  have HT := Lib.hid hT
  have HBig := Lib.hid hBig
  have q1 : (info == 31) = false := by simpa using hi
  clear hi
  clear h hb hh hE hT hBig
  go_enter Tryz.func46, Tryz.ntmps46
  go_wp2_with (first
    | (go_at_call 74; refine HHd.out.mono ?_; rintro e w1 ⟨rfl, h1, hb1⟩; have H1 := Lib.hid h1; clear h1)
    | (go_at_call 77; refine (HT.out _ _ H1.out).mono ?_; rintro e w2 ⟨rfl, h2, hb2⟩; have c0 := h2.rb.c0; have H2 := Lib.hid h2; clear h2)
    | (go_at_call 78; refine (HBig.out _ H2.out).mono ?_; rintro e w3 ⟨rfl, hb3⟩; have H3 := Lib.hid (H2.out.below hb3))
    | (go_at_call 75; refine (HE.out _ _ H3.out).mono ?_; rintro e w4 ⟨rfl, h4, hb4⟩))
  go_end0
  exact ⟨rfl, h4, ((hb1.trans hb2).trans (hb3.mono H2.out.size)).trans hb4⟩
set_option maxRecDepth 100000 in
set_option maxHeartbeats 4000000 in
theorem item_str3o (pos pos' count count' : Nat) (st st' : List PartC) (wh' : Option T) (w : World) (s : ByteArray) (h : Rs base rp bp bg n cap qb bs pos st none count w) (hd r : List Int) (hb : bs.drop pos = hd ++ r) (info x : Int) (hh : Heads hd 3 info x) (hi : info = 31) (hT : ∀ W (_ : Int), Rs base rp bp bg n cap qb bs (pos + hd.length) st none count W → Calls Tryz.prog 76 #[.pointer (some ⟨rp, 0, none⟩), .int .i64 3] W (ReadPost base rp bp bg n cap qb bs (.string s) pos' st none count W))
    (hBig : True) 
    (hE : Evs base rp bp bg n cap qb bs pos' count st 10 false 0 s st' wh' count') :
    Calls Tryz.prog 46 #[.pointer (some ⟨rp, 0, none⟩)] w (ReadPost base rp bp bg n cap qb bs (.tuple #[]) pos' st' wh' count' w) := by
  have HHd := Lib.hid (rhead_any pos count st none w h hd r hb 3 info x hh)
  have c5 := h.rb.c5
  have HE := Lib.hid hE
  have HT := Lib.hid hT
  have HBig := Lib.hid hBig
  subst hi
  clear h hb hh hE hT hBig
  go_enter Tryz.func46, Tryz.ntmps46
  go_wp2_with (first
    | (go_at_call 74; refine HHd.out.mono ?_; rintro e w1 ⟨rfl, h1, hb1⟩; have H1 := Lib.hid h1; clear h1)
    | (go_at_call 76; refine (HT.out _ 0 H1.out).mono ?_; rintro e w2 ⟨rfl, h2, hb2⟩; have c0 := h2.rb.c0; have H2 := Lib.hid h2; clear h2)
    | (go_at_call 78; refine (HBig.out _ H2.out).mono ?_; rintro e w3 ⟨rfl, hb3⟩; have H3 := Lib.hid (H2.out.below hb3))
    | (go_at_call 75; refine (HE.out _ _ H2.out).mono ?_; rintro e w4 ⟨rfl, h4, hb4⟩))
  go_end0
  exact ⟨rfl, h4, (hb1.trans hb2).trans hb4⟩
set_option maxRecDepth 100000 in
set_option maxHeartbeats 4000000 in
theorem item_str3c (pos pos' count count' : Nat) (st st' : List PartC) (wh' : Option T) (w : World) (s : ByteArray) (h : Rs base rp bp bg n cap qb bs pos st none count w) (hd r : List Int) (hb : bs.drop pos = hd ++ r) (info x : Int) (hh : Heads hd 3 info x) (hi : info ≠ 31) (hT : ∀ W at_, Rs base rp bp bg n cap qb bs (pos + hd.length) st none count W → Calls Tryz.prog 77 #[.pointer (some ⟨rp, 0, none⟩), .int .i64 at_, .int .u64 x, .bool true] W (ReadPost base rp bp bg n cap qb bs (.string s) pos' st none count W))
    (hBig : True) 
    (hE : Evs base rp bp bg n cap qb bs pos' count st 10 false 0 s st' wh' count') :
    Calls Tryz.prog 46 #[.pointer (some ⟨rp, 0, none⟩)] w (ReadPost base rp bp bg n cap qb bs (.tuple #[]) pos' st' wh' count' w) := by
  have HHd := Lib.hid (rhead_any pos count st none w h hd r hb 3 info x hh)
  have c5 := h.rb.c5
  have HE := Lib.hid hE
  have HT := Lib.hid hT
  have HBig := Lib.hid hBig
  have q1 : (info == 31) = false := by simpa using hi
  clear hi
  clear h hb hh hE hT hBig
  go_enter Tryz.func46, Tryz.ntmps46
  go_wp2_with (first
    | (go_at_call 74; refine HHd.out.mono ?_; rintro e w1 ⟨rfl, h1, hb1⟩; have H1 := Lib.hid h1; clear h1)
    | (go_at_call 77; refine (HT.out _ _ H1.out).mono ?_; rintro e w2 ⟨rfl, h2, hb2⟩; have c0 := h2.rb.c0; have H2 := Lib.hid h2; clear h2)
    | (go_at_call 78; refine (HBig.out _ H2.out).mono ?_; rintro e w3 ⟨rfl, hb3⟩; have H3 := Lib.hid (H2.out.below hb3))
    | (go_at_call 75; refine (HE.out _ _ H2.out).mono ?_; rintro e w4 ⟨rfl, h4, hb4⟩))
  go_end0
  exact ⟨rfl, h4, (hb1.trans hb2).trans hb4⟩
end
end Go.Proofs.YtfmceonbejlhlaaGreatDoor

/-
  cbor's Reader: bytes that are a great number; other.
-/
namespace Go.Proofs.YtfmceonbejlhlaaGreatDoor
open Go.RowKit Go.Proofs.YtfmceonbejlhlaaGreatDoorW.PrintWords Go.Proofs.YtfmceonbejlhlaaGreatDoorW.PrintLast Go.Proofs.YtfmceonbejlhlaaGreatDoorW.PrintMore
set_option linter.unusedVariables false

section
variable {base rp bp bg n cap qb : Nat} {bs : List Int}
set_option maxRecDepth 100000 in
set_option maxHeartbeats 4000000 in
theorem item_bigo (pos pos' count count' : Nat) (st st' : List PartC) (wh' : Option T) (w : World) (s : ByteArray) (h : Rs base rp bp bg n cap qb bs pos st none count w) (hd r : List Int) (hb : bs.drop pos = hd ++ r) (info x : Int) (hh : Heads hd 2 info x) (hi : info = 31) (hT : ∀ W (_ : Int), Rs base rp bp bg n cap qb bs (pos + hd.length) st none count W → Calls Tryz.prog 76 #[.pointer (some ⟨rp, 0, none⟩), .int .i64 2] W (ReadPost base rp bp bg n cap qb bs (.string s) pos' st none count W))
    (hBig : ∀ W, Rs base rp bp bg n cap qb bs pos' st none count W → Calls Tryz.prog 78 #[.pointer (some ⟨bp, 0, none⟩), .string s] W (BuildPost base bp (.bool true) st' wh' count' W)) :
    Calls Tryz.prog 46 #[.pointer (some ⟨rp, 0, none⟩)] w (ReadPost base rp bp bg n cap qb bs (.tuple #[]) pos' st' wh' count' w) := by
  have HHd := Lib.hid (rhead_any pos count st none w h hd r hb 2 info x hh)
  have c5 := h.rb.c5
  have HT := Lib.hid hT
  have HBig := Lib.hid hBig
  subst hi
  clear h hb hh hT hBig
  go_enter Tryz.func46, Tryz.ntmps46
  go_wp2_with (first
    | (go_at_call 74; refine HHd.out.mono ?_; rintro e w1 ⟨rfl, h1, hb1⟩; have H1 := Lib.hid h1; clear h1)
    | (go_at_call 76; refine (HT.out _ 0 H1.out).mono ?_; rintro e w2 ⟨rfl, h2, hb2⟩; have c0 := h2.rb.c0; have H2 := Lib.hid h2; clear h2)
    | (go_at_call 78; refine (HBig.out _ H2.out).mono ?_; rintro e w3 ⟨rfl, hbi, hbt⟩))
  go_end0
  exact ⟨rfl, H2.out.built hbi hbt, (hb1.trans hb2).trans hbt.1⟩
set_option maxRecDepth 100000 in
set_option maxHeartbeats 4000000 in
theorem item_bigc (pos pos' count count' : Nat) (st st' : List PartC) (wh' : Option T) (w : World) (s : ByteArray) (h : Rs base rp bp bg n cap qb bs pos st none count w) (hd r : List Int) (hb : bs.drop pos = hd ++ r) (info x : Int) (hh : Heads hd 2 info x) (hi : info ≠ 31) (hT : ∀ W at_, Rs base rp bp bg n cap qb bs (pos + hd.length) st none count W → Calls Tryz.prog 77 #[.pointer (some ⟨rp, 0, none⟩), .int .i64 at_, .int .u64 x, .bool false] W (ReadPost base rp bp bg n cap qb bs (.string s) pos' st none count W))
    (hBig : ∀ W, Rs base rp bp bg n cap qb bs pos' st none count W → Calls Tryz.prog 78 #[.pointer (some ⟨bp, 0, none⟩), .string s] W (BuildPost base bp (.bool true) st' wh' count' W)) :
    Calls Tryz.prog 46 #[.pointer (some ⟨rp, 0, none⟩)] w (ReadPost base rp bp bg n cap qb bs (.tuple #[]) pos' st' wh' count' w) := by
  have HHd := Lib.hid (rhead_any pos count st none w h hd r hb 2 info x hh)
  have c5 := h.rb.c5
  have HT := Lib.hid hT
  have HBig := Lib.hid hBig
  have q1 : (info == 31) = false := by simpa using hi
  clear hi
  clear h hb hh hT hBig
  go_enter Tryz.func46, Tryz.ntmps46
  go_wp2_with (first
    | (go_at_call 74; refine HHd.out.mono ?_; rintro e w1 ⟨rfl, h1, hb1⟩; have H1 := Lib.hid h1; clear h1)
    | (go_at_call 77; refine (HT.out _ _ H1.out).mono ?_; rintro e w2 ⟨rfl, h2, hb2⟩; have c0 := h2.rb.c0; have H2 := Lib.hid h2; clear h2)
    | (go_at_call 78; refine (HBig.out _ H2.out).mono ?_; rintro e w3 ⟨rfl, hbi, hbt⟩))
  go_end0
  exact ⟨rfl, H2.out.built hbi hbt, (hb1.trans hb2).trans hbt.1⟩
end
set_option maxRecDepth 100000 in
set_option maxHeartbeats 4000000 in
theorem other20 (n : Int) (h0 : 0 ≤ n) (h1 : n < 18446744073709551616) (h2 : 20 ≤ n) (w : World) : Calls Tryz.prog 80 #[.int .i64 20, .int .u64 n] w (fun e w' => e = .returned (.agg #[.int .i64 1, .bool false, .int .u64 (n - 20), .string ⟨#[]⟩]) ∧ Below w.heap.size w w') := by
  have B := Blk.new w 141 #[.int .i64 1, .bool false, .int .u64 (n - 20), .string ⟨#[]⟩]
  have b0 := B.cell (i := 0) rfl
  have b1 := B.cell (i := 1) rfl
  have b2 := B.cell (i := 2) rfl
  have b3 := B.cell (i := 3) rfl
  go_enter Tryz.func80, Tryz.ntmps80
  go_wp2
  exact bodyPost_ret (v := .agg #[.int .i64 1, .bool false, .int .u64 (n - 20), .string ⟨#[]⟩]) (by simp [results, Tryz.results80, go_sem, b0, b1, b2, b3]) rfl ⟨rfl, (Below.refl _ _).alloc (Nat.le_refl _) _⟩
set_option maxRecDepth 100000 in
set_option maxHeartbeats 4000000 in
theorem other21 (n : Int) (h0 : 0 ≤ n) (h1 : n < 18446744073709551616) (h2 : 20 ≤ n) (w : World) : Calls Tryz.prog 80 #[.int .i64 21, .int .u64 n] w (fun e w' => e = .returned (.agg #[.int .i64 1, .bool false, .int .u64 (n - 20), .string ⟨#[]⟩]) ∧ Below w.heap.size w w') := by
  have B := Blk.new w 141 #[.int .i64 1, .bool false, .int .u64 (n - 20), .string ⟨#[]⟩]
  have b0 := B.cell (i := 0) rfl
  have b1 := B.cell (i := 1) rfl
  have b2 := B.cell (i := 2) rfl
  have b3 := B.cell (i := 3) rfl
  go_enter Tryz.func80, Tryz.ntmps80
  go_wp2
  exact bodyPost_ret (v := .agg #[.int .i64 1, .bool false, .int .u64 (n - 20), .string ⟨#[]⟩]) (by simp [results, Tryz.results80, go_sem, b0, b1, b2, b3]) rfl ⟨rfl, (Below.refl _ _).alloc (Nat.le_refl _) _⟩
set_option maxRecDepth 100000 in
set_option maxHeartbeats 4000000 in
theorem other22 (n : Int) (h0 : 0 ≤ n) (h1 : n < 18446744073709551616) (w : World) : Calls Tryz.prog 80 #[.int .i64 22, .int .u64 n] w (fun e w' => e = .returned (.agg #[.int .i64 0, .bool false, .int .u64 0, .string ⟨#[]⟩]) ∧ Below w.heap.size w w') := by
  have B := Blk.new w 141 #[.int .i64 0, .bool false, .int .u64 0, .string ⟨#[]⟩]
  have b0 := B.cell (i := 0) rfl
  have b1 := B.cell (i := 1) rfl
  have b2 := B.cell (i := 2) rfl
  have b3 := B.cell (i := 3) rfl
  go_enter Tryz.func80, Tryz.ntmps80
  go_wp2
  exact bodyPost_ret (v := .agg #[.int .i64 0, .bool false, .int .u64 0, .string ⟨#[]⟩]) (by simp [results, Tryz.results80, go_sem, b0, b1, b2, b3]) rfl ⟨rfl, (Below.refl _ _).alloc (Nat.le_refl _) _⟩
set_option maxRecDepth 100000 in
set_option maxHeartbeats 4000000 in
theorem other23 (n : Int) (h0 : 0 ≤ n) (h1 : n < 18446744073709551616) (w : World) : Calls Tryz.prog 80 #[.int .i64 23, .int .u64 n] w (fun e w' => e = .returned (.agg #[.int .i64 2, .bool false, .int .u64 0, .string ⟨#[]⟩]) ∧ Below w.heap.size w w') := by
  have B := Blk.new w 141 #[.int .i64 2, .bool false, .int .u64 0, .string ⟨#[]⟩]
  have b0 := B.cell (i := 0) rfl
  have b1 := B.cell (i := 1) rfl
  have b2 := B.cell (i := 2) rfl
  have b3 := B.cell (i := 3) rfl
  go_enter Tryz.func80, Tryz.ntmps80
  go_wp2
  exact bodyPost_ret (v := .agg #[.int .i64 2, .bool false, .int .u64 0, .string ⟨#[]⟩]) (by simp [results, Tryz.results80, go_sem, b0, b1, b2, b3]) rfl ⟨rfl, (Below.refl _ _).alloc (Nat.le_refl _) _⟩
set_option maxRecDepth 100000 in
set_option maxHeartbeats 4000000 in
theorem other25 (n : Int) (h0 : 0 ≤ n) (h1 : n < 18446744073709551616) (w : World) : Calls Tryz.prog 80 #[.int .i64 25, .int .u64 n] w (fun e w' => e = .returned (.agg #[.int .i64 6, .bool false, .int .u64 n, .string ⟨#[]⟩]) ∧ Below w.heap.size w w') := by
  have B := Blk.new w 141 #[.int .i64 6, .bool false, .int .u64 n, .string ⟨#[]⟩]
  have b0 := B.cell (i := 0) rfl
  have b1 := B.cell (i := 1) rfl
  have b2 := B.cell (i := 2) rfl
  have b3 := B.cell (i := 3) rfl
  go_enter Tryz.func80, Tryz.ntmps80
  go_wp2
  exact bodyPost_ret (v := .agg #[.int .i64 6, .bool false, .int .u64 n, .string ⟨#[]⟩]) (by simp [results, Tryz.results80, go_sem, b0, b1, b2, b3]) rfl ⟨rfl, (Below.refl _ _).alloc (Nat.le_refl _) _⟩
set_option maxRecDepth 100000 in
set_option maxHeartbeats 4000000 in
theorem other26 (n : Int) (h0 : 0 ≤ n) (h1 : n < 18446744073709551616) (w : World) : Calls Tryz.prog 80 #[.int .i64 26, .int .u64 n] w (fun e w' => e = .returned (.agg #[.int .i64 7, .bool false, .int .u64 n, .string ⟨#[]⟩]) ∧ Below w.heap.size w w') := by
  have B := Blk.new w 141 #[.int .i64 7, .bool false, .int .u64 n, .string ⟨#[]⟩]
  have b0 := B.cell (i := 0) rfl
  have b1 := B.cell (i := 1) rfl
  have b2 := B.cell (i := 2) rfl
  have b3 := B.cell (i := 3) rfl
  go_enter Tryz.func80, Tryz.ntmps80
  go_wp2
  exact bodyPost_ret (v := .agg #[.int .i64 7, .bool false, .int .u64 n, .string ⟨#[]⟩]) (by simp [results, Tryz.results80, go_sem, b0, b1, b2, b3]) rfl ⟨rfl, (Below.refl _ _).alloc (Nat.le_refl _) _⟩
set_option maxRecDepth 100000 in
set_option maxHeartbeats 4000000 in
theorem other27 (n : Int) (h0 : 0 ≤ n) (h1 : n < 18446744073709551616) (w : World) : Calls Tryz.prog 80 #[.int .i64 27, .int .u64 n] w (fun e w' => e = .returned (.agg #[.int .i64 8, .bool false, .int .u64 n, .string ⟨#[]⟩]) ∧ Below w.heap.size w w') := by
  have B := Blk.new w 141 #[.int .i64 8, .bool false, .int .u64 n, .string ⟨#[]⟩]
  have b0 := B.cell (i := 0) rfl
  have b1 := B.cell (i := 1) rfl
  have b2 := B.cell (i := 2) rfl
  have b3 := B.cell (i := 3) rfl
  go_enter Tryz.func80, Tryz.ntmps80
  go_wp2
  exact bodyPost_ret (v := .agg #[.int .i64 8, .bool false, .int .u64 n, .string ⟨#[]⟩]) (by simp [results, Tryz.results80, go_sem, b0, b1, b2, b3]) rfl ⟨rfl, (Below.refl _ _).alloc (Nat.le_refl _) _⟩
set_option maxRecDepth 100000 in
set_option maxHeartbeats 4000000 in
theorem other_rest (n : Int) (h0 : 0 ≤ n) (h1 : n < 18446744073709551616) (info : Int) (h2 : ¬ (info = 20 ∨ info = 21 ∨ info = 22 ∨ info = 23 ∨ info = 25 ∨ info = 26 ∨ info = 27)) (w : World) : Calls Tryz.prog 80 #[.int .i64 info, .int .u64 n] w (fun e w' => e = .returned (.agg #[.int .i64 3, .bool false, .int .u64 n, .string ⟨#[]⟩]) ∧ Below w.heap.size w w') := by
  have q20 : (info == 20) = false := by simp; omega
  have q21 : (info == 21) = false := by simp; omega
  have q22 : (info == 22) = false := by simp; omega
  have q23 : (info == 23) = false := by simp; omega
  have q25 : (info == 25) = false := by simp; omega
  have q26 : (info == 26) = false := by simp; omega
  have q27 : (info == 27) = false := by simp; omega
  clear h2
  have B := Blk.new w 141 #[.int .i64 3, .bool false, .int .u64 n, .string ⟨#[]⟩]
  have b0 := B.cell (i := 0) rfl
  have b1 := B.cell (i := 1) rfl
  have b2 := B.cell (i := 2) rfl
  have b3 := B.cell (i := 3) rfl
  go_enter Tryz.func80, Tryz.ntmps80
  go_wp2
  exact bodyPost_ret (v := .agg #[.int .i64 3, .bool false, .int .u64 n, .string ⟨#[]⟩]) (by simp [results, Tryz.results80, go_sem, b0, b1, b2, b3]) rfl ⟨rfl, (Below.refl _ _).alloc (Nat.le_refl _) _⟩
theorem other_any (info n : Int) (h0 : 0 ≤ n) (h1 : n < 18446744073709551616) (hn : info = 20 ∨ info = 21 → 20 ≤ n) (w : World) : Calls Tryz.prog 80 #[.int .i64 info, .int .u64 n] w (OtherPost info n w) := by
  unfold OtherPost otherF
  by_cases c0 : info = 20
  · subst c0; rw [if_pos (.inl rfl)]; exact other20 n h0 h1 (hn (.inl rfl)) w
  by_cases c1 : info = 21
  · subst c1; rw [if_pos (.inr rfl)]; exact other21 n h0 h1 (hn (.inr rfl)) w
  rw [if_neg (fun h => h.elim c0 c1)]
  by_cases c2 : info = 22
  · subst c2; rw [if_pos rfl]; exact other22 n h0 h1 w
  rw [if_neg c2]
  by_cases c3 : info = 23
  · subst c3; rw [if_pos rfl]; exact other23 n h0 h1 w
  rw [if_neg c3]
  by_cases c5 : info = 25
  · subst c5; rw [if_pos (.inl rfl)]; exact other25 n h0 h1 w
  by_cases c6 : info = 26
  · subst c6; rw [if_pos (.inr (.inl rfl))]; exact other26 n h0 h1 w
  by_cases c7 : info = 27
  · subst c7; rw [if_pos (.inr (.inr rfl))]; exact other27 n h0 h1 w
  rw [if_neg (fun h => h.elim c5 (fun h => h.elim c6 c7))]
  exact other_rest n h0 h1 info (fun h => by omega) w
end Go.Proofs.YtfmceonbejlhlaaGreatDoor

/-
  cbor's Reader: many.
-/
namespace Go.Proofs.YtfmceonbejlhlaaGreatDoor
open Go.RowKit Go.Proofs.YtfmceonbejlhlaaGreatDoorW.PrintWords Go.Proofs.YtfmceonbejlhlaaGreatDoorW.PrintLast Go.Proofs.YtfmceonbejlhlaaGreatDoorW.PrintMore
set_option linter.unusedVariables false

/-- The first byte of a value is no stop. -/
theorem itemF_first (op : Bool) (t : T) (hR : Rt t) (hW : Wf t) (hS : saysF t = true) : ∃ (b : Int) (r : List Int), itemF op t = b :: r ∧ b ≠ 255 := by
  obtain ⟨k, neg, n, s, l⟩ := t
  have h0 : 0 ≤ n := (u64_of_wf hW.2.1).1
  have hk14 : k ≠ 14 := by
    intro h; subst h; simp [saysF] at hS
  have hk : 0 ≤ k ∧ k ≤ 14 := by
    have h1 := hR.1.1
    unfold oneF at h1
    by_cases hc : k < 0 ∨ 14 < k ∨ (neg = true ∧ k ≠ 4 ∧ k ≠ 5)
    · rw [if_pos hc] at h1; cases h1
    · omega
  have pf : ∀ (m x : Int) (r : List Int), 0 ≤ m → m ≤ 7 → 0 ≤ x → ∃ (b : Int) (r' : List Int), putF m x ++ r = b :: r' ∧ b ≠ 255 := fun m x r hm0 hm hx => by
    obtain ⟨m, rfl⟩ := Int.eq_ofNat_of_zero_le hm0
    obtain ⟨y, t, h, h1, h2⟩ := putF_first m x (by omega) hx
    exact ⟨_, t ++ r, by rw [h]; rfl, by omega⟩
  have pf0 : ∀ (m x : Int), 0 ≤ m → m ≤ 7 → 0 ≤ x → ∃ (b : Int) (r' : List Int), putF m x = b :: r' ∧ b ≠ 255 := fun m x hm0 hm hx => by
    have := pf m x [] hm0 hm hx
    rwa [List.append_nil] at this
  have tf : ∀ (m : Nat), m ≤ 3 → ∃ (b : Int) (r' : List Int), textF op m s = b :: r' ∧ b ≠ 255 := fun m hm => by
    unfold textF
    cases op
    · rw [if_neg (by decide)]; exact pf m _ _ (by omega) (by omega) (by omega)
    · rw [if_pos rfl]; exact ⟨_, _, List.cons_append .., by omega⟩
  have of : ∀ (m x : Int) (r : List Int), 0 ≤ m → m ≤ 5 → 0 ≤ x → ∃ (b : Int) (r' : List Int), openF op m x ++ r = b :: r' ∧ b ≠ 255 := fun m x r hm0 hm hx => by
    unfold openF
    cases op
    · rw [if_neg (by decide)]; exact pf m _ _ hm0 (by omega) hx
    · rw [if_pos rfl]; exact ⟨_, _, List.cons_append .., by omega⟩
  unfold itemF
  by_cases e0 : k = 0
  · rw [if_pos e0]
    exact pf0 7 22 (by omega) (by omega) (by omega)
  rw [if_neg e0]
  by_cases e1 : k = 1
  · rw [if_pos e1]
    exact pf0 7 _ (by omega) (by omega) (by omega)
  rw [if_neg e1]
  by_cases e2 : k = 2
  · rw [if_pos e2]
    exact pf0 7 23 (by omega) (by omega) (by omega)
  rw [if_neg e2]
  by_cases e3 : k = 3
  · rw [if_pos e3]
    exact pf0 7 n (by omega) (by omega) h0
  rw [if_neg e3]
  by_cases e4 : k = 4
  · rw [if_pos e4]
    exact pf0 _ n (by split <;> omega) (by split <;> omega) h0
  rw [if_neg e4]
  by_cases e5 : k = 5
  · rw [if_pos e5]
    exact pf 6 _ _ (by omega) (by omega) (by split <;> omega)
  rw [if_neg e5]
  by_cases e6 : k = 6
  · rw [if_pos e6]
    exact ⟨_, _, Eq.refl _, by decide⟩
  rw [if_neg e6]
  by_cases e7 : k = 7
  · rw [if_pos e7]
    exact ⟨_, _, Eq.refl _, by decide⟩
  rw [if_neg e7]
  by_cases e8 : k = 8
  · rw [if_pos e8]
    exact ⟨_, _, Eq.refl _, by decide⟩
  rw [if_neg e8]
  by_cases e9 : k = 9
  · rw [if_pos e9]
    exact tf 2 (by omega)
  rw [if_neg e9]
  by_cases e10 : k = 10
  · rw [if_pos e10]
    exact tf 3 (by omega)
  rw [if_neg e10]
  by_cases e11 : k = 11
  · rw [if_pos e11]
    exact of 4 _ _ (by omega) (by omega) (by omega)
  rw [if_neg e11]
  by_cases e12 : k = 12
  · rw [if_pos e12]
    exact of 5 _ _ (by omega) (by omega) (by omega)
  rw [if_neg e12]
  by_cases e13 : k = 13
  · rw [if_pos e13]
    exact pf 6 n _ (by omega) (by omega) h0
  rw [if_neg e13]
  omega
/-- Each value has a byte at the least. -/
theorem itemsF_long (op : Bool) : ∀ l : List T, (∀ t ∈ l, ∃ (b : Int) (r : List Int), itemF op t = b :: r ∧ b ≠ 255) → l.length ≤ (itemsF op l).length
  | [], _ => by simp
  | t :: r, h => by
    obtain ⟨b, r', h1, _⟩ := h t (List.mem_cons_self ..)
    have := itemsF_long op r fun u hu => h u (List.mem_cons_of_mem _ hu)
    simp only [itemsF, List.length_append, List.length_cons, h1]
    omega
theorem itemsF_drop (op : Bool) {l : List T} {k : Nat} {t : T} (h : l[k]? = some t) : itemsF op (l.drop k) = itemF op t ++ itemsF op (l.drop (k + 1)) := by
  have hl := (List.getElem?_eq_some_iff.1 h).1
  rw [List.drop_eq_getElem_cons hl]
  rw [(List.getElem?_eq_some_iff.1 h).2]
  rfl
section
variable {base rp bp bg n cap qb : Nat} {bs : List Int}
/-- A value of many is read. -/
def ItemAt (base rp bp bg n cap qb : Nat) (bs : List Int) (op : Bool) (kind : Int) (l : List T) (st : List PartC) (c1 : Nat) : Prop :=
  ∀ (k : Nat) (t : T), l[k]? = some t → ∀ (W : World) (p : Nat) (r : List Int), bs.drop p = itemF op t ++ r → Rs base rp bp bg n cap qb bs p (⟨kind, 0, l.take k⟩ :: st) none (c1 + (preL (l.take k)).length) W →
    Calls Tryz.prog 46 #[.pointer (some ⟨rp, 0, none⟩)] W (ReadPost base rp bp bg n cap qb bs (.tuple #[]) (p + (itemF op t).length) (⟨kind, 0, l.take (k + 1)⟩ :: st) none (c1 + (preL (l.take (k + 1))).length) W)
/-- At the head of the loop. -/
def ManyInv (base rp bp bg n cap qb : Nat) (bs : List Int) (op : Bool) (kind : Int) (l : List T) (st : List PartC) (c1 pe : Nat) (r : List Int) (w : World) (sv : Value) (wr : World) (k : Nat) : Prop :=
  ∃ p : Nat, sv = .int .u64 k ∧ k ≤ l.length ∧ bs.drop p = itemsF op (l.drop k) ++ r ∧ p + (itemsF op (l.drop k)).length = pe ∧ Rs base rp bp bg n cap qb bs p (⟨kind, 0, l.take k⟩ :: st) none (c1 + (preL (l.take k)).length) wr ∧ Below base w wr
set_option maxRecDepth 100000 in
set_option maxHeartbeats 8000000 in
theorem many_list_shut (p0 c0 : Nat) (l : List T) (st : List PartC) (at_ x info : Int) (hinfo : info ≠ 31) (r : List Int) (w : World) (h : Rs base rp bp bg n cap qb bs p0 st none c0 w) (hb : bs.drop p0 = itemsF false l ++ r)
    (hx : x = (l.length : Int)) (hfirst : ∀ t ∈ l, ∃ (b : Int) (r : List Int), itemF false t = b :: r ∧ b ≠ 255) (hl2 : True)
    (hopen : Evs base rp bp bg n cap qb bs p0 c0 st 11 false 0 ⟨#[]⟩ (⟨11, 0, []⟩ :: st) none (c0 + 1))
    (hitem : ItemAt base rp bp bg n cap qb bs false 11 l st (c0 + 1)) (hsh : Short (⟨11, 0, l⟩ :: st)) :
    Calls Tryz.prog 79 #[.pointer (some ⟨rp, 0, none⟩), .int .i64 at_, .int .i64 11, .int .i64 info, .int .u64 x] w (ReadPost base rp bp bg n cap qb bs (.tuple #[]) (p0 + (itemsF false l).length) (addC st ⟨11, false, 0, ⟨#[]⟩, l⟩).1 (addC st ⟨11, false, 0, ⟨#[]⟩, l⟩).2 (c0 + 1 + (preL l).length) w) := by
  obtain ⟨R, hR⟩ : ∃ R, r = R := ⟨_, rfl⟩
  rw [hR] at hb
  have hlen : p0 + (itemsF false l).length + R.length = n := by
    rcases bytes_len h.len hb with h' | h'
    · exact h'
    · rw [h'.1, h'.2]; simp; have hz : bs.drop p0 = [] := by rw [hb, h'.1, h'.2]; rfl
      have h1 := congrArg List.length hz; simp at h1; have := h.at_; have := h.len; omega
  have hlong := itemsF_long false l hfirst
  have hn := h.small
  obtain ⟨pe, hpe⟩ : ∃ pe, p0 + (itemsF false l).length = pe := ⟨_, rfl⟩
  have hE : Hid (∀ (W : World) (at_ : Int), Rs base rp bp bg n cap qb bs (pe) (⟨11, 0, l⟩ :: st) none (c0 + 1 + (preL l).length) W → Calls Tryz.prog 75 #[.pointer (some ⟨rp, 0, none⟩), .int .i64 at_, .agg #[.int .i64 15, .bool false, .int .u64 0, .string ⟨#[]⟩]] W (ReadPost base rp bp bg n cap qb bs (.tuple #[]) (pe) (addC st ⟨11, false, 0, ⟨#[]⟩, l⟩).1 (addC st ⟨11, false, 0, ⟨#[]⟩, l⟩).2 (c0 + 1 + (preL l).length) W)) :=
    Lib.hid (evs_of_puts (puts_end base bp ⟨11, 0, l⟩ st (c0 + 1 + (preL l).length) hsh (by show ¬ ((11 : Int) = 13); decide) (by rintro ⟨h, _⟩; exact absurd h (by show ¬ ((11 : Int) = 12); decide))))
  have HOp := Lib.hid (hopen w at_ h)
  have HRoom : Hid (∀ (W : World), Rs base rp bp bg n cap qb bs p0 (⟨11, 0, []⟩ :: st) none (c0 + 1) W → Calls Tryz.prog 115 #[.pointer (some ⟨rp, 0, none⟩), .int .i64 at_, .int .u64 x, .int .u64 1] W fun e w' => e = .returned (.tuple #[]) ∧ ∃ k, w' = W.drewN k) :=
    Lib.hid (fun W hW => room1 p0 (c0 + 1) (⟨11, 0, []⟩ :: st) none at_ x W hW (by omega) (by omega))
  have HIt := Lib.hid hitem
  have HFirst := Lib.hid hfirst
  have HX := Lib.hid hx
  have HL2 := Lib.hid hl2
  have HPE := Lib.hid hpe
  have HB := Lib.hid hb
  have HR := Lib.hid hR
  have hll : l.length ≤ 1048576 := by omega
  have Hll := Lib.hid hll
  rw [hpe]
  have q31 : (info == 31) = false := by simpa using hinfo
  have hc5 := h.rb.c5
  clear h hb hx hfirst hl2 hopen hitem hpe hlen hlong hn hR hll
  go_enter Tryz.func79, Tryz.ntmps79
  go_wp2_with (first
    | (go_at_call 75; refine HOp.out.mono ?_; rintro e w1 ⟨rfl, h1, hb1⟩; have H1 := Lib.hid h1; clear h1)
    | (go_at_call 115; refine (HRoom.out _ H1.out).mono ?_; rintro e w2 ⟨rfl, kq, rfl⟩; have H2 := Lib.hid (H1.out.below (below_drewN _ w1 kq))))
  go_loopw [11] (fun sv wr => ∃ k, ManyInv base rp bp bg n cap qb bs false 11 l st (c0 + 1) pe R w sv wr k) (fun sv wr => match sv with | .int _ x => ((l.length : Int) - x).toNat | _ => 0)
  case atStart =>
    refine ⟨0, p0, rfl, Nat.zero_le _, ?_, ?_, ?_, hb1.trans (below_drewN _ _ _)⟩
    · rw [List.drop_zero]; exact HB.out
    · rw [List.drop_zero]; exact HPE.out
    · rw [List.take_zero]; exact H2.out
  case round =>
    obtain ⟨k, p, rfl, hkl, hd, hpp, hs, hbel⟩ := hrel
    have hll := Hll.out
    by_cases hk : k < l.length
    · obtain ⟨t, ht⟩ : ∃ t, l[k]? = some t := ⟨l[k], List.getElem?_eq_getElem hk⟩
      rw [itemsF_drop false ht] at hd hpp
      rw [List.append_assoc] at hd
      have HI := Lib.hid (fun W => HIt.out k t ht W p _ hd)
      have hd2 := drop_more hd
      have HNext : Hid (∀ W, Rs base rp bp bg n cap qb bs (p + (itemF false t).length) (⟨11, 0, l.take (k + 1)⟩ :: st) none (c0 + 1 + (preL (l.take (k + 1))).length) W → Below base w W → ManyInv base rp bp bg n cap qb bs false 11 l st (c0 + 1) pe R w (.int .u64 ((k : Int) + 1)) W (k + 1)) :=
        Lib.hid (fun W hW hB => ⟨p + (itemF false t).length, by rw [Int.natCast_add]; rfl, by omega, hd2, by rw [List.length_append] at hpp; omega, hW, hB⟩)
      have hw1 : IntKind.u64.wrap ((k : Int) + 1) = (k : Int) + 1 := wraps_u64 _ (by omega) (by omega)
      have HK := Lib.hid (show ((l.length : Int) - ((k : Int) + 1)).toNat < ((l.length : Int) - (k : Int)).toNat by omega)
      have HS := Lib.hid hs
      have hx := HX.out
      have hwx : IntKind.u64.wrap x = l.length := by rw [wraps_u64 _ (by omega) (by omega)]; omega
      have hlt : decide ((k : Int) < (l.length : Int)) = true := decide_eq_true (by omega)
      have hltn : decide (k < l.length) = true := decide_eq_true hk
      clear hs hd hd2 hpp ht hkl hx
      go_wp2_with ((go_at_call 46; refine (HI.out _ HS.out).mono ?_; rintro e w3 ⟨rfl, h3, hb3⟩; have H3 := Lib.hid h3; clear h3))
      · refine ⟨⟨k + 1, HNext.out _ H3.out (hbel.trans hb3)⟩, ?_⟩
        exact HK.out
    · have hkk : k = l.length := by omega
      subst hkk
      rw [List.take_length] at hs
      rw [List.drop_length] at hd hpp
      have hd' : bs.drop p = R := hd
      have hpp' : p = pe := hpp
      subst hpp'
      have HS := Lib.hid hs
      have hx := HX.out
      have hwx : IntKind.u64.wrap x = l.length := by rw [wraps_u64 _ (by omega) (by omega)]; omega
      have hlt : decide ((l.length : Int) < (l.length : Int)) = false := decide_eq_false (by omega)
      clear hs hd hd' hk hpp hx
      go_wp2_with (go_at_call 75; refine (hE.out _ _ HS.out).mono ?_; rintro e w6 ⟨rfl, h6, hb6⟩)
      go_end0
      exact ⟨rfl, h6, hbel.trans hb6⟩
set_option maxRecDepth 100000 in
set_option maxHeartbeats 8000000 in
theorem many_list_open (p0 c0 : Nat) (l : List T) (st : List PartC) (at_ x : Int) (r : List Int) (w : World) (h : Rs base rp bp bg n cap qb bs p0 st none c0 w) (hb : bs.drop p0 = itemsF true l ++ (255 :: r))
    (hx : True) (hfirst : ∀ t ∈ l, ∃ (b : Int) (r : List Int), itemF true t = b :: r ∧ b ≠ 255) (hl2 : True)
    (hopen : Evs base rp bp bg n cap qb bs p0 c0 st 11 false 0 ⟨#[]⟩ (⟨11, 0, []⟩ :: st) none (c0 + 1))
    (hitem : ItemAt base rp bp bg n cap qb bs true 11 l st (c0 + 1)) (hsh : Short (⟨11, 0, l⟩ :: st)) :
    Calls Tryz.prog 79 #[.pointer (some ⟨rp, 0, none⟩), .int .i64 at_, .int .i64 11, .int .i64 31, .int .u64 0] w (ReadPost base rp bp bg n cap qb bs (.tuple #[]) (p0 + (itemsF true l).length + 1) (addC st ⟨11, false, 0, ⟨#[]⟩, l⟩).1 (addC st ⟨11, false, 0, ⟨#[]⟩, l⟩).2 (c0 + 1 + (preL l).length) w) := by
  obtain ⟨R, hR⟩ : ∃ R, (255 :: r) = R := ⟨_, rfl⟩
  rw [hR] at hb
  have hlen : p0 + (itemsF true l).length + R.length = n := by
    rcases bytes_len h.len hb with h' | h'
    · exact h'
    · rw [h'.2] at hR; cases hR
  have hlong := itemsF_long true l hfirst
  have hn := h.small
  obtain ⟨pe, hpe⟩ : ∃ pe, p0 + (itemsF true l).length = pe := ⟨_, rfl⟩
  have hE : Hid (∀ (W : World) (at_ : Int), Rs base rp bp bg n cap qb bs (pe + 1) (⟨11, 0, l⟩ :: st) none (c0 + 1 + (preL l).length) W → Calls Tryz.prog 75 #[.pointer (some ⟨rp, 0, none⟩), .int .i64 at_, .agg #[.int .i64 15, .bool false, .int .u64 0, .string ⟨#[]⟩]] W (ReadPost base rp bp bg n cap qb bs (.tuple #[]) (pe + 1) (addC st ⟨11, false, 0, ⟨#[]⟩, l⟩).1 (addC st ⟨11, false, 0, ⟨#[]⟩, l⟩).2 (c0 + 1 + (preL l).length) W)) :=
    Lib.hid (evs_of_puts (puts_end base bp ⟨11, 0, l⟩ st (c0 + 1 + (preL l).length) hsh (by show ¬ ((11 : Int) = 13); decide) (by rintro ⟨h, _⟩; exact absurd h (by show ¬ ((11 : Int) = 12); decide))))
  have HOp := Lib.hid (hopen w at_ h)
  have HRoom : Hid (∀ (W : World), Rs base rp bp bg n cap qb bs p0 (⟨11, 0, []⟩ :: st) none (c0 + 1) W → Calls Tryz.prog 115 #[.pointer (some ⟨rp, 0, none⟩), .int .i64 at_, .int .u64 0, .int .u64 1] W fun e w' => e = .returned (.tuple #[]) ∧ ∃ k, w' = W.drewN k) :=
    Lib.hid (fun W hW => room1 p0 (c0 + 1) (⟨11, 0, []⟩ :: st) none at_ 0 W hW (by omega) (by omega))
  have HIt := Lib.hid hitem
  have HFirst := Lib.hid hfirst
  have HX := Lib.hid hx
  have HL2 := Lib.hid hl2
  have HPE := Lib.hid hpe
  have HB := Lib.hid hb
  have HR := Lib.hid hR
  have hll : l.length ≤ 1048576 := by omega
  have Hll := Lib.hid hll
  rw [hpe]
  have hc5 := h.rb.c5
  clear h hb hx hfirst hl2 hopen hitem hpe hlen hlong hn hR hll
  go_enter Tryz.func79, Tryz.ntmps79
  go_wp2_with (first
    | (go_at_call 75; refine HOp.out.mono ?_; rintro e w1 ⟨rfl, h1, hb1⟩; have H1 := Lib.hid h1; clear h1)
    | (go_at_call 115; refine (HRoom.out _ H1.out).mono ?_; rintro e w2 ⟨rfl, kq, rfl⟩; have H2 := Lib.hid (H1.out.below (below_drewN _ w1 kq))))
  go_loopw [11] (fun sv wr => ∃ k, ManyInv base rp bp bg n cap qb bs true 11 l st (c0 + 1) pe R w sv wr k) (fun sv wr => match sv with | .int _ x => ((l.length : Int) - x).toNat | _ => 0)
  case atStart =>
    refine ⟨0, p0, rfl, Nat.zero_le _, ?_, ?_, ?_, hb1.trans (below_drewN _ _ _)⟩
    · rw [List.drop_zero]; exact HB.out
    · rw [List.drop_zero]; exact HPE.out
    · rw [List.take_zero]; exact H2.out
  case round =>
    obtain ⟨k, p, rfl, hkl, hd, hpp, hs, hbel⟩ := hrel
    have hll := Hll.out
    by_cases hk : k < l.length
    · obtain ⟨t, ht⟩ : ∃ t, l[k]? = some t := ⟨l[k], List.getElem?_eq_getElem hk⟩
      rw [itemsF_drop true ht] at hd hpp
      rw [List.append_assoc] at hd
      have HI := Lib.hid (fun W => HIt.out k t ht W p _ hd)
      have hd2 := drop_more hd
      have HNext : Hid (∀ W, Rs base rp bp bg n cap qb bs (p + (itemF true t).length) (⟨11, 0, l.take (k + 1)⟩ :: st) none (c0 + 1 + (preL (l.take (k + 1))).length) W → Below base w W → ManyInv base rp bp bg n cap qb bs true 11 l st (c0 + 1) pe R w (.int .u64 ((k : Int) + 1)) W (k + 1)) :=
        Lib.hid (fun W hW hB => ⟨p + (itemF true t).length, by rw [Int.natCast_add]; rfl, by omega, hd2, by rw [List.length_append] at hpp; omega, hW, hB⟩)
      have HEnds : Hid (∀ W, Rs base rp bp bg n cap qb bs p (⟨11, 0, l.take k⟩ :: st) none (c0 + 1 + (preL (l.take k)).length) W → Calls Tryz.prog 114 #[.pointer (some ⟨rp, 0, none⟩)] W (ReadPost base rp bp bg n cap qb bs (.bool false) p (⟨11, 0, l.take k⟩ :: st) none (c0 + 1 + (preL (l.take k)).length) W)) := Lib.hid (fun W hW => by
        obtain ⟨b, r', h1, h2⟩ := HFirst.out t (List.mem_of_getElem? ht)
        exact ends_any p _ _ none b _ W hW (by rw [hd, h1]; rfl) h2)
      have hw1 : IntKind.u64.wrap ((k : Int) + 1) = (k : Int) + 1 := wraps_u64 _ (by omega) (by omega)
      have HK := Lib.hid (show ((l.length : Int) - ((k : Int) + 1)).toNat < ((l.length : Int) - (k : Int)).toNat by omega)
      have HS := Lib.hid hs
      clear hs hd hd2 hpp ht hk hkl
      go_wp2_with (first
        | (go_at_call 114; refine (HEnds.out _ HS.out).mono ?_; rintro e w4 ⟨rfl, h4, hb4⟩; have H4 := Lib.hid h4; clear h4)
        | (go_at_call 46; refine (HI.out _ H4.out).mono ?_; rintro e w3 ⟨rfl, h3, hb3⟩; have H3 := Lib.hid h3; clear h3))
      · refine ⟨⟨k + 1, HNext.out _ H3.out (hbel.trans (hb4.trans hb3))⟩, ?_⟩
        exact HK.out
    · have hkk : k = l.length := by omega
      subst hkk
      rw [List.take_length] at hs
      rw [List.drop_length] at hd hpp
      have hd' : bs.drop p = R := hd
      have hpp' : p = pe := hpp
      subst hpp'
      have HS := Lib.hid hs
      have hE2 := Lib.hid (ends_stop p _ _ none r wr hs (by rw [hd', HR.out]))
      clear hs hd hd' hk hpp
      go_wp2_with (first
        | (go_at_call 114; refine hE2.out.mono ?_; rintro e w5 ⟨rfl, h5, hb5⟩; have H5 := Lib.hid h5; clear h5)
        | (go_at_call 75; refine (hE.out _ _ H5.out).mono ?_; rintro e w6 ⟨rfl, h6, hb6⟩))
      go_end0
      exact ⟨rfl, h6, hbel.trans (hb5.trans hb6)⟩
set_option maxRecDepth 100000 in
set_option maxHeartbeats 8000000 in
theorem many_map_shut (p0 c0 : Nat) (l : List T) (st : List PartC) (at_ x info : Int) (hinfo : info ≠ 31) (r : List Int) (w : World) (h : Rs base rp bp bg n cap qb bs p0 st none c0 w) (hb : bs.drop p0 = itemsF false l ++ r)
    (hx : 2 * x = (l.length : Int)) (hfirst : ∀ t ∈ l, ∃ (b : Int) (r : List Int), itemF false t = b :: r ∧ b ≠ 255) (hl2 : l.length % 2 = 0)
    (hopen : Evs base rp bp bg n cap qb bs p0 c0 st 12 false 0 ⟨#[]⟩ (⟨12, 0, []⟩ :: st) none (c0 + 1))
    (hitem : ItemAt base rp bp bg n cap qb bs false 12 l st (c0 + 1)) (hsh : Short (⟨12, 0, l⟩ :: st)) :
    Calls Tryz.prog 79 #[.pointer (some ⟨rp, 0, none⟩), .int .i64 at_, .int .i64 12, .int .i64 info, .int .u64 x] w (ReadPost base rp bp bg n cap qb bs (.tuple #[]) (p0 + (itemsF false l).length) (addC st ⟨12, false, 0, ⟨#[]⟩, l⟩).1 (addC st ⟨12, false, 0, ⟨#[]⟩, l⟩).2 (c0 + 1 + (preL l).length) w) := by
  obtain ⟨R, hR⟩ : ∃ R, r = R := ⟨_, rfl⟩
  rw [hR] at hb
  have hlen : p0 + (itemsF false l).length + R.length = n := by
    rcases bytes_len h.len hb with h' | h'
    · exact h'
    · rw [h'.1, h'.2]; simp; have hz : bs.drop p0 = [] := by rw [hb, h'.1, h'.2]; rfl
      have h1 := congrArg List.length hz; simp at h1; have := h.at_; have := h.len; omega
  have hlong := itemsF_long false l hfirst
  have hn := h.small
  obtain ⟨pe, hpe⟩ : ∃ pe, p0 + (itemsF false l).length = pe := ⟨_, rfl⟩
  have hE : Hid (∀ (W : World) (at_ : Int), Rs base rp bp bg n cap qb bs (pe) (⟨12, 0, l⟩ :: st) none (c0 + 1 + (preL l).length) W → Calls Tryz.prog 75 #[.pointer (some ⟨rp, 0, none⟩), .int .i64 at_, .agg #[.int .i64 15, .bool false, .int .u64 0, .string ⟨#[]⟩]] W (ReadPost base rp bp bg n cap qb bs (.tuple #[]) (pe) (addC st ⟨12, false, 0, ⟨#[]⟩, l⟩).1 (addC st ⟨12, false, 0, ⟨#[]⟩, l⟩).2 (c0 + 1 + (preL l).length) W)) :=
    Lib.hid (evs_of_puts (puts_end base bp ⟨12, 0, l⟩ st (c0 + 1 + (preL l).length) hsh (by show ¬ ((12 : Int) = 13); decide) (by rintro ⟨_, h⟩; rw [hl2] at h; cases h)))
  have HOp := Lib.hid (hopen w at_ h)
  have HRoom : Hid (∀ (W : World), Rs base rp bp bg n cap qb bs p0 (⟨12, 0, []⟩ :: st) none (c0 + 1) W → Calls Tryz.prog 115 #[.pointer (some ⟨rp, 0, none⟩), .int .i64 at_, .int .u64 x, .int .u64 2] W fun e w' => e = .returned (.tuple #[]) ∧ ∃ k, w' = W.drewN k) :=
    Lib.hid (fun W hW => room2 p0 (c0 + 1) (⟨12, 0, []⟩ :: st) none at_ x W hW (by omega) (by omega))
  have HIt := Lib.hid hitem
  have HFirst := Lib.hid hfirst
  have HX := Lib.hid hx
  have HL2 := Lib.hid hl2
  have HPE := Lib.hid hpe
  have HB := Lib.hid hb
  have HR := Lib.hid hR
  have hll : l.length ≤ 1048576 := by omega
  have Hll := Lib.hid hll
  rw [hpe]
  have q31 : (info == 31) = false := by simpa using hinfo
  have hc5 := h.rb.c5
  clear h hb hx hfirst hl2 hopen hitem hpe hlen hlong hn hR hll
  go_enter Tryz.func79, Tryz.ntmps79
  go_wp2_with (first
    | (go_at_call 75; refine HOp.out.mono ?_; rintro e w1 ⟨rfl, h1, hb1⟩; have H1 := Lib.hid h1; clear h1)
    | (go_at_call 115; refine (HRoom.out _ H1.out).mono ?_; rintro e w2 ⟨rfl, kq, rfl⟩; have H2 := Lib.hid (H1.out.below (below_drewN _ w1 kq))))
  go_loopw [11] (fun sv wr => ∃ k, ManyInv base rp bp bg n cap qb bs false 12 l st (c0 + 1) pe R w sv wr k) (fun sv wr => match sv with | .int _ x => ((l.length : Int) - x).toNat | _ => 0)
  case atStart =>
    refine ⟨0, p0, rfl, Nat.zero_le _, ?_, ?_, ?_, hb1.trans (below_drewN _ _ _)⟩
    · rw [List.drop_zero]; exact HB.out
    · rw [List.drop_zero]; exact HPE.out
    · rw [List.take_zero]; exact H2.out
  case round =>
    obtain ⟨k, p, rfl, hkl, hd, hpp, hs, hbel⟩ := hrel
    have hll := Hll.out
    by_cases hk : k < l.length
    · obtain ⟨t, ht⟩ : ∃ t, l[k]? = some t := ⟨l[k], List.getElem?_eq_getElem hk⟩
      rw [itemsF_drop false ht] at hd hpp
      rw [List.append_assoc] at hd
      have HI := Lib.hid (fun W => HIt.out k t ht W p _ hd)
      have hd2 := drop_more hd
      have HNext : Hid (∀ W, Rs base rp bp bg n cap qb bs (p + (itemF false t).length) (⟨12, 0, l.take (k + 1)⟩ :: st) none (c0 + 1 + (preL (l.take (k + 1))).length) W → Below base w W → ManyInv base rp bp bg n cap qb bs false 12 l st (c0 + 1) pe R w (.int .u64 ((k : Int) + 1)) W (k + 1)) :=
        Lib.hid (fun W hW hB => ⟨p + (itemF false t).length, by rw [Int.natCast_add]; rfl, by omega, hd2, by rw [List.length_append] at hpp; omega, hW, hB⟩)
      have hw1 : IntKind.u64.wrap ((k : Int) + 1) = (k : Int) + 1 := wraps_u64 _ (by omega) (by omega)
      have HK := Lib.hid (show ((l.length : Int) - ((k : Int) + 1)).toNat < ((l.length : Int) - (k : Int)).toNat by omega)
      have HS := Lib.hid hs
      have hx := HX.out
      have hwx : IntKind.u64.wrap (2 * x) = l.length := by rw [wraps_u64 _ (by omega) (by omega)]; omega
      have hlt : decide ((k : Int) < (l.length : Int)) = true := decide_eq_true (by omega)
      have hltn : decide (k < l.length) = true := decide_eq_true hk
      clear hs hd hd2 hpp ht hkl hx
      go_wp2_with ((go_at_call 46; refine (HI.out _ HS.out).mono ?_; rintro e w3 ⟨rfl, h3, hb3⟩; have H3 := Lib.hid h3; clear h3))
      · refine ⟨⟨k + 1, HNext.out _ H3.out (hbel.trans hb3)⟩, ?_⟩
        exact HK.out
    · have hkk : k = l.length := by omega
      subst hkk
      rw [List.take_length] at hs
      rw [List.drop_length] at hd hpp
      have hd' : bs.drop p = R := hd
      have hpp' : p = pe := hpp
      subst hpp'
      have HS := Lib.hid hs
      have hx := HX.out
      have hwx : IntKind.u64.wrap (2 * x) = l.length := by rw [wraps_u64 _ (by omega) (by omega)]; omega
      have hlt : decide ((l.length : Int) < (l.length : Int)) = false := decide_eq_false (by omega)
      clear hs hd hd' hk hpp hx
      go_wp2_with (go_at_call 75; refine (hE.out _ _ HS.out).mono ?_; rintro e w6 ⟨rfl, h6, hb6⟩)
      go_end0
      exact ⟨rfl, h6, hbel.trans hb6⟩
set_option maxRecDepth 100000 in
set_option maxHeartbeats 8000000 in
theorem many_map_open (p0 c0 : Nat) (l : List T) (st : List PartC) (at_ x : Int) (r : List Int) (w : World) (h : Rs base rp bp bg n cap qb bs p0 st none c0 w) (hb : bs.drop p0 = itemsF true l ++ (255 :: r))
    (hx : True) (hfirst : ∀ t ∈ l, ∃ (b : Int) (r : List Int), itemF true t = b :: r ∧ b ≠ 255) (hl2 : l.length % 2 = 0)
    (hopen : Evs base rp bp bg n cap qb bs p0 c0 st 12 false 0 ⟨#[]⟩ (⟨12, 0, []⟩ :: st) none (c0 + 1))
    (hitem : ItemAt base rp bp bg n cap qb bs true 12 l st (c0 + 1)) (hsh : Short (⟨12, 0, l⟩ :: st)) :
    Calls Tryz.prog 79 #[.pointer (some ⟨rp, 0, none⟩), .int .i64 at_, .int .i64 12, .int .i64 31, .int .u64 0] w (ReadPost base rp bp bg n cap qb bs (.tuple #[]) (p0 + (itemsF true l).length + 1) (addC st ⟨12, false, 0, ⟨#[]⟩, l⟩).1 (addC st ⟨12, false, 0, ⟨#[]⟩, l⟩).2 (c0 + 1 + (preL l).length) w) := by
  obtain ⟨R, hR⟩ : ∃ R, (255 :: r) = R := ⟨_, rfl⟩
  rw [hR] at hb
  have hlen : p0 + (itemsF true l).length + R.length = n := by
    rcases bytes_len h.len hb with h' | h'
    · exact h'
    · rw [h'.2] at hR; cases hR
  have hlong := itemsF_long true l hfirst
  have hn := h.small
  obtain ⟨pe, hpe⟩ : ∃ pe, p0 + (itemsF true l).length = pe := ⟨_, rfl⟩
  have hE : Hid (∀ (W : World) (at_ : Int), Rs base rp bp bg n cap qb bs (pe + 1) (⟨12, 0, l⟩ :: st) none (c0 + 1 + (preL l).length) W → Calls Tryz.prog 75 #[.pointer (some ⟨rp, 0, none⟩), .int .i64 at_, .agg #[.int .i64 15, .bool false, .int .u64 0, .string ⟨#[]⟩]] W (ReadPost base rp bp bg n cap qb bs (.tuple #[]) (pe + 1) (addC st ⟨12, false, 0, ⟨#[]⟩, l⟩).1 (addC st ⟨12, false, 0, ⟨#[]⟩, l⟩).2 (c0 + 1 + (preL l).length) W)) :=
    Lib.hid (evs_of_puts (puts_end base bp ⟨12, 0, l⟩ st (c0 + 1 + (preL l).length) hsh (by show ¬ ((12 : Int) = 13); decide) (by rintro ⟨_, h⟩; rw [hl2] at h; cases h)))
  have HOp := Lib.hid (hopen w at_ h)
  have HRoom : Hid (∀ (W : World), Rs base rp bp bg n cap qb bs p0 (⟨12, 0, []⟩ :: st) none (c0 + 1) W → Calls Tryz.prog 115 #[.pointer (some ⟨rp, 0, none⟩), .int .i64 at_, .int .u64 0, .int .u64 2] W fun e w' => e = .returned (.tuple #[]) ∧ ∃ k, w' = W.drewN k) :=
    Lib.hid (fun W hW => room2 p0 (c0 + 1) (⟨12, 0, []⟩ :: st) none at_ 0 W hW (by omega) (by omega))
  have HIt := Lib.hid hitem
  have HFirst := Lib.hid hfirst
  have HX := Lib.hid hx
  have HL2 := Lib.hid hl2
  have HPE := Lib.hid hpe
  have HB := Lib.hid hb
  have HR := Lib.hid hR
  have hll : l.length ≤ 1048576 := by omega
  have Hll := Lib.hid hll
  rw [hpe]
  have hc5 := h.rb.c5
  clear h hb hx hfirst hl2 hopen hitem hpe hlen hlong hn hR hll
  go_enter Tryz.func79, Tryz.ntmps79
  go_wp2_with (first
    | (go_at_call 75; refine HOp.out.mono ?_; rintro e w1 ⟨rfl, h1, hb1⟩; have H1 := Lib.hid h1; clear h1)
    | (go_at_call 115; refine (HRoom.out _ H1.out).mono ?_; rintro e w2 ⟨rfl, kq, rfl⟩; have H2 := Lib.hid (H1.out.below (below_drewN _ w1 kq))))
  go_loopw [11] (fun sv wr => ∃ k, ManyInv base rp bp bg n cap qb bs true 12 l st (c0 + 1) pe R w sv wr k) (fun sv wr => match sv with | .int _ x => ((l.length : Int) - x).toNat | _ => 0)
  case atStart =>
    refine ⟨0, p0, rfl, Nat.zero_le _, ?_, ?_, ?_, hb1.trans (below_drewN _ _ _)⟩
    · rw [List.drop_zero]; exact HB.out
    · rw [List.drop_zero]; exact HPE.out
    · rw [List.take_zero]; exact H2.out
  case round =>
    obtain ⟨k, p, rfl, hkl, hd, hpp, hs, hbel⟩ := hrel
    have hll := Hll.out
    by_cases hk : k < l.length
    · obtain ⟨t, ht⟩ : ∃ t, l[k]? = some t := ⟨l[k], List.getElem?_eq_getElem hk⟩
      rw [itemsF_drop true ht] at hd hpp
      rw [List.append_assoc] at hd
      have HI := Lib.hid (fun W => HIt.out k t ht W p _ hd)
      have hd2 := drop_more hd
      have HNext : Hid (∀ W, Rs base rp bp bg n cap qb bs (p + (itemF true t).length) (⟨12, 0, l.take (k + 1)⟩ :: st) none (c0 + 1 + (preL (l.take (k + 1))).length) W → Below base w W → ManyInv base rp bp bg n cap qb bs true 12 l st (c0 + 1) pe R w (.int .u64 ((k : Int) + 1)) W (k + 1)) :=
        Lib.hid (fun W hW hB => ⟨p + (itemF true t).length, by rw [Int.natCast_add]; rfl, by omega, hd2, by rw [List.length_append] at hpp; omega, hW, hB⟩)
      have HEnds : Hid (∀ W, Rs base rp bp bg n cap qb bs p (⟨12, 0, l.take k⟩ :: st) none (c0 + 1 + (preL (l.take k)).length) W → Calls Tryz.prog 114 #[.pointer (some ⟨rp, 0, none⟩)] W (ReadPost base rp bp bg n cap qb bs (.bool false) p (⟨12, 0, l.take k⟩ :: st) none (c0 + 1 + (preL (l.take k)).length) W)) := Lib.hid (fun W hW => by
        obtain ⟨b, r', h1, h2⟩ := HFirst.out t (List.mem_of_getElem? ht)
        exact ends_any p _ _ none b _ W hW (by rw [hd, h1]; rfl) h2)
      have hw1 : IntKind.u64.wrap ((k : Int) + 1) = (k : Int) + 1 := wraps_u64 _ (by omega) (by omega)
      have HK := Lib.hid (show ((l.length : Int) - ((k : Int) + 1)).toNat < ((l.length : Int) - (k : Int)).toNat by omega)
      have HS := Lib.hid hs
      by_cases he : k % 2 = 0
      · have hm : ((k : Int) % 2) = 0 := by omega
        have hm2 : Int.tmod (k : Int) 2 = 0 := by rw [Int.tmod_eq_emod_of_nonneg (by omega)]; exact hm
        clear hs hd hd2 hpp ht hk hkl he
        go_wp2_with (first
        | (go_at_call 114; refine (HEnds.out _ HS.out).mono ?_; rintro e w4 ⟨rfl, h4, hb4⟩; have H4 := Lib.hid h4; clear h4)
        | (go_at_call 46; refine (HI.out _ H4.out).mono ?_; rintro e w3 ⟨rfl, h3, hb3⟩; have H3 := Lib.hid h3; clear h3))
        · refine ⟨⟨k + 1, HNext.out _ H3.out (hbel.trans (hb4.trans hb3))⟩, ?_⟩
          exact HK.out
      · have hm : ((k : Int) % 2) = 1 := by omega
        have hm2 : Int.tmod (k : Int) 2 = 1 := by rw [Int.tmod_eq_emod_of_nonneg (by omega)]; exact hm
        clear hs hd hd2 hpp ht hk hkl he
        go_wp2_with ((go_at_call 46; refine (HI.out _ HS.out).mono ?_; rintro e w3 ⟨rfl, h3, hb3⟩; have H3 := Lib.hid h3; clear h3))
        · refine ⟨⟨k + 1, HNext.out _ H3.out (hbel.trans hb3)⟩, ?_⟩
          exact HK.out
    · have hkk : k = l.length := by omega
      subst hkk
      rw [List.take_length] at hs
      rw [List.drop_length] at hd hpp
      have hd' : bs.drop p = R := hd
      have hpp' : p = pe := hpp
      subst hpp'
      have HS := Lib.hid hs
      have hE2 := Lib.hid (ends_stop p _ _ none r wr hs (by rw [hd', HR.out]))
      have hm : ((l.length : Int) % 2) = 0 := by have := HL2.out; omega
      have hm2 : Int.tmod (l.length : Int) 2 = 0 := by rw [Int.tmod_eq_emod_of_nonneg (by omega)]; exact hm
      clear hs hd hd' hk hpp
      go_wp2_with (first
        | (go_at_call 114; refine hE2.out.mono ?_; rintro e w5 ⟨rfl, h5, hb5⟩; have H5 := Lib.hid h5; clear h5)
        | (go_at_call 75; refine (hE.out _ _ H5.out).mono ?_; rintro e w6 ⟨rfl, h6, hb6⟩))
      go_end0
      exact ⟨rfl, h6, hbel.trans (hb5.trans hb6)⟩
end
end Go.Proofs.YtfmceonbejlhlaaGreatDoor

/-
  cbor's Reader: what a right value's parts are; Big's answers.
-/
namespace Go.Proofs.YtfmceonbejlhlaaGreatDoor
open Go.RowKit Go.Proofs.YtfmceonbejlhlaaGreatDoorW.PrintWords Go.Proofs.YtfmceonbejlhlaaGreatDoorW.PrintLast Go.Proofs.YtfmceonbejlhlaaGreatDoorW.PrintMore
set_option linter.unusedVariables false

theorem ro_kind {k : Int} {neg : Bool} {n : Int} {s : ByteArray} {l : List T} (h : oneF k neg n s l = true) : 0 ≤ k ∧ k ≤ 14 := by
  unfold oneF at h
  by_cases hc : k < 0 ∨ 14 < k ∨ (neg = true ∧ k ≠ 4 ∧ k ≠ 5)
  · rw [if_pos hc] at h; cases h
  · omega
theorem ro_neg {k : Int} {neg : Bool} {n : Int} {s : ByteArray} {l : List T} (h : oneF k neg n s l = true) (h4 : k ≠ 4) (h5 : k ≠ 5) : neg = false := by
  unfold oneF at h
  by_cases hc : k < 0 ∨ 14 < k ∨ (neg = true ∧ k ≠ 4 ∧ k ≠ 5)
  · rw [if_pos hc] at h; cases h
  · cases neg
    · rfl
    · exact absurd (.inr (.inr ⟨rfl, h4, h5⟩)) hc
theorem ro_bits {k : Int} {neg : Bool} {n : Int} {s : ByteArray} {l : List T} (h : oneF k neg n s l = true) (hb : bitsF k < 64) : n / 2 ^ (bitsF k).toNat = 0 := by
  unfold oneF at h
  by_cases hc : k < 0 ∨ 14 < k ∨ (neg = true ∧ k ≠ 4 ∧ k ≠ 5)
  · rw [if_pos hc] at h; cases h
  rw [if_neg hc] at h
  by_cases hd : bitsF k < 64 ∧ n / 2 ^ (bitsF k).toNat ≠ 0
  · rw [if_pos hd] at h; cases h
  · exact Classical.not_not.1 fun h' => hd ⟨hb, h'⟩
theorem ro_tail {k : Int} {neg : Bool} {n : Int} {s : ByteArray} {l : List T} (h : oneF k neg n s l = true) (h10 : k ≠ 10) : tailF k n s l = true := by
  unfold oneF at h
  by_cases hc : k < 0 ∨ 14 < k ∨ (neg = true ∧ k ≠ 4 ∧ k ≠ 5)
  · rw [if_pos hc] at h; cases h
  rw [if_neg hc] at h
  by_cases hd : bitsF k < 64 ∧ n / 2 ^ (bitsF k).toNat ≠ 0
  · rw [if_pos hd] at h; cases h
  rw [if_neg hd, if_neg h10] at h
  exact h
theorem ro_chk {neg : Bool} {n : Int} {s : ByteArray} {l : List T} (h : oneF 10 neg n s l = true) : (chk s).2 = 0 := by
  unfold oneF at h
  by_cases hc : (10 : Int) < 0 ∨ 14 < (10 : Int) ∨ (neg = true ∧ (10 : Int) ≠ 4 ∧ (10 : Int) ≠ 5)
  · rw [if_pos hc] at h; cases h
  rw [if_neg hc] at h
  by_cases hd : bitsF 10 < 64 ∧ n / 2 ^ (bitsF 10).toNat ≠ 0
  · rw [if_pos hd] at h; cases h
  rw [if_neg hd, if_pos rfl] at h
  simpa using h
theorem toList_nil {s : ByteArray} (h : (s.toList == []) = true) : s = ⟨#[]⟩ := by
  rw [ByteArray.toList_eq] at h
  obtain ⟨⟨l⟩⟩ := s
  have h2 : l = [] := by simpa using h
  rw [h2]
theorem ro_text {k : Int} {neg : Bool} {n : Int} {s : ByteArray} {l : List T} (h : oneF k neg n s l = true) (hk : k ≠ 5 ∧ k ≠ 9 ∧ k ≠ 10 ∧ k ≠ 14) : s = ⟨#[]⟩ := by
  have h1 := ro_tail h hk.2.2.1
  unfold tailF at h1
  rw [if_neg (by omega), if_neg hk.1] at h1
  by_cases c3 : k = 3 ∧ 19 < n ∧ n < 32
  · rw [if_pos c3] at h1; cases h1
  rw [if_neg c3] at h1
  by_cases c12 : k = 12 ∧ l.length % 2 ≠ 0
  · rw [if_pos c12] at h1; cases h1
  rw [if_neg c12] at h1
  by_cases c13 : k = 13 ∧ (l.length ≠ 1 ∨ (n / 2 = 1 ∧ (P.rd_T25 l 0).f0 = 9 ∧ bigF (P.rd_T25 l 0).f3 = true))
  · rw [if_pos c13] at h1; cases h1
  rw [if_neg c13] at h1
  exact toList_nil h1
theorem ro_simple {neg : Bool} {n : Int} {s : ByteArray} {l : List T} (h : oneF 3 neg n s l = true) : ¬ (19 < n ∧ n < 32) := by
  have h1 := ro_tail h (by decide)
  unfold tailF at h1
  rw [if_neg (by omega), if_neg (by decide)] at h1
  intro h2
  rw [if_pos ⟨rfl, h2⟩] at h1
  cases h1
theorem ro_map {neg : Bool} {n : Int} {s : ByteArray} {l : List T} (h : oneF 12 neg n s l = true) : l.length % 2 = 0 := by
  have h1 := ro_tail h (by decide)
  unfold tailF at h1
  rw [if_neg (by omega), if_neg (by decide), if_neg (by omega)] at h1
  by_cases c12 : (12 : Int) = 12 ∧ l.length % 2 ≠ 0
  · rw [if_pos c12] at h1; cases h1
  · omega
theorem ro_tag {neg : Bool} {n : Int} {s : ByteArray} {l : List T} (h : oneF 13 neg n s l = true) : ∃ t, l = [t] ∧ (n / 2 = 1 → ¬ (t.f0 = 9 ∧ bigF t.f3 = true)) := by
  have h1 := ro_tail h (by decide)
  unfold tailF at h1
  rw [if_neg (by omega), if_neg (by decide), if_neg (by omega), if_neg (by omega)] at h1
  by_cases c13 : (13 : Int) = 13 ∧ (l.length ≠ 1 ∨ (n / 2 = 1 ∧ (P.rd_T25 l 0).f0 = 9 ∧ bigF (P.rd_T25 l 0).f3 = true))
  · rw [if_pos c13] at h1; cases h1
  match l, c13 with
  | [], c => exact absurd ⟨rfl, .inl (by simp)⟩ c
  | [t], c => exact ⟨t, rfl, fun hn hc => c ⟨rfl, .inr ⟨hn, hc⟩⟩⟩
  | _ :: _ :: _, c => exact absurd ⟨rfl, .inl (by simp)⟩ c
theorem ro_big {neg : Bool} {n : Int} {s : ByteArray} {l : List T} (h : oneF 5 neg n s l = true) : bigF s = true := by
  have h1 := ro_tail h (by decide)
  unfold tailF at h1
  rw [if_neg (by omega), if_pos rfl] at h1
  exact h1
/-- What a number's tag asks of what comes. -/
theorem one_tag_any (k : Int) (neg : Bool) (n : Int) (s : ByteArray) (l : List T) (h : ¬ (k = 9 ∧ bigF s = true)) : oneF 13 false 2 ⟨#[]⟩ [⟨k, neg, n, s, l⟩] = true := by
  unfold oneF tailF
  rw [if_neg (by decide), if_neg (by decide), if_neg (by decide), if_neg (by decide), if_neg (by decide), if_neg (by simp), if_neg (by simp)]
  rw [if_neg (fun h' => by
    rcases h'.2 with h2 | h2
    · simp at h2
    · exact h ⟨h2.2.1, h2.2.2⟩), ByteArray.toList_eq]
  rfl
/-- What stands on top bears what comes. -/
def TopOk (st : List PartC) (k : Int) (s : ByteArray) : Prop := ∀ p rest, st = p :: rest → p.k = 13 → p.n / 2 = 1 → ¬ (k = 9 ∧ bigF s = true)
theorem mayC_leaf {st : List PartC} {count : Nat} {k : Int} {neg : Bool} {n : Int} {s : ByteArray} (h : oneF k neg n s [] = true) (hk : k ≠ 13) (hd : st.length + depthF ⟨k, neg, n, s, []⟩ ≤ 64) (hc : count < 65536) (ht : TopOk st k s) : MayC st count k neg n s := by
  refine ⟨?_, hd, hc, fun p rest e h1 h2 => one_tag_any k neg n s [] (ht p rest e h1 h2)⟩
  unfold rightF
  rw [if_neg hk]
  exact h
theorem mayC_open {st : List PartC} {count : Nat} {k n : Int} (hk : k = 11 ∨ k = 12 ∨ k = 13) (h0 : k ≠ 13 → n = 0) (hd : st.length + 1 ≤ 64) (hc : count < 65536) : MayC st count k false n ⟨#[]⟩ := by
  refine ⟨?_, ?_, hc, fun p rest e h1 h2 => one_tag_any k false n _ [] (fun h => by omega)⟩
  · unfold rightF
    have hnil : ((⟨#[]⟩ : ByteArray).toList == []) = true := by rw [ByteArray.toList_eq]; rfl
    rcases hk with rfl | rfl | rfl
    · obtain rfl := h0 (by decide)
      rw [if_neg (by decide)]
      unfold oneF tailF
      rw [if_neg (by decide), if_neg (by decide), if_neg (by decide), if_neg (by decide), if_neg (by decide), if_neg (by decide), if_neg (by decide), if_neg (fun h => absurd h.1 (by decide))]
      exact hnil
    · obtain rfl := h0 (by decide)
      rw [if_neg (by decide)]
      unfold oneF tailF
      rw [if_neg (by decide), if_neg (by decide), if_neg (by decide), if_neg (by decide), if_neg (by decide), if_neg (by decide), if_neg (by simp), if_neg (fun h => absurd h.1 (by decide))]
      exact hnil
    · rw [if_pos rfl]
      unfold oneF tailF
      rw [if_neg (by decide), if_neg (fun h => absurd h.1 (by decide)), if_neg (by decide), if_neg (by decide), if_neg (by decide), if_neg (fun h => absurd h.1 (by decide)), if_neg (fun h => absurd h.1 (by decide)), if_neg (fun h => by
        rcases h.2 with h2 | h2
        · simp at h2
        · exact absurd h2.2.1 (by decide))]
      exact hnil
  · rcases hk with rfl | rfl | rfl
    · exact hd
    · exact hd
    · exact hd
/-- Big says no. -/
theorem big_no (base bp : Nat) (st : List PartC) (count : Nat) (s : ByteArray) (W : World) (h : BuildIs W base bp st none count) (hsh : Short st) (ht : TopOk st 9 s) : Calls Tryz.prog 78 #[.pointer (some ⟨bp, 0, none⟩), .string s] W (Ret (.bool false) W) := by
  obtain ⟨ov, rs, hO, rfl, hbp, hB⟩ := h
  match rs, hO, hsh, ht with
  | [], hO, _, _ => exact big_root base bp ov count s W hO hB
  | p :: rest, hO, hsh, ht =>
    have hl := hsh.rows.1
    rw [List.length_cons] at hl
    by_cases hk : p.k = 13 ∧ p.n / 2 = 1
    · have := ht p.c (rest.map Raw.c) rfl hk.1 hk.2
      exact big_small base bp ov p rest count s W hO hB (by omega) hk.1 hk.2 (by cases hb : bigF s with | false => rfl | true => exact absurd ⟨rfl, hb⟩ this)
    · exact big_plain base bp ov p rest count s W hO hB (by omega) hk
/-- Big says yes. -/
theorem big_so (base bp : Nat) (m : Int) (st : List PartC) (count : Nat) (s : ByteArray) (W : World) (hb : base ≤ W.heap.size) (h : BuildIs W base bp (⟨13, m, []⟩ :: st) none count) (hsh : Short st) (hm : m / 2 = 1) (hs : bigF s = true) :
    Calls Tryz.prog 78 #[.pointer (some ⟨bp, 0, none⟩), .string s] W (BuildPost base bp (.bool true) (addC st ⟨5, m == 3, 0, s, []⟩).1 (addC st ⟨5, m == 3, 0, s, []⟩).2 count W) := by
  obtain ⟨ov, rs, hO, hst, hbp, hB⟩ := h
  match rs, hO, hst with
  | [], _, hst => cases hst
  | p :: rest, hO, hst =>
    obtain ⟨h1, rfl⟩ := List.cons_eq_cons.1 hst
    have hk : p.k = 13 := congrArg PartC.k h1
    have hn : p.n = m := congrArg PartC.n h1
    have hl := hsh.rows
    have := big_yes base bp p rest ov count s W hb hbp hO hB hl.1 hl.2 hk (by rw [hn]; exact hm) hs
    rw [hn] at this
    exact this
theorem heads_put' (m n : Int) (hm0 : 0 ≤ m) (hm : m ≤ 7) (h0 : 0 ≤ n) (h1 : n < 18446744073709551616) (h7 : m = 7 → n < 24 ∨ 31 < n) : Heads (putF m n) m (infoF n) n := by
  obtain ⟨m, rfl⟩ := Int.eq_ofNat_of_zero_le hm0
  exact heads_put m n (by omega) h0 h1 (fun h => h7 (by omega))
theorem infoF_small (n : Int) : infoF n ≠ 31 := by
  unfold infoF
  repeat' split
  all_goals omega
theorem preL_long : ∀ l : List T, l.length ≤ (preL l).length
  | [] => Nat.le_refl _
  | ⟨k, neg, n, s, l⟩ :: r => by
    have := preL_long r
    simp only [preL, preF, List.length_append, List.length_cons]
    omega
theorem preF_one (t : T) : 1 ≤ (preF t).length := by
  obtain ⟨k, neg, n, s, l⟩ := t
  simp [preF]
theorem depthL_mem : ∀ {l : List T} {t : T}, t ∈ l → depthF t ≤ depthL l
  | x :: r, t, h => by
    simp only [depthL]
    rcases List.mem_cons.1 h with rfl | h
    · omega
    · have := depthL_mem h; omega
theorem preL_part (l : List T) (k : Nat) : (preL (l.take k)).length ≤ (preL l).length := by
  have app : ∀ a b : List T, preL (a ++ b) = preL a ++ preL b := by
    intro a b
    induction a with
    | nil => rfl
    | cons x a ih => simp only [List.cons_append, preL, ih, List.append_assoc]
  have := congrArg List.length (app (l.take k) (l.drop k))
  rw [List.take_append_drop, List.length_append] at this
  omega
end Go.Proofs.YtfmceonbejlhlaaGreatDoor

/-
  cbor's Reader: any right value is read.
-/
namespace Go.Proofs.YtfmceonbejlhlaaGreatDoor
open Go.RowKit Go.Proofs.YtfmceonbejlhlaaGreatDoorW.PrintWords Go.Proofs.YtfmceonbejlhlaaGreatDoorW.PrintLast Go.Proofs.YtfmceonbejlhlaaGreatDoorW.PrintMore
set_option linter.unusedVariables false

theorem textF_shut (m : Nat) (s : ByteArray) : textF false m s = putF m s.size ++ strB s := by
  unfold textF
  rw [if_neg (by decide), if_neg (by simp), if_neg (by decide), List.nil_append, List.append_nil]
theorem textF_open (m : Nat) (s : ByteArray) (r : List Int) : textF true m s ++ r = [(m : Int) * 32 + 31] ++ ((if s ≠ ⟨#[]⟩ then putF m s.size else []) ++ (strB s ++ 255 :: r)) := by
  unfold textF
  rw [if_pos rfl, if_pos rfl]
  by_cases h : s = ⟨#[]⟩
  · rw [if_neg (fun h' => h'.2 h), if_neg (fun h' => h' h)]; simp
  · rw [if_pos ⟨rfl, h⟩, if_pos h]; simp
section
variable {base rp bp bg n cap qb : Nat} {bs : List Int}
/-- A value's bytes are read. -/
def Reads (base rp bp bg n cap qb : Nat) (bs : List Int) (op : Bool) (t : T) : Prop :=
  ∀ (pos count : Nat) (st : List PartC) (r : List Int) (W : World), Rs base rp bp bg n cap qb bs pos st none count W → bs.drop pos = itemF op t ++ r → st.length + depthF t ≤ 64 → count + (preF t).length ≤ 65536 → Short st → TopOk st t.f0 t.f3 →
    Calls Tryz.prog 46 #[.pointer (some ⟨rp, 0, none⟩)] W (ReadPost base rp bp bg n cap qb bs (.tuple #[]) (pos + (itemF op t).length) (addC st t).1 (addC st t).2 (count + (preF t).length) W)
theorem leaf_evs {pos count : Nat} {st : List PartC} {k : Int} {neg : Bool} {x : Int} {s : ByteArray} (h : oneF k neg x s [] = true) (hs : s.size ≤ 1073741824) (hl : leafF k = true) (hd : st.length + depthF ⟨k, neg, x, s, []⟩ ≤ 64) (hc : count < 65536) (hsh : Short st) (ht : TopOk st k s) :
    Evs base rp bp bg n cap qb bs pos count st k neg x s (addC st ⟨k, neg, x, s, []⟩).1 (addC st ⟨k, neg, x, s, []⟩).2 (count + 1) :=
  evs_of_puts (puts_leaf base bp st count k neg x s hs (mayC_leaf h (by rintro rfl; cases hl) hd hc ht) hsh (by rintro rfl; have := ro_kind h; omega) hl)
/-- A value of the major 7. -/
theorem reads_seven (op : Bool) (hd : List Int) (info x k v : Int) (hh : Heads hd 7 info x) (hi : info ≠ 31) (hx0 : 0 ≤ x) (hx1 : x < 18446744073709551616) (h20 : info = 20 ∨ info = 21 → 20 ≤ x) (ho : otherF info x = (k, v)) (hl : leafF k = true) (h1 : oneF k false v ⟨#[]⟩ [] = true)
    (hit : itemF op ⟨k, false, v, ⟨#[]⟩, []⟩ = hd) : Reads base rp bp bg n cap qb bs op ⟨k, false, v, ⟨#[]⟩, []⟩ := by
  intro pos count st r W hRs hb hdp hc hsh ht
  rw [hit] at hb ⊢
  have hE := leaf_evs (base := base) (rp := rp) (bp := bp) (bg := bg) (n := n) (cap := cap) (qb := qb) (bs := bs) (count := count) (pos := pos + hd.length) h1 (Nat.zero_le _) hl hdp (by have := preF_one ⟨k, false, v, ⟨#[]⟩, []⟩; omega) hsh ht
  refine item_seven pos count _ st _ _ W hRs hd r hb info x hh hi (fun W => other_any info x hx0 hx1 h20 W) ?_
  rw [ho]
  exact hE
theorem reads_num (op neg : Bool) (x : Int) (hx0 : 0 ≤ x) (hx1 : x < 18446744073709551616) (h1 : oneF 4 neg x ⟨#[]⟩ [] = true) (hit : itemF op ⟨4, neg, x, ⟨#[]⟩, []⟩ = putF (if neg then 1 else 0) x) : Reads base rp bp bg n cap qb bs op ⟨4, neg, x, ⟨#[]⟩, []⟩ := by
  intro pos count st r W hRs hb hdp hc hsh ht
  rw [hit] at hb ⊢
  have hE := leaf_evs (base := base) (rp := rp) (bp := bp) (bg := bg) (n := n) (cap := cap) (qb := qb) (bs := bs) (count := count) (pos := pos + (putF (if neg then 1 else 0) x).length) h1 (Nat.zero_le _) rfl hdp (by have := preF_one ⟨4, neg, x, ⟨#[]⟩, []⟩; omega) hsh ht
  cases neg
  · rw [if_neg (by decide)] at hb hE ⊢
    exact item_num0 pos count _ st _ _ W hRs _ r hb (infoF x) x (heads_put' 0 x (by omega) (by omega) hx0 hx1 (by omega)) hE
  · rw [if_pos rfl] at hb hE ⊢
    exact item_num1 pos count _ st _ _ W hRs _ r hb (infoF x) x (heads_put' 1 x (by omega) (by omega) hx0 hx1 (by omega)) hE
/-- The place behind an open text. -/
theorem open_text (m : Nat) (hm : m = 2 ∨ m = 3) (pos count : Nat) (st : List PartC) (wh : Option T) (s : ByteArray) (r : List Int) (W : World) (h : Rs base rp bp bg n cap qb bs (pos + 1) st wh count W) (hb : bs.drop pos = textF true m s ++ r) (hchk : m = 3 → (chk s).2 = 0) (hs : s.size ≤ 1073741824) :
    Calls Tryz.prog 76 #[.pointer (some ⟨rp, 0, none⟩), .int .i64 m] W (ReadPost base rp bp bg n cap qb bs (.string s) (pos + (textF true m s).length) st wh count W) := by
  have hl := bytes_len h.len hb
  rw [textF_open] at hb
  have hd := drop_more hb
  rw [List.length_singleton] at hd
  have hpos : n - r.length = pos + (textF true m s).length := by
    rcases hl with hl | hl
    · omega
    · exfalso
      have hz := congrArg List.length hl.1
      unfold textF at hz
      rw [if_pos rfl] at hz
      simp at hz
  rw [← hpos]
  refine pieces_any m hm (pos + 1) count st wh s r W h ?_ hchk hs
  by_cases hz : s = ⟨#[]⟩
  · rw [if_neg (fun h => h hz)] at hd
    subst hz
    exact .inl ⟨by simpa [strB] using hd, rfl⟩
  · rw [if_pos hz] at hd
    exact .inr hd
theorem reads_bytes (op : Bool) (s : ByteArray) (hs : s.size ≤ 1073741824) (h1 : oneF 9 false 0 s [] = true) (hit : itemF op ⟨9, false, 0, s, []⟩ = textF op 2 s) : Reads base rp bp bg n cap qb bs op ⟨9, false, 0, s, []⟩ := by
  intro pos count st r W hRs hb hdp hc hsh ht
  rw [hit] at hb ⊢
  have hE := fun p => leaf_evs (base := base) (rp := rp) (bp := bp) (bg := bg) (n := n) (cap := cap) (qb := qb) (bs := bs) (count := count) (pos := p) h1 hs rfl hdp (by have := preF_one ⟨9, false, 0, s, []⟩; omega) hsh ht
  have hBig : ∀ p W, Rs base rp bp bg n cap qb bs p st none count W → Calls Tryz.prog 78 #[.pointer (some ⟨bp, 0, none⟩), .string s] W (Ret (.bool false) W) := fun p W hW => big_no base bp st count s W hW.build hsh ht
  cases op
  · rw [textF_shut] at hb ⊢
    rw [List.append_assoc] at hb
    have hd := drop_more hb
    rw [List.length_append, strB_len, ← Nat.add_assoc]
    exact item_str2c pos _ count _ st _ _ W s hRs _ _ hb _ _ (heads_put' _ s.size (by omega) (by omega) (by omega) (by omega) (by omega)) (infoF_small _) (fun W at_ hW => bytes_any _ count st none at_ s r W hW hd) (hBig _) (hE _)
  · have hb2 := hb
    rw [textF_open] at hb
    exact item_str2o pos _ count _ st _ _ W s hRs _ _ hb 31 0 (heads_open 2 (by omega) (by omega)) rfl (fun W _ hW => open_text 2 (.inl rfl) pos count st none s r W hW hb2 (by omega) hs) (hBig _) (hE _)
theorem reads_text (op : Bool) (s : ByteArray) (hs : s.size ≤ 1073741824) (h1 : oneF 10 false 0 s [] = true) (hit : itemF op ⟨10, false, 0, s, []⟩ = textF op 3 s) : Reads base rp bp bg n cap qb bs op ⟨10, false, 0, s, []⟩ := by
  intro pos count st r W hRs hb hdp hc hsh ht
  rw [hit] at hb ⊢
  have hE := fun p => leaf_evs (base := base) (rp := rp) (bp := bp) (bg := bg) (n := n) (cap := cap) (qb := qb) (bs := bs) (count := count) (pos := p) h1 hs rfl hdp (by have := preF_one ⟨10, false, 0, s, []⟩; omega) hsh ht
  have hch := ro_chk h1
  cases op
  · rw [textF_shut] at hb ⊢
    rw [List.append_assoc] at hb
    have hd := drop_more hb
    rw [List.length_append, strB_len, ← Nat.add_assoc]
    exact item_str3c pos _ count _ st _ _ W s hRs _ _ hb _ _ (heads_put' _ s.size (by omega) (by omega) (by omega) (by omega) (by omega)) (infoF_small _) (fun W at_ hW => text_read _ count st none at_ s r W hW hd hch) trivial (hE _)
  · have hb2 := hb
    rw [textF_open] at hb
    exact item_str3o pos _ count _ st _ _ W s hRs _ _ hb 31 0 (heads_open 3 (by omega) (by omega)) rfl (fun W _ hW => open_text 3 (.inr rfl) pos count st none s r W hW hb2 (fun _ => hch) hs) trivial (hE _)
theorem short_push {st : List PartC} {p : PartC} (h : Short st) (hst : st.length + 1 ≤ 64) (hp : p.l.length ≤ 4294967296) : Short (p :: st) := by
  refine ⟨by rw [List.length_cons]; omega, fun q hq => ?_⟩
  rcases List.mem_cons.1 hq with rfl | hq
  · exact hp
  · exact h.2 q hq
theorem reads_big (op neg : Bool) (s : ByteArray) (hs : s.size ≤ 1073741824) (h1 : bigF s = true) (hit : itemF op ⟨5, neg, 0, s, []⟩ = putF 6 (2 + if neg then 1 else 0) ++ textF op 2 s) : Reads base rp bp bg n cap qb bs op ⟨5, neg, 0, s, []⟩ := by
  intro pos count st r W hRs hb hdp hc hsh ht
  rw [hit] at hb ⊢
  obtain ⟨m, hm⟩ : ∃ m : Int, (2 + if neg then 1 else 0) = m := ⟨_, rfl⟩
  have hmm : m / 2 = 1 ∧ (m == 3) = neg ∧ 0 ≤ m ∧ m ≤ 3 := by cases neg <;> (subst hm; decide)
  rw [hm] at hb ⊢
  rw [List.append_assoc] at hb
  have hb1 := drop_more hb
  have hst : st.length + 1 ≤ 64 := hdp
  have hcc : count < 65536 := by have := preF_one ⟨5, neg, 0, s, []⟩; omega
  have hsh2 : Short (⟨13, m, []⟩ :: st) := short_push hsh hst (Nat.zero_le _)
  rw [List.length_append, ← Nat.add_assoc]
  refine item_tag pos _ count (count + 1) _ st (⟨13, m, []⟩ :: st) _ _ W hRs _ _ hb _ m (heads_put' 6 m (by omega) (by omega) (by omega) (by omega) (by omega)) (evs_of_puts (puts_open base bp st count 13 m (mayC_open (.inr (.inr rfl)) (by omega) hst hcc) hsh (by decide) rfl)) (fun W hW => ?_)
  obtain ⟨L, hL⟩ : ∃ L, pos + (putF 6 m).length = L := ⟨_, rfl⟩
  rw [hL] at hW hb1 ⊢
  have hBig : ∀ p W, Rs base rp bp bg n cap qb bs p (⟨13, m, []⟩ :: st) none (count + 1) W → Calls Tryz.prog 78 #[.pointer (some ⟨bp, 0, none⟩), .string s] W (BuildPost base bp (.bool true) (addC st ⟨5, neg, 0, s, []⟩).1 (addC st ⟨5, neg, 0, s, []⟩).2 (count + 1) W) := fun p W hW => by
    have := big_so base bp m st (count + 1) s W hW.size hW.build hsh hmm.1 h1
    rw [hmm.2.1] at this
    exact this
  cases op
  · rw [textF_shut] at hb1 ⊢
    rw [List.append_assoc] at hb1
    have hd := drop_more hb1
    rw [List.length_append, strB_len, ← Nat.add_assoc]
    exact item_bigc L _ (count + 1) _ _ _ _ W s hW _ _ hb1 _ _ (heads_put' _ s.size (by omega) (by omega) (by omega) (by omega) (by omega)) (infoF_small _) (fun W at_ hW => bytes_any _ _ _ none at_ s r W hW hd) (hBig _)
  · have hb2 := hb1
    rw [textF_open] at hb1
    exact item_bigo L _ (count + 1) _ _ _ _ W s hW _ _ hb1 31 0 (heads_open 2 (by omega) (by omega)) rfl (fun W _ hW => open_text 2 (.inl rfl) L _ _ none s r W hW hb2 (by omega) hs) (hBig _)
end
end Go.Proofs.YtfmceonbejlhlaaGreatDoor

/-
  cbor's Reader: any right value is read (lists, maps, tags).
-/
namespace Go.Proofs.YtfmceonbejlhlaaGreatDoor
open Go.RowKit Go.Proofs.YtfmceonbejlhlaaGreatDoorW.PrintWords Go.Proofs.YtfmceonbejlhlaaGreatDoorW.PrintLast Go.Proofs.YtfmceonbejlhlaaGreatDoorW.PrintMore
set_option linter.unusedVariables false

section
variable {base rp bp bg n cap qb : Nat} {bs : List Int}
set_option maxRecDepth 100000 in
set_option maxHeartbeats 4000000 in
theorem item_many4 (pos pos' count count' : Nat) (st st' : List PartC) (wh' : Option T) (w : World) (h : Rs base rp bp bg n cap qb bs pos st none count w) (hd r : List Int) (hb : bs.drop pos = hd ++ r) (info x : Int) (hh : Heads hd 4 info x)
    (hI : ∀ W at_, Rs base rp bp bg n cap qb bs (pos + hd.length) st none count W → Calls Tryz.prog 79 #[.pointer (some ⟨rp, 0, none⟩), .int .i64 at_, .int .i64 11, .int .i64 info, .int .u64 x] W (ReadPost base rp bp bg n cap qb bs (.tuple #[]) pos' st' wh' count' W)) :
    Calls Tryz.prog 46 #[.pointer (some ⟨rp, 0, none⟩)] w (ReadPost base rp bp bg n cap qb bs (.tuple #[]) pos' st' wh' count' w) := by
  have HHd := Lib.hid (rhead_any pos count st none w h hd r hb 4 info x hh)
  have c5 := h.rb.c5
  have HI := Lib.hid hI
  clear h hb hh hI
  go_enter Tryz.func46, Tryz.ntmps46
  go_wp2_with (first
    | (go_at_call 74; refine HHd.out.mono ?_; rintro e w1 ⟨rfl, h1, hb1⟩; have H1 := Lib.hid h1; clear h1)
    | (go_at_call 79; refine (HI.out _ _ H1.out).mono ?_; rintro e w3 ⟨rfl, h3, hb3⟩))
  go_end0
  exact ⟨rfl, h3, hb1.trans hb3⟩
set_option maxRecDepth 100000 in
set_option maxHeartbeats 4000000 in
theorem item_many5 (pos pos' count count' : Nat) (st st' : List PartC) (wh' : Option T) (w : World) (h : Rs base rp bp bg n cap qb bs pos st none count w) (hd r : List Int) (hb : bs.drop pos = hd ++ r) (info x : Int) (hh : Heads hd 5 info x)
    (hI : ∀ W at_, Rs base rp bp bg n cap qb bs (pos + hd.length) st none count W → Calls Tryz.prog 79 #[.pointer (some ⟨rp, 0, none⟩), .int .i64 at_, .int .i64 12, .int .i64 info, .int .u64 x] W (ReadPost base rp bp bg n cap qb bs (.tuple #[]) pos' st' wh' count' W)) :
    Calls Tryz.prog 46 #[.pointer (some ⟨rp, 0, none⟩)] w (ReadPost base rp bp bg n cap qb bs (.tuple #[]) pos' st' wh' count' w) := by
  have HHd := Lib.hid (rhead_any pos count st none w h hd r hb 5 info x hh)
  have c5 := h.rb.c5
  have HI := Lib.hid hI
  clear h hb hh hI
  go_enter Tryz.func46, Tryz.ntmps46
  go_wp2_with (first
    | (go_at_call 74; refine HHd.out.mono ?_; rintro e w1 ⟨rfl, h1, hb1⟩; have H1 := Lib.hid h1; clear h1)
    | (go_at_call 79; refine (HI.out _ _ H1.out).mono ?_; rintro e w3 ⟨rfl, h3, hb3⟩))
  go_end0
  exact ⟨rfl, h3, hb1.trans hb3⟩
theorem addC_part (kind : Int) (hk : kind ≠ 13) (l : List T) (t : T) (st : List PartC) : addC (⟨kind, 0, l⟩ :: st) t = (⟨kind, 0, l ++ [t]⟩ :: st, none) := by
  rw [addC, if_neg hk]
theorem itemAt_of (op : Bool) (kind : Int) (hk : kind = 11 ∨ kind = 12) (l : List T) (st : List PartC) (c0 : Nat) (hsh : Short st) (hst : st.length + 1 + depthL l ≤ 64) (hc : c0 + 1 + (preL l).length ≤ 65536) (h : ∀ t ∈ l, Reads base rp bp bg n cap qb bs op t) :
    ItemAt base rp bp bg n cap qb bs op kind l st (c0 + 1) := by
  intro k t ht W p r hb hW
  have hm := List.mem_of_getElem? ht
  have h1 := preL_part l (k + 1)
  have h2 := preL_take ht
  have h3 := congrArg List.length h2
  rw [List.length_append] at h3
  have h4 := preL_long (l.take k)
  have h5 := preL_part l k
  have := h t hm p (c0 + 1 + (preL (l.take k)).length) (⟨kind, 0, l.take k⟩ :: st) r W hW hb (by rw [List.length_cons]; have := depthL_mem hm; omega) (by omega) (short_push hsh (by omega) (by show (l.take k).length ≤ _; omega))
    (fun q rest e hq _ => by
      obtain ⟨rfl, _⟩ := List.cons_eq_cons.1 e
      have hq' : kind = 13 := hq
      omega)
  rw [addC_part kind (by omega)] at this
  rw [h3, ← Nat.add_assoc, show l.take (k + 1) = l.take k ++ [t] by rw [List.take_add_one, ht, Option.toList_some]]
  exact this
theorem reads_many (op : Bool) (k : Int) (hk : k = 11 ∨ k = 12) (l : List T) (h1 : k = 12 → l.length % 2 = 0) (hfirst : ∀ t ∈ l, ∃ (b : Int) (r : List Int), itemF op t = b :: r ∧ b ≠ 255) (ih : ∀ t ∈ l, Reads base rp bp bg n cap qb bs op t)
    (hit : itemF op ⟨k, false, 0, ⟨#[]⟩, l⟩ = openF op (if k = 11 then 4 else 5) (if k = 11 then l.length else l.length / 2 : Nat) ++ (itemsF op l ++ if op then [255] else [])) : Reads base rp bp bg n cap qb bs op ⟨k, false, 0, ⟨#[]⟩, l⟩ := by
  intro pos count st r W hRs hb hdp hc hsh ht
  rw [hit] at hb ⊢
  have hdp' : st.length + (depthL l + 1) ≤ 64 := by rcases hk with rfl | rfl <;> exact hdp
  have hc' : count + ((preL l).length + 1) ≤ 65536 := hc
  have hll := preL_long l
  have hop : ∀ p, Evs base rp bp bg n cap qb bs p count st k false 0 ⟨#[]⟩ (⟨k, 0, []⟩ :: st) none (count + 1) := fun p => evs_of_puts (puts_open base bp st count k 0 (mayC_open (by omega) (fun _ => rfl) (by omega) (by omega)) hsh (by omega) (by rcases hk with rfl | rfl <;> rfl))
  have hat := itemAt_of (base := base) (rp := rp) (bp := bp) (bg := bg) (n := n) (cap := cap) (qb := qb) (bs := bs) op k hk l st count hsh (by omega) (by omega) ih
  have hsh2 : Short (⟨k, 0, l⟩ :: st) := short_push hsh (by omega) (by show l.length ≤ _; omega)
  have hct : count + (preF ⟨k, false, 0, ⟨#[]⟩, l⟩).length = count + 1 + (preL l).length := by
    show count + ((preL l).length + 1) = _
    omega
  rw [hct]
  rw [List.append_assoc] at hb
  cases op
  · rw [if_neg (show ¬ (false = true) by decide), List.append_nil] at hb ⊢
    unfold openF at hb ⊢
    rw [if_neg (show ¬ (false = true) by decide)] at hb ⊢
    have hd := drop_more hb
    rw [List.length_append, ← Nat.add_assoc]
    rcases hk with rfl | rfl
    · rw [if_pos rfl, if_pos rfl] at hb hd ⊢
      exact item_many4 pos _ count _ st _ _ W hRs _ _ hb _ _ (heads_put' 4 _ (by omega) (by omega) (by omega) (by omega) (by omega)) (fun W at_ hW => many_list_shut _ count l st at_ _ _ (infoF_small _) r W hW hd rfl hfirst trivial (hop _) hat hsh2)
    · rw [if_neg (by decide), if_neg (by decide)] at hb hd ⊢
      have h2 := h1 rfl
      exact item_many5 pos _ count _ st _ _ W hRs _ _ hb _ _ (heads_put' 5 _ (by omega) (by omega) (by omega) (by omega) (by omega)) (fun W at_ hW => many_map_shut _ count l st at_ _ _ (infoF_small _) r W hW hd (by omega) hfirst h2 (hop _) hat hsh2)
  · rw [if_pos rfl] at hb ⊢
    unfold openF at hb ⊢
    rw [if_pos rfl] at hb ⊢
    rw [List.append_assoc] at hb
    have hd := drop_more hb
    rw [List.length_append, List.length_append, ← Nat.add_assoc, ← Nat.add_assoc]
    rcases hk with rfl | rfl
    · rw [if_pos rfl] at hb hd ⊢
      exact item_many4 pos _ count _ st _ _ W hRs _ _ hb 31 0 (heads_open 4 (by omega) (by omega)) (fun W at_ hW => many_list_open _ count l st at_ 0 r W hW hd trivial hfirst trivial (hop _) hat hsh2)
    · rw [if_neg (by decide)] at hb hd ⊢
      have h2 := h1 rfl
      exact item_many5 pos _ count _ st _ _ W hRs _ _ hb 31 0 (heads_open 5 (by omega) (by omega)) (fun W at_ hW => many_map_open _ count l st at_ 0 r W hW hd trivial hfirst h2 (hop _) hat hsh2)
theorem reads_tag (op : Bool) (v : Int) (h0 : 0 ≤ v) (hv : v < 18446744073709551616) (t : T) (h1 : v / 2 = 1 → ¬ (t.f0 = 9 ∧ bigF t.f3 = true)) (ih : Reads base rp bp bg n cap qb bs op t)
    (hit : itemF op ⟨13, false, v, ⟨#[]⟩, [t]⟩ = putF 6 v ++ itemF op t) : Reads base rp bp bg n cap qb bs op ⟨13, false, v, ⟨#[]⟩, [t]⟩ := by
  intro pos count st r W hRs hb hdp hc hsh ht
  rw [hit] at hb ⊢
  have hdp' : st.length + (max (depthF t) 0 + 1) ≤ 64 := hdp
  have hpl : (preF ⟨13, false, v, ⟨#[]⟩, [t]⟩).length = (preF t).length + 1 := by simp [preF, preL]
  rw [hpl] at hc ⊢
  have h2 := preF_one t
  rw [List.append_assoc] at hb
  have hd := drop_more hb
  rw [List.length_append, ← Nat.add_assoc]
  refine item_tag pos _ count (count + 1) _ st (⟨13, v, []⟩ :: st) _ _ W hRs _ _ hb _ v (heads_put' 6 v (by omega) (by omega) h0 hv (by omega)) (evs_of_puts (puts_open base bp st count 13 v (mayC_open (.inr (.inr rfl)) (by omega) (by omega) (by omega)) hsh (by decide) rfl)) (fun W hW => ?_)
  have := ih _ (count + 1) (⟨13, v, []⟩ :: st) r W hW hd (by rw [List.length_cons]; omega) (by omega) (short_push hsh (by omega) (Nat.zero_le _)) (fun q rest e hq hn => by
    obtain ⟨rfl, _⟩ := List.cons_eq_cons.1 e
    exact h1 hn)
  rw [addC, if_pos rfl, show count + 1 + (preF t).length = count + ((preF t).length + 1) by omega] at this
  exact this
end
end Go.Proofs.YtfmceonbejlhlaaGreatDoor

/-
  cbor's Reader: any right value is read.
-/
namespace Go.Proofs.YtfmceonbejlhlaaGreatDoor
open Go.RowKit Go.Proofs.YtfmceonbejlhlaaGreatDoorW.PrintWords Go.Proofs.YtfmceonbejlhlaaGreatDoorW.PrintLast Go.Proofs.YtfmceonbejlhlaaGreatDoorW.PrintMore
set_option linter.unusedVariables false

section
variable {k n : Int} {neg : Bool} {s : ByteArray} {l : List T} (op : Bool)
theorem it0 : itemF op ⟨0, neg, n, s, l⟩ = putF 7 22 := by unfold itemF; rw [if_pos (Eq.refl _)]
theorem it1 : itemF op ⟨1, neg, n, s, l⟩ = putF 7 (n + 20) := by unfold itemF; rw [if_neg (by decide), if_pos (Eq.refl _)]
theorem it2 : itemF op ⟨2, neg, n, s, l⟩ = putF 7 23 := by unfold itemF; rw [if_neg (by decide), if_neg (by decide), if_pos (Eq.refl _)]
theorem it3 : itemF op ⟨3, neg, n, s, l⟩ = putF 7 n := by unfold itemF; rw [if_neg (by decide), if_neg (by decide), if_neg (by decide), if_pos (Eq.refl _)]
theorem it4 : itemF op ⟨4, neg, n, s, l⟩ = putF (if neg then 1 else 0) n := by unfold itemF; rw [if_neg (by decide), if_neg (by decide), if_neg (by decide), if_neg (by decide), if_pos (Eq.refl _)]
theorem it5 : itemF op ⟨5, neg, n, s, l⟩ = putF 6 (2 + if neg then 1 else 0) ++ textF op 2 s := by
  unfold itemF
  iterate 5 rw [if_neg (by decide)]
  rw [if_pos (Eq.refl _)]
theorem it6 : itemF op ⟨6, neg, n, s, l⟩ = 249 :: numBytes 2 n := by
  unfold itemF
  iterate 6 rw [if_neg (by decide)]
  rw [if_pos (Eq.refl _)]
theorem it7 : itemF op ⟨7, neg, n, s, l⟩ = 250 :: numBytes 4 n := by
  unfold itemF
  iterate 7 rw [if_neg (by decide)]
  rw [if_pos (Eq.refl _)]
theorem it8 : itemF op ⟨8, neg, n, s, l⟩ = 251 :: numBytes 8 n := by
  unfold itemF
  iterate 8 rw [if_neg (by decide)]
  rw [if_pos (Eq.refl _)]
theorem it9 : itemF op ⟨9, neg, n, s, l⟩ = textF op 2 s := by
  unfold itemF
  iterate 9 rw [if_neg (by decide)]
  rw [if_pos (Eq.refl _)]
theorem it10 : itemF op ⟨10, neg, n, s, l⟩ = textF op 3 s := by
  unfold itemF
  iterate 10 rw [if_neg (by decide)]
  rw [if_pos (Eq.refl _)]
theorem it11 : itemF op ⟨11, neg, n, s, l⟩ = openF op 4 l.length ++ (itemsF op l ++ if op then [255] else []) := by
  unfold itemF
  iterate 11 rw [if_neg (by decide)]
  rw [if_pos (Eq.refl _)]
theorem it12 : itemF op ⟨12, neg, n, s, l⟩ = openF op 5 (l.length / 2 : Nat) ++ (itemsF op l ++ if op then [255] else []) := by
  unfold itemF
  iterate 12 rw [if_neg (by decide)]
  rw [if_pos (Eq.refl _)]
theorem it13 : itemF op ⟨13, neg, n, s, l⟩ = putF 6 n ++ itemsF op l := by
  unfold itemF
  iterate 13 rw [if_neg (by decide)]
  rw [if_pos (Eq.refl _)]
end
theorem saysL_mem : ∀ {l : List T} {t : T}, saysL l = true → t ∈ l → saysF t = true
  | x :: r, t, hw, h => by
    simp only [saysL, Bool.and_eq_true] at hw
    rcases List.mem_cons.1 h with rfl | h
    · exact hw.1
    · exact saysL_mem hw.2 h
section
variable {base rp bp bg n cap qb : Nat} {bs : List Int}
theorem reads_any (op : Bool) : ∀ t : T, Rt t → Wf t → saysF t = true → bulk t ≤ 1073741824 → Reads base rp bp bg n cap qb bs op t := by
  intro t
  induction t using T.ind with
  | h k neg v s l ih =>
    intro hR hW hS hbk
    have h1 := hR.1.1
    have hk := ro_kind h1
    have hk14 : k ≠ 14 := by intro h; subst h; simp [saysF] at hS
    have hu := u64_of_wf hW.2.1
    have hlf := hR.1.2
    have hbs := bulk_str ⟨k, neg, v, s, l⟩
    have hss : s.size ≤ 1073741824 := by
      have : bulk ⟨k, neg, v, s, l⟩ = s.size + bulkL l + 1 := hbs
      omega
    have hSl : saysL l = true := by
      simp only [saysF, Bool.and_eq_true] at hS
      exact hS.1
    have hkid : ∀ t ∈ l, Reads base rp bp bg n cap qb bs op t := fun t ht => ih t ht (rtL_mem hR.2 ht) (wfL_mem hW.2.2 ht) (saysL_mem hSl ht) (by
      have := bulkL_mem ht
      have h3 : bulk ⟨k, neg, v, s, l⟩ = s.size + bulkL l + 1 := hbs
      omega)
    have hfirst : ∀ t ∈ l, ∃ (b : Int) (r : List Int), itemF op t = b :: r ∧ b ≠ 255 := fun t ht => itemF_first op t (rtL_mem hR.2 ht) (wfL_mem hW.2.2 ht) (saysL_mem hSl ht)
    clear ih hbs hSl hbk hS hR
    by_cases e0 : k = 0
    · subst e0
      obtain rfl := hlf rfl
      obtain rfl := ro_neg h1 (by decide) (by decide)
      obtain rfl := ro_text h1 (by decide)
      have hv := ro_bits h1 (by decide)
      obtain rfl : v = 0 := by simpa [bitsF] using hv
      exact reads_seven op _ _ 22 0 0 (heads_put' 7 22 (by omega) (by omega) (by omega) (by omega) (by omega)) (infoF_small _) (by omega) (by omega) (by decide) (by decide) rfl h1 (it0 op)
    by_cases e1 : k = 1
    · subst e1
      obtain rfl := hlf rfl
      obtain rfl := ro_neg h1 (by decide) (by decide)
      obtain rfl := ro_text h1 (by decide)
      have hv := ro_bits h1 (by decide)
      have hv2 : v = 0 ∨ v = 1 := by
        have : v / 2 ^ 1 = 0 := hv
        omega
      have hi : infoF (v + 20) = v + 20 := by unfold infoF; rw [if_pos (by omega)]
      refine reads_seven op _ _ (v + 20) 1 v (heads_put' 7 (v + 20) (by omega) (by omega) (by omega) (by omega) (by omega)) (infoF_small _) (by omega) (by omega) (by omega) ?_ rfl h1 (it1 op)
      rw [hi]
      unfold otherF
      rw [if_pos (by omega), Int.add_sub_cancel]
    by_cases e2 : k = 2
    · subst e2
      obtain rfl := hlf rfl
      obtain rfl := ro_neg h1 (by decide) (by decide)
      obtain rfl := ro_text h1 (by decide)
      have hv := ro_bits h1 (by decide)
      obtain rfl : v = 0 := by simpa [bitsF] using hv
      exact reads_seven op _ _ 23 2 0 (heads_put' 7 23 (by omega) (by omega) (by omega) (by omega) (by omega)) (infoF_small _) (by omega) (by omega) (by decide) (by decide) rfl h1 (it2 op)
    by_cases e3 : k = 3
    · subst e3
      obtain rfl := hlf rfl
      obtain rfl := ro_neg h1 (by decide) (by decide)
      obtain rfl := ro_text h1 (by decide)
      have hv := ro_bits h1 (by decide)
      have hv2 : v < 256 := by
        have : v / 256 = 0 := hv
        omega
      have hv3 := ro_simple h1
      refine reads_seven op _ _ v 3 v (heads_put' 7 v (by omega) (by omega) (by omega) (by omega) (by omega)) (infoF_small _) (by omega) (by omega) ?_ ?_ rfl h1 (it3 op)
      · unfold infoF
        by_cases h24 : v < 24
        · rw [if_pos h24]; omega
        · rw [if_neg h24, if_pos (by omega)]; omega
      · have hi : infoF v ≤ 19 ∨ infoF v = 24 := by
          unfold infoF
          by_cases h24 : v < 24
          · rw [if_pos h24]; omega
          · rw [if_neg h24, if_pos (by omega)]; exact .inr rfl
        unfold otherF
        rw [if_neg (by omega), if_neg (by omega), if_neg (by omega), if_neg (by omega)]
    by_cases e4 : k = 4
    · subst e4
      obtain rfl := hlf rfl
      obtain rfl := ro_text h1 (by decide)
      exact reads_num op neg v hu.1 hu.2 h1 (it4 op)
    by_cases e5 : k = 5
    · subst e5
      obtain rfl := hlf rfl
      have hv := ro_bits h1 (by decide)
      obtain rfl : v = 0 := by simpa [bitsF] using hv
      exact reads_big op neg s hss (ro_big h1) (it5 op)
    by_cases e6 : k = 6
    · subst e6
      obtain rfl := hlf rfl
      obtain rfl := ro_neg h1 (by decide) (by decide)
      obtain rfl := ro_text h1 (by decide)
      have hv := ro_bits h1 (by decide)
      have hv2 : v < 65536 := by
        have : v / 65536 = 0 := hv
        omega
      exact reads_seven op _ 25 v 6 v (heads_bits 0 v (.inl rfl) hu.1 hv2) (by decide) hu.1 hu.2 (by omega) rfl rfl h1 (it6 op)
    by_cases e7 : k = 7
    · subst e7
      obtain rfl := hlf rfl
      obtain rfl := ro_neg h1 (by decide) (by decide)
      obtain rfl := ro_text h1 (by decide)
      have hv := ro_bits h1 (by decide)
      have hv2 : v < 4294967296 := by
        have : v / 4294967296 = 0 := hv
        omega
      exact reads_seven op _ 26 v 7 v (heads_bits 1 v (.inr (.inl rfl)) hu.1 hv2) (by decide) hu.1 hu.2 (by omega) rfl rfl h1 (it7 op)
    by_cases e8 : k = 8
    · subst e8
      obtain rfl := hlf rfl
      obtain rfl := ro_neg h1 (by decide) (by decide)
      obtain rfl := ro_text h1 (by decide)
      exact reads_seven op _ 27 v 8 v (heads_bits 2 v (.inr (.inr rfl)) hu.1 hu.2) (by decide) hu.1 hu.2 (by omega) rfl rfl h1 (it8 op)
    by_cases e9 : k = 9
    · subst e9
      obtain rfl := hlf rfl
      obtain rfl := ro_neg h1 (by decide) (by decide)
      have hv := ro_bits h1 (by decide)
      obtain rfl : v = 0 := by simpa [bitsF] using hv
      exact reads_bytes op s hss h1 (it9 op)
    by_cases e10 : k = 10
    · subst e10
      obtain rfl := hlf rfl
      obtain rfl := ro_neg h1 (by decide) (by decide)
      have hv := ro_bits h1 (by decide)
      obtain rfl : v = 0 := by simpa [bitsF] using hv
      exact reads_text op s hss h1 (it10 op)
    by_cases e11 : k = 11
    · subst e11
      obtain rfl := ro_neg h1 (by decide) (by decide)
      obtain rfl := ro_text h1 (by decide)
      have hv := ro_bits h1 (by decide)
      obtain rfl : v = 0 := by simpa [bitsF] using hv
      exact reads_many op 11 (.inl rfl) l (by omega) hfirst hkid (it11 op)
    by_cases e12 : k = 12
    · subst e12
      obtain rfl := ro_neg h1 (by decide) (by decide)
      obtain rfl := ro_text h1 (by decide)
      have hv := ro_bits h1 (by decide)
      obtain rfl : v = 0 := by simpa [bitsF] using hv
      exact reads_many op 12 (.inr rfl) l (fun _ => ro_map h1) hfirst hkid (it12 op)
    by_cases e13 : k = 13
    · subst e13
      obtain rfl := ro_neg h1 (by decide) (by decide)
      obtain rfl := ro_text h1 (by decide)
      obtain ⟨t, rfl, hb9⟩ := ro_tag h1
      refine reads_tag op v hu.1 hu.2 t hb9 (hkid t (List.mem_singleton_self _)) ?_
      rw [it13]
      simp only [itemsF, List.append_nil]
    omega
end
end Go.Proofs.YtfmceonbejlhlaaGreatDoor
