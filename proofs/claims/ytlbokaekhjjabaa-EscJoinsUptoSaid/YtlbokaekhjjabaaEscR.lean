/-
  The walk of the reference's Quote: it tells what the program's tells.
-/
import Derived.Test.YtlbokaekhjjabaaEscC
namespace Go.Proofs.Ytlbokaekhjjabaa
open Go.RowKit Go.Proofs.Ytlbokaekhjjabaa.PureE Go.Proofs.YtlbokaekhjjabaaW.PrintWords Go.Proofs.YtlbokaekhjjabaaW.PrintLast Go.Proofs.YtlbokaekhjjabaaW.PrintMore

theorem refCheck_any (s : ByteArray) (w : World) (hs : s.size ≤ 140737488351232) :
    Calls Try.prog 33 #[.string s] w fun e w' => e = .returned (.tuple #[.int .i64 (chk s).1, .int .i64 (chk s).2]) ∧ Drawn0 w w' :=
  E.glossatorref02_Check.calls s (chk s).1 (chk s).2 w (by unfold E.glossatorref02_Check.f; rw [if_pos hs])
/-- The letter as the reference has it. -/
def letR (c : Int) : Int := if c = 34 ∨ c = 92 then c else letOf letterPairs c
theorem letter_any (c : Int) (w : World) : Calls Try.prog 52 #[.int .u8 c] w fun e w' => e = .returned (.int .u8 (letR c)) ∧ Drawn0 w w' :=
  E.glossatorref03_letter.calls 1 c (letR c) w (letter_f c 0)
theorem escB_let (c : Int) (h : letR c ≠ 0) : escB c = [92, letR c] := by rw [escB_ref c]; exact if_neg h
theorem escB_low (c : Int) (h : letR c = 0) (h32 : c < 32) : escB c = [92, 117, 48, 48, hexd (c / 16), hexd (c % 16)] := by rw [escB_ref c]; exact (if_pos h).trans (if_pos h32)
theorem escB_self (c : Int) (h : letR c = 0) (h32 : ¬ c < 32) : escB c = [c] := by rw [escB_ref c]; exact (if_pos h).trans (if_neg h32)

set_option maxHeartbeats 1000000 in
set_option maxRecDepth 100000 in
theorem refQuote_err (s : ByteArray) (w : World) (hs : s.size ≤ 140737488351232) (h : (chk s).2 ≠ 0) :
    Calls Try.prog 31 #[.string s] w (StrErr ⟨#[]⟩ 4 w) := by
  obtain ⟨n, e, hc⟩ : ∃ n e, chk s = (n, e) := ⟨_, _, rfl⟩
  rw [hc] at h
  have hne : (e != 0) = true := by simpa using h
  have HC := Lib.hid hc
  clear hc h
  go_enter Try.func31, Try.ntmps31
  go_wp2_with (go_at_call 33; refine (refCheck_any s _ hs).mono ?_; rintro en w1 ⟨rfl, ⟨nd, rfl⟩⟩; rw [HC.out]; dsimp only)
  go_ret2
  exact ⟨rfl, pw_below_drewN (Below.refl _ _) _⟩

set_option maxHeartbeats 8000000 in
set_option maxRecDepth 100000 in
theorem refQuote_ok (s : ByteArray) (w : World) (hs : s.size ≤ 8796093022208) (h : (chk s).2 = 0) :
    Calls Try.prog 31 #[.string s] w (StrErr (quo s) 0 w) := by
  obtain ⟨n, e, hc⟩ : ∃ n e, chk s = (n, e) := ⟨_, _, rfl⟩
  rw [hc] at h
  obtain rfl : e = 0 := h
  have HC := Lib.hid hc
  clear hc
  obtain ⟨i0, hi, hz0, hz1, hz2⟩ := info_parts info5
  go_enter Try.func31, Try.ntmps31
  go_wp2_with (go_at_call 33; refine (refCheck_any s _ (by omega)).mono ?_; rintro en w1 ⟨rfl, ⟨nd, rfl⟩⟩; rw [HC.out]; dsimp only)
  go_loopw [6, 7] (fun v i wr => ∃ k n : Nat, k ≤ s.size ∧ i = .int .i64 k ∧ wr.ownsRow w.heap.size 5 1 v n (([34] ++ quoteL (s.data.toList.take k)).map (Value.int .u8)) ∧ Below w.heap.size w wr) (fun _ i _ => s.size - (intOf i).toNat)
  case atStart =>
    refine ⟨0, 1, by omega, rfl, ?_, ?_⟩
    · refine ⟨rfl, .inr ⟨w.heap.size, 1, #[.int .u8 34], rfl, Nat.le_refl _, heap_alloc_new (w.drewN nd) _, Nat.le_refl _, by unfold maxLen; omega, rfl, rfl⟩⟩
    · exact (pw_below_drewN (Below.refl _ _) _).alloc (Nat.le_refl _) _
  case round =>
    obtain ⟨k, n1, hk, rfl, hrow, hb⟩ := hrel
    have hq := quoteL_len (s.data.toList.take k)
    have hbs := hb.size
    have hlen := ownsRow_len hrow
    have hpos : 0 < n1 := by rw [hlen]; simp
    have hn1 : n1 ≤ 70368744177664 := by
      have : (s.data.toList.take k).length ≤ k := List.length_take_le _ _
      rw [hlen]
      simp only [List.length_append, List.length_cons, List.length_nil]
      omega
    clear hq hlen
    obtain ⟨b, cap, rfl⟩ := ownsRow_at hrow hpos
    by_cases hlt : k < s.size
    · have hu := s[k].toNat_lt
      obtain ⟨L, hL⟩ : ∃ L, letR s[k].toNat = L := ⟨_, rfl⟩
      have HL := Lib.hid hL
      by_cases hz : L = 0
      · have hL1 : (L != 0) = false := by simpa using hz
        obtain rfl : L = 0 := hz
        by_cases h32 : (s[k].toNat : Int) < 32
        · have he : Hid (escB s[k].toNat = [92, 117, 48, 48, hexd ((s[k].toNat : Int) / 16), hexd ((s[k].toNat : Int) % 16)]) := by show escB _ = _; exact escB_low _ hL h32
          clear hL
          have x1 := index_hex ((s[k].toNat : Int) / 16) (by omega) (by omega)
          have x2 := index_hex ((s[k].toNat : Int) % 16) (by omega) (by omega)
          go_wp2_with (go_at_call 52; refine (letter_any s[k].toNat _).mono ?_; rintro en w1 ⟨rfl, ⟨nd2, rfl⟩⟩; rw [HL.out])
          have hbw := pw_below_drewN hb nd2
          have x3 : IntKind.u8.wrap ((s[k].toNat : Int) / 16) = (s[k].toNat : Int) / 16 := wraps_u8 _ (by omega) (by omega)
          have x4 : IntKind.u8.wrap ((s[k].toNat : Int) % 16) = (s[k].toNat : Int) % 16 := wraps_u8 _ (by omega) (by omega)
          have x5 : Int.tmod (s[k].toNat : Int) 16 = (s[k].toNat : Int) % 16 := Int.tmod_eq_emod_of_nonneg (by omega)
          obtain ⟨X, hX⟩ : ∃ X, X = [34] ++ quoteL (s.data.toList.take k) := ⟨_, rfl⟩
          have hrowX := hrow
          rw [← hX] at hrowX
          have HX := Lib.hid hX
          clear hX
          have HR : Hid (((wr.drewN (nd2 + 1)).alloc (.cells (List.map (Value.int .u8) [92, 117, 48, 48, hexd ((s[k].toNat : Int) / 16), hexd ((s[k].toNat : Int) % 16)]).toArray 5)).ownsRow w.heap.size 5 1 (.slice (some ⟨b, 0, none⟩) n1 cap) n1 (X.map (Value.int .u8))) :=
            (show (wr.drewN (nd2 + 1)).ownsRow _ _ _ _ _ _ from hrowX).alloc _
          have HN : Hid (∀ j u, (List.map (Value.int .u8) [92, 117, 48, 48, hexd ((s[k].toNat : Int) / 16), hexd ((s[k].toNat : Int) % 16)])[j]? = some u → ((wr.drewN (nd2 + 1)).alloc (.cells (List.map (Value.int .u8) [92, 117, 48, 48, hexd ((s[k].toNat : Int) / 16), hexd ((s[k].toNat : Int) % 16)]).toArray 5)).cell? ((⟨wr.heap.size, 0, none⟩ : Addr).add j) = some u) :=
            World.news_of_block (heap_alloc_new (wr.drewN (nd2 + 1)) _)
          have HB : Hid (w.heap.size ≤ ((wr.drewN (nd2 + 1)).alloc (.cells (List.map (Value.int .u8) [92, 117, 48, 48, hexd ((s[k].toNat : Int) / 16), hexd ((s[k].toNat : Int) % 16)]).toArray 5)).heap.size) := Nat.le_trans hbs (by simp)
          go_region_law (refine step_append_lies _ rfl (.tmp 43) (.tmp 50) 28 rfl w.heap.size 5 i0 (.int .u8 0) 1 1 Try.underlying28 hi hz0 hz1 hz2 rfl (by decide) (.slice (some ⟨b, 0, none⟩) n1 cap) n1 (X.map (Value.int .u8)) (by simp [Act.eval]) HR.out ⟨wr.heap.size, 0, none⟩ 6 6 (List.map (Value.int .u8) [92, 117, 48, 48, hexd ((s[k].toNat : Int) / 16), hexd ((s[k].toNat : Int) % 16)]) (by simp [Act.eval]) rfl HN.out (one_u8 _) (by decide) (by unfold maxLen; omega) (by omega) HB.out _ rfl ?_; intro g2 cap2 w2 hown2 hgrow2 _ _)
          all_goals
            go_wp2
            go_roundw
            case rel => exact ⟨k + 1, n1 + 6, by omega, by go_num, by rw [quoteL_take s k hlt, ← List.append_assoc, he.out, ← HX.out, List.map_append]; exact hown2, (((pw_below_drewN hb _).alloc hbs _).grown hgrow2 (by simp; omega) fun j ej => (hrow.lt j ej).1)⟩
            case measure => simp [intOf]; omega
        · have he : Hid (escB s[k].toNat = [(s[k].toNat : Int)]) := by show escB _ = _; exact escB_self _ hL h32
          clear hL
          go_wp2_with (first
            | (go_at_call 52; refine (letter_any s[k].toNat _).mono ?_; rintro en w1 ⟨rfl, ⟨nd2, rfl⟩⟩; rw [HL.out])
            | (at_builtin; (refine wpList_append_bytes rfl (.tmp 29) (.tmp 31) rfl w.heap.size _ n1 ([34] ++ quoteL (s.data.toList.take k)) [(s[k].toNat : Int)] 1 rfl wr.heap.size rfl rfl (show (World.drewN wr _).ownsRow _ _ _ _ _ _ from hrow) (show n1 + 1 ≤ 140737488355328 by omega) hbs ?_); intro v2 n2 w2 hn2 hown2 hgrow2; replace hn2 : n2 = n1 + 1 := hn2; obtain ⟨b2, cap2, rfl⟩ := ownsRow_at hown2 (by omega); clear hn2))
          go_roundw
          case rel => exact ⟨k + 1, n2, by omega, by go_num, by rw [quoteL_take s k hlt, ← List.append_assoc, he.out]; exact hown2, ((pw_below_drewN hb nd2).alloc hbs _).grown hgrow2 (by simp; omega) fun j ej => (hrow.lt j ej).1⟩
          case measure => simp [intOf]; omega
      · have hL1 : (L != 0) = true := by simpa using hz
        have he : Hid (escB s[k].toNat = [92, L]) := by show escB _ = _; rw [← hL]; exact escB_let _ (by rw [hL]; exact hz)
        clear hL hz
        go_wp2_with (first
          | (go_at_call 52; refine (letter_any s[k].toNat _).mono ?_; rintro en w1 ⟨rfl, ⟨nd2, rfl⟩⟩; rw [HL.out])
          | (at_builtin; (refine wpList_append_bytes rfl (.tmp 36) (.tmp 38) rfl w.heap.size _ n1 ([34] ++ quoteL (s.data.toList.take k)) [92, L] 2 rfl wr.heap.size rfl rfl (show (World.drewN wr _).ownsRow _ _ _ _ _ _ from hrow) (show n1 + 2 ≤ 140737488355328 by omega) hbs ?_); intro v2 n2 w2 hn2 hown2 hgrow2; replace hn2 : n2 = n1 + 2 := hn2; obtain ⟨b2, cap2, rfl⟩ := ownsRow_at hown2 (by omega); clear hn2))
        go_roundw
        case rel => exact ⟨k + 1, n2, by omega, by go_num, by rw [quoteL_take s k hlt, ← List.append_assoc, he.out]; exact hown2, ((pw_below_drewN hb nd2).alloc hbs _).grown hgrow2 (by simp; omega) fun j ej => (hrow.lt j ej).1⟩
        case measure => simp [intOf]; omega
    · obtain rfl : k = s.size := by omega
      rw [List.take_of_length_le (by rw [data_length]; omega)] at hrow
      go_wp2_with (at_builtin; (refine wpList_append_bytes rfl (.tmp 52) (.tmp 53) rfl w.heap.size _ n1 ([34] ++ quoteL s.data.toList) [34] 1 rfl wr.heap.size rfl rfl hrow (show n1 + 1 ≤ 140737488355328 by omega) hbs ?_); intro v2 n2 w2 hn2 hown2 hgrow2; replace hn2 : n2 = n1 + 1 := hn2; obtain ⟨b2, cap2, rfl⟩ := ownsRow_at hown2 (by omega); have hcon := conv_own hown2; clear hn2)
      go_ret2
      refine ⟨rfl, (hb.alloc hbs _).grown hgrow2 (by simp; omega) fun j ej => (hrow.lt j ej).1⟩
end Go.Proofs.Ytlbokaekhjjabaa
