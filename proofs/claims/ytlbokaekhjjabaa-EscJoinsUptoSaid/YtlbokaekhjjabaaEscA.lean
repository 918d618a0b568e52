/-
  The walk of esc's letters, and of the closure that puts one byte within quotes.
-/
import Derived.Test.YtlbokaekhjjabaaChk
import Derived.RangeFuncBox
import Derived.StillTailTactics
import Derived.Deep.AppendLies
import Derived.Laws.OwnMore
import Derived.Maps.AppendAt
namespace Go.Proofs.Ytlbokaekhjjabaa
open Go.RowKit Go.Proofs.YtlbokaekhjjabaaW.PrintWords Go.Proofs.YtlbokaekhjjabaaW.PrintLast Go.Proofs.YtlbokaekhjjabaaW.PrintMore

/-- The letters, cell by cell. -/
def letterCells : Array Value := #[.int .u8 8, .int .u8 98, .int .u8 12, .int .u8 102, .int .u8 10, .int .u8 110, .int .u8 13, .int .u8 114, .int .u8 9, .int .u8 116]

set_option maxHeartbeats 400000 in
set_option maxRecDepth 100000 in
theorem letters_any (w : World) :
    Calls Try.prog 51 #[] w fun e w' => e = .returned (.agg letterCells) ∧ w' = w.alloc (.cells letterCells 83) := by
  go_enter Try.func51, Try.ntmps51
  go_wp2_with (refine wpList_store_row rfl 83 (.tmp 0) (.tmp 6) rfl w.heap.size letterCells rfl rfl 83 _ (heap_alloc_last w _) (by kernel_rfl) (by kernel_rfl) (by kernel_rfl) ?_)
  rw [World.setRow_alloc_new]
  exact bodyPost_ret (v := .agg letterCells) (results_cell_row (p := 0) (ty := 83) rfl _ _ w.heap.size 83 letterCells (0, 0) _ rfl (heap_alloc_last w _) Try.underlying83 rfl (by kernel_rfl)) rfl ⟨rfl, rfl⟩

/-- Bytes and their letters. -/
def letterPairs : List (Int × Int) := [(8, 98), (12, 102), (10, 110), (13, 114), (9, 116)]
/-- The letter of a byte; 0: it has none. -/
def letOf : List (Int × Int) → Int → Int
  | [], _ => 0
  | p :: t, c => if p.1 = c then p.2 else letOf t c
theorem let_hit {l t : List (Int × Int)} {p : Int × Int} {c : Int} (h : l = p :: t) (h1 : p.1 = c) : letOf l c = p.2 := by subst h; simp [letOf, h1]
theorem let_miss {l t : List (Int × Int)} {p : Int × Int} {c : Int} (h : l = p :: t) (h1 : ¬ p.1 = c) : letOf l c = letOf t c := by subst h; simp [letOf, h1]
theorem drop_let {k : Nat} (hk : k < 5) {r : Int × Int} (h : letterPairs.getD k (0, 0) = r) : letterPairs.drop k = r :: letterPairs.drop (k + 1) := by
  subst h
  match k, hk with
  | 0, _ => rfl
  | 1, _ => rfl
  | 2, _ => rfl
  | 3, _ => rfl
  | 4, _ => rfl
set_option maxRecDepth 100000 in
theorem index_let (k : Nat) (hk : k < 5) (W : World) : (Instr.index 83 (.agg letterCells) (.int .i64 (k : Int))).run Try.prog W = .ok (.agg #[.int .u8 (letterPairs.getD k (0, 0)).1, .int .u8 (letterPairs.getD k (0, 0)).2]) W := by
  match k, hk with
  | 0, _ => exact (by kernel_rfl : (Instr.index 83 (.agg letterCells) (.int .i64 0)).run Try.prog W = .ok (.agg #[.int .u8 8, .int .u8 98]) W)
  | 1, _ => exact (by kernel_rfl : (Instr.index 83 (.agg letterCells) (.int .i64 1)).run Try.prog W = .ok (.agg #[.int .u8 12, .int .u8 102]) W)
  | 2, _ => exact (by kernel_rfl : (Instr.index 83 (.agg letterCells) (.int .i64 2)).run Try.prog W = .ok (.agg #[.int .u8 10, .int .u8 110]) W)
  | 3, _ => exact (by kernel_rfl : (Instr.index 83 (.agg letterCells) (.int .i64 3)).run Try.prog W = .ok (.agg #[.int .u8 13, .int .u8 114]) W)
  | 4, _ => exact (by kernel_rfl : (Instr.index 83 (.agg letterCells) (.int .i64 4)).run Try.prog W = .ok (.agg #[.int .u8 9, .int .u8 116]) W)

theorem let_ne {k : Nat} (hk : k < 5) {p q : Int} (h : letterPairs.getD k (0, 0) = (p, q)) : q ≠ 0 := by
  match k, hk with
  | 0, _ => cases h; decide
  | 1, _ => cases h; decide
  | 2, _ => cases h; decide
  | 3, _ => cases h; decide
  | 4, _ => cases h; decide

def hexd (n : Int) : Int := if n < 10 then 48 + n else 87 + n
/-- A byte within quotes. -/
def escB (c : Int) : List Int :=
  if letOf letterPairs c ≠ 0 then [92, letOf letterPairs c] else if c = 34 ∨ c = 92 then [92, c] else if c ≥ 32 then [c] else [92, 117, 48, 48, hexd (c / 16), hexd (c % 16)]

/-- A variable of the call's own that holds a slice which owns these bytes. -/
def OutIs (W : World) (base g : Nat) (xs : List Int) : Prop :=
  ∃ v, Boxed W g 28 v ∧ W.ownsRow base 5 1 v xs.length (xs.map (Value.int .u8)) ∧ base ≤ g

theorem info5 : (Try.prog.info? 5).map (fun i => (i.zero, i.size, i.bytes)) = some (some (.int .u8 0), 1, 1) := by kernel_rfl

theorem one_u8 (xs : List Int) : ∀ u ∈ xs.map (Value.int .u8), u.oneCell' = true := by
  intro u hu
  obtain ⟨n, _, rfl⟩ := List.mem_map.1 hu
  rfl

/-- 'append' of new bytes to a slice of bytes of the call's own. -/
theorem wpList_append_bytes {ops : Array Oper} {rest : List Oper} {o : Oper} {a : Act} {Q : Exit → Act → World → Prop} {W : World} (hgd : o.guard = none) (s x : Operand)
    (ho : o.op = .call { callee := .builtin .append, args := #[s, x], argTypes := #[28, 28] }) (base : Nat) (v : Value) (n : Nat) (xs ys : List Int) (c : Nat) (hs : a.eval s = v) (q : Nat) (hq : q = W.heap.size)
    (hx : a.eval x = .slice (some ⟨q, 0, none⟩) ys.length c) (hown : W.ownsRow base 5 1 v n (xs.map (Value.int .u8))) (hlen : n + ys.length ≤ 140737488355328) (hbase : base ≤ W.heap.size)
    (h : ∀ v' n' w', n' = n + ys.length → w'.ownsRow base 5 1 v' n' ((xs ++ ys).map (Value.int .u8)) → (W.alloc (.cells (ys.map (Value.int .u8)).toArray 5)).grownBy w' v.ownBlock → wpList Try.prog ops Q rest (a.put o.dst v') w') :
    wpList Try.prog ops Q (o :: rest) a (W.alloc (.cells (ys.map (Value.int .u8)).toArray 5)) := by
  subst hq
  obtain ⟨i0, hi, hz0, hz1, hz2⟩ := info_parts info5
  refine wpList_append_own _ hgd s x 28 ho base 5 i0 (.int .u8 0) 1 1 Try.underlying28 hi hz0 hz1 hz2 rfl (by decide) v n _ hs (hown.alloc _) ⟨W.heap.size, 0, none⟩ ys.length c (ys.map (Value.int .u8)) hx (by simp) ?_ (one_u8 ys) (by unfold maxLen; omega) (by omega) (by simp; omega) ?_
  · intro j u hj
    have e : (⟨W.heap.size, 0, none⟩ : Addr).add j = ⟨W.heap.size, j, none⟩ := by unfold Addr.add; split <;> simp_all
    rw [e, cell_of_row _ _ j _ _ _ (heap_alloc_new W _)]
    simpa using hj
  · intro v' w' hown' hgrow _
    refine h v' _ w' rfl ?_ hgrow
    rw [List.map_append]
    exact hown'

/-- Behind such an append and the store back into the variable. -/
theorem OutIs.appended {W w1 : World} {base g n n' : Nat} {v v' : Value} {xs ys : List Int} (hv : Boxed W g 28 v) (hrow : W.ownsRow base 5 1 v n (xs.map (Value.int .u8))) (hb : base ≤ W.heap.size) (hg : base ≤ g)
    (hown' : w1.ownsRow base 5 1 v' n' ((xs ++ ys).map (Value.int .u8))) (hgrow : (W.alloc (.cells (ys.map (Value.int .u8)).toArray 5)).grownBy w1 v.ownBlock) :
    Boxed w1 g 28 v ∧ Boxed (w1.setCell ⟨g, 0, none⟩ v') g 28 v' ∧ (w1.setCell ⟨g, 0, none⟩ v').ownsRow base 5 1 v' n' ((xs ++ ys).map (Value.int .u8)) ∧ Below base W (w1.setCell ⟨g, 0, none⟩ v') := by
  obtain ⟨h1, h2, h3, _, h5⟩ := hv.appended (by decide) hrow hb hg hown' hgrow
  exact ⟨h1, h2, h3, h5⟩
theorem ownsRow_len {W : World} {base n : Nat} {v : Value} {xs : List Int} (h : W.ownsRow base 5 1 v n (xs.map (Value.int .u8))) : n = xs.length := by
  have := h.1
  simp at this
  omega
theorem OutIs.of {W : World} {base g n : Nat} {v : Value} {xs : List Int} (hv : Boxed W g 28 v) (hr : W.ownsRow base 5 1 v n (xs.map (Value.int .u8))) (hg : base ≤ g) : OutIs W base g xs := by
  obtain rfl := ownsRow_len hr
  exact ⟨v, hv, hr, hg⟩
theorem ownsRow_at {W : World} {base n : Nat} {v : Value} {xs : List Value} (h : W.ownsRow base 5 1 v n xs) (hn : 0 < n) : ∃ b cap, v = .slice (some ⟨b, 0, none⟩) n cap := by
  obtain ⟨k, rfl⟩ : ∃ k, n = k + 1 := ⟨n - 1, by omega⟩
  obtain ⟨b, cap, h⟩ := ownsRow_succ h
  exact ⟨b, cap, h⟩

set_option maxRecDepth 100000 in
theorem index_hex (n : Int) (h0 : 0 ≤ n) (h1 : n < 16) (W : World) : (Instr.index 9 (.string ⟨#[48, 49, 50, 51, 52, 53, 54, 55, 56, 57, 97, 98, 99, 100, 101, 102]⟩) (.int .u8 n)).run Try.prog W = .ok (.int .u8 (hexd n)) W := by
  obtain ⟨k, rfl⟩ : ∃ k : Nat, n = k := ⟨n.toNat, by omega⟩
  have hk : k < 16 := by omega
  revert h0 h1
  intro _ _
  match k, hk with
  | 0, _ => exact (by kernel_rfl : (Instr.index 9 (.string ⟨#[48, 49, 50, 51, 52, 53, 54, 55, 56, 57, 97, 98, 99, 100, 101, 102]⟩) (.int .u8 0)).run Try.prog W = .ok (.int .u8 (hexd 0)) W)
  | 1, _ => exact (by kernel_rfl : (Instr.index 9 (.string ⟨#[48, 49, 50, 51, 52, 53, 54, 55, 56, 57, 97, 98, 99, 100, 101, 102]⟩) (.int .u8 1)).run Try.prog W = .ok (.int .u8 (hexd 1)) W)
  | 2, _ => exact (by kernel_rfl : (Instr.index 9 (.string ⟨#[48, 49, 50, 51, 52, 53, 54, 55, 56, 57, 97, 98, 99, 100, 101, 102]⟩) (.int .u8 2)).run Try.prog W = .ok (.int .u8 (hexd 2)) W)
  | 3, _ => exact (by kernel_rfl : (Instr.index 9 (.string ⟨#[48, 49, 50, 51, 52, 53, 54, 55, 56, 57, 97, 98, 99, 100, 101, 102]⟩) (.int .u8 3)).run Try.prog W = .ok (.int .u8 (hexd 3)) W)
  | 4, _ => exact (by kernel_rfl : (Instr.index 9 (.string ⟨#[48, 49, 50, 51, 52, 53, 54, 55, 56, 57, 97, 98, 99, 100, 101, 102]⟩) (.int .u8 4)).run Try.prog W = .ok (.int .u8 (hexd 4)) W)
  | 5, _ => exact (by kernel_rfl : (Instr.index 9 (.string ⟨#[48, 49, 50, 51, 52, 53, 54, 55, 56, 57, 97, 98, 99, 100, 101, 102]⟩) (.int .u8 5)).run Try.prog W = .ok (.int .u8 (hexd 5)) W)
  | 6, _ => exact (by kernel_rfl : (Instr.index 9 (.string ⟨#[48, 49, 50, 51, 52, 53, 54, 55, 56, 57, 97, 98, 99, 100, 101, 102]⟩) (.int .u8 6)).run Try.prog W = .ok (.int .u8 (hexd 6)) W)
  | 7, _ => exact (by kernel_rfl : (Instr.index 9 (.string ⟨#[48, 49, 50, 51, 52, 53, 54, 55, 56, 57, 97, 98, 99, 100, 101, 102]⟩) (.int .u8 7)).run Try.prog W = .ok (.int .u8 (hexd 7)) W)
  | 8, _ => exact (by kernel_rfl : (Instr.index 9 (.string ⟨#[48, 49, 50, 51, 52, 53, 54, 55, 56, 57, 97, 98, 99, 100, 101, 102]⟩) (.int .u8 8)).run Try.prog W = .ok (.int .u8 (hexd 8)) W)
  | 9, _ => exact (by kernel_rfl : (Instr.index 9 (.string ⟨#[48, 49, 50, 51, 52, 53, 54, 55, 56, 57, 97, 98, 99, 100, 101, 102]⟩) (.int .u8 9)).run Try.prog W = .ok (.int .u8 (hexd 9)) W)
  | 10, _ => exact (by kernel_rfl : (Instr.index 9 (.string ⟨#[48, 49, 50, 51, 52, 53, 54, 55, 56, 57, 97, 98, 99, 100, 101, 102]⟩) (.int .u8 10)).run Try.prog W = .ok (.int .u8 (hexd 10)) W)
  | 11, _ => exact (by kernel_rfl : (Instr.index 9 (.string ⟨#[48, 49, 50, 51, 52, 53, 54, 55, 56, 57, 97, 98, 99, 100, 101, 102]⟩) (.int .u8 11)).run Try.prog W = .ok (.int .u8 (hexd 11)) W)
  | 12, _ => exact (by kernel_rfl : (Instr.index 9 (.string ⟨#[48, 49, 50, 51, 52, 53, 54, 55, 56, 57, 97, 98, 99, 100, 101, 102]⟩) (.int .u8 12)).run Try.prog W = .ok (.int .u8 (hexd 12)) W)
  | 13, _ => exact (by kernel_rfl : (Instr.index 9 (.string ⟨#[48, 49, 50, 51, 52, 53, 54, 55, 56, 57, 97, 98, 99, 100, 101, 102]⟩) (.int .u8 13)).run Try.prog W = .ok (.int .u8 (hexd 13)) W)
  | 14, _ => exact (by kernel_rfl : (Instr.index 9 (.string ⟨#[48, 49, 50, 51, 52, 53, 54, 55, 56, 57, 97, 98, 99, 100, 101, 102]⟩) (.int .u8 14)).run Try.prog W = .ok (.int .u8 (hexd 14)) W)
  | 15, _ => exact (by kernel_rfl : (Instr.index 9 (.string ⟨#[48, 49, 50, 51, 52, 53, 54, 55, 56, 57, 97, 98, 99, 100, 101, 102]⟩) (.int .u8 15)).run Try.prog W = .ok (.int .u8 (hexd 15)) W)

def PutPost (base g : Nat) (xs : List Int) (w : World) (e : Ending) (w' : World) : Prop := e = .returned (.tuple #[]) ∧ OutIs w' base g xs ∧ Below base w w'

set_option maxHeartbeats 8000000 in
set_option maxRecDepth 100000 in
theorem put_any (c : Int) (h0 : 0 ≤ c) (h1 : c ≤ 255) (base g : Nat) (xs : List Int) (w : World) (hb : base ≤ w.heap.size) (ho : OutIs w base g xs) (hx : 0 < xs.length) (hl : xs.length ≤ 70368744177664) :
    Calls Try.prog 50 #[.int .u8 c, .pointer (some ⟨g, 0, none⟩)] w (PutPost base g (xs ++ escB c) w) := by
  obtain ⟨v, hv, hrow, hg⟩ := ho
  obtain ⟨n, hn⟩ : ∃ n, n = xs.length := ⟨_, rfl⟩
  rw [← hn] at hrow
  obtain ⟨b, cap, rfl⟩ := ownsRow_at hrow (by omega)
  have hnl : n ≤ 70368744177664 := by omega
  have hn0 : 0 < n := by omega
  clear hn hx hl
  obtain ⟨i0, hi, hz0, hz1, hz2⟩ := info_parts info5
  go_enter Try.func50, Try.ntmps50
  go_wp2_with (go_at_call 51; refine (letters_any _).mono ?_; rintro e w' ⟨rfl, rfl⟩)
  go_loopw [6] (fun i wr => ∃ k : Nat, k ≤ 5 ∧ i = .int .i64 k ∧ Hid (letOf letterPairs c = letOf (letterPairs.drop k) c) ∧ Boxed wr g 28 (.slice (some ⟨b, 0, none⟩) n cap) ∧ wr.ownsRow base 5 1 (.slice (some ⟨b, 0, none⟩) n cap) n (xs.map (Value.int .u8)) ∧ base ≤ wr.heap.size ∧ Below base w wr) (fun i _ => 5 - (intOf i).toNat)
  case atStart => exact ⟨0, by omega, rfl, rfl, hv.alloc _, hrow.alloc _, by simp; omega, (Below.refl _ _).alloc hb _⟩
  case round =>
    obtain ⟨k, hk, rfl, hlet, hv, hrow, hbw, hB⟩ := hrel
    have hc1 := hv.cell
    by_cases hlt : k < 5
    · have i1 := index_let k hlt
      obtain ⟨p, q, hr⟩ : ∃ p q, letterPairs.getD k (0, 0) = (p, q) := ⟨_, _, rfl⟩
      have hd := Lib.hid (drop_let hlt hr)
      have hq := let_ne hlt hr
      rw [hr] at i1
      clear hr
      dsimp only at i1
      by_cases hpc : p = c
      · have ht : (p == c) = true := by simpa using hpc
        have hf := Lib.hid (hlet.out.trans (let_hit hd.out hpc))
        clear hpc
        have hvA := hv.alloc (.cells #[.int .u8 p, .int .u8 q] 82)
        have hrA := hrow.alloc (.cells #[.int .u8 p, .int .u8 q] 82)
        have hbA : base ≤ (wr.alloc (.cells #[.int .u8 p, .int .u8 q] 82)).heap.size := by simp; omega
        have hcl := hvA.cell
        go_wp2_with (at_builtin; (refine wpList_append_bytes rfl (.tmp 13) (.tmp 16) rfl base _ n xs [92, q] 2 rfl (wr.heap.size + 1) (by simp) rfl hrA (show n + 2 ≤ 140737488355328 by omega) hbA ?_); intro v' n' w1 hn' hown' hgrow; obtain ⟨b', cap', rfl⟩ := ownsRow_at hown' (by omega); obtain ⟨hv1, hv2, hr2, hb2⟩ := OutIs.appended hvA hrA hbA hg hown' hgrow; have hc1 := hv1.cell; have hf1 := hv1.frozen; clear hn')
        refine bodyPost_ret (results_none rfl _ _ _) rfl ⟨rfl, ?_, (hB.alloc hbw _).trans hb2⟩
        have he : escB c = [92, q] := by unfold escB; rw [hf.out, if_pos hq]
        rw [he]
        exact OutIs.of hv2 hr2 hg
      · have ht : (p == c) = false := by simpa using hpc
        have hf := Lib.hid (hlet.out.trans (let_miss hd.out hpc))
        clear hpc
        go_wp2
        go_roundw
        case rel => exact ⟨k + 1, by omega, by go_num, hf, hv.alloc _, hrow.alloc _, by simp; omega, hB.alloc hbw _⟩
        case measure => simp [intOf]; omega
    · obtain rfl : k = 5 := by omega
      have hf : Hid (letOf letterPairs c = 0) := hlet.out
      by_cases hq : c = 34 ∨ c = 92
      · have he : Hid (escB c = [92, c]) := by show escB c = _; unfold escB; rw [hf.out, if_neg (by decide), if_pos hq]
        rcases hq with hq | hq
        all_goals
          have t1 : (c == 34) = decide (c = 34) := by rw [Bool.eq_iff_iff]; simp
          have t2 : (c == 92) = decide (c = 92) := by rw [Bool.eq_iff_iff]; simp
          first
          | (rw [decide_eq_true hq] at t1)
          | (rw [decide_eq_false (show ¬ c = 34 by omega)] at t1; rw [decide_eq_true hq] at t2)
          clear hq
          go_wp2_with (first
            | (at_builtin; (refine wpList_append_bytes rfl (.tmp 27) (.tmp 28) rfl base _ n xs [92] 1 rfl wr.heap.size rfl rfl hrow (show n + 1 ≤ 140737488355328 by omega) hbw ?_); intro v1 n1 w1 hn1 hown1 hgrow1; replace hn1 : n1 = n + 1 := hn1; obtain ⟨b1, cap1, rfl⟩ := ownsRow_at hown1 (by omega); obtain ⟨hva, hvb, hrb, hbb⟩ := OutIs.appended hv hrow hbw hg hown1 hgrow1; have hca := hva.cell; have hfa := hva.frozen; have hcb := hvb.cell; have hszb := Nat.le_trans hbw hbb.size; have hn2 : n1 ≤ 70368744177665 := (by omega); have hn3 : 0 < n1 := (by omega); clear hn1)
            | (at_builtin; (refine wpList_append_bytes rfl (.tmp 30) (.tmp 32) rfl base _ n1 (xs ++ [92]) [c] 1 rfl w1.heap.size (by simp) rfl hrb (show n1 + 1 ≤ 140737488355328 by omega) hszb ?_); intro v2 n2 w2 hn4 hown2 hgrow2; replace hn4 : n2 = n1 + 1 := hn4; obtain ⟨b2, cap2, rfl⟩ := ownsRow_at hown2 (by omega); obtain ⟨hvc, hvd, hrd, hbd⟩ := OutIs.appended hvb hrb hszb hg hown2 hgrow2; have hcc := hvc.cell; have hfc := hvc.frozen; clear hn4))
          go_end0
          refine ⟨rfl, ?_, (hB.trans hbb).trans hbd⟩
          rw [he.out]
          have := OutIs.of hvd hrd hg
          rw [List.append_assoc] at this
          exact this
      · have t1 : (c == 34) = false := by simp; omega
        have t2 : (c == 92) = false := by simp; omega
        by_cases h32 : 32 ≤ c
        · have he : Hid (escB c = [c]) := by show escB c = _; unfold escB; rw [hf.out, if_neg (by decide), if_neg hq, if_pos h32]
          clear hq
          go_wp2_with (at_builtin; (refine wpList_append_bytes rfl (.tmp 30) (.tmp 32) rfl base _ n xs [c] 1 rfl wr.heap.size rfl rfl hrow (show n + 1 ≤ 140737488355328 by omega) hbw ?_); intro v1 n1 w1 hn1 hown1 hgrow1; replace hn1 : n1 = n + 1 := hn1; obtain ⟨b1, cap1, rfl⟩ := ownsRow_at hown1 (by omega); obtain ⟨hva, hvb, hrb, hbb⟩ := OutIs.appended hv hrow hbw hg hown1 hgrow1; have hca := hva.cell; have hfa := hva.frozen; clear hn1)
          go_end0
          refine ⟨rfl, ?_, hB.trans hbb⟩
          rw [he.out]
          exact OutIs.of hvb hrb hg
        · have he : Hid (escB c = [92, 117, 48, 48, hexd (c / 16), hexd (c % 16)]) := by show escB c = _; unfold escB; rw [hf.out, if_neg (by decide), if_neg hq, if_neg h32]
          clear hq
          have h32' : c < 32 := by omega
          have x1 := index_hex (c / 16) (by omega) (by omega)
          have x2 := index_hex (c % 16) (by omega) (by omega)
          have x3 : bits .and .u8 c 15 = c % 16 := u8_and15 c h0 (by omega)
          have hrE : ((wr.alloc (.cells (List.map (Value.int .u8) [92, 117, 48, 48, hexd (c / 16), hexd (c % 16)]).toArray 5)).drew).ownsRow base 5 1 (.slice (some ⟨b, 0, none⟩) n cap) n (xs.map (Value.int .u8)) := (hrow.alloc _).drew
          have hne : ∀ j u, (List.map (Value.int .u8) [92, 117, 48, 48, hexd (c / 16), hexd (c % 16)])[j]? = some u → ((wr.alloc (.cells (List.map (Value.int .u8) [92, 117, 48, 48, hexd (c / 16), hexd (c % 16)]).toArray 5)).drew).cell? ((⟨wr.heap.size, 0, none⟩ : Addr).add j) = some u :=
            World.news_of_block (heap_alloc_new wr _)
          have hbE : base ≤ ((wr.alloc (.cells (List.map (Value.int .u8) [92, 117, 48, 48, hexd (c / 16), hexd (c % 16)]).toArray 5)).drew).heap.size := Nat.le_trans hbw (by simp)
          have HR := Lib.hid hrE
          have HN := Lib.hid hne
          have HB := Lib.hid hbE
          have hcF : ∀ ob, (wr.alloc ob).cell? ⟨g, 0, none⟩ = some (.slice (some ⟨b, 0, none⟩) n cap) := fun ob => (hv.alloc ob).cell
          clear hrE hne hbE
          go_wp2_with (fail)
          go_region_law (refine step_append_lies _ rfl (.tmp 34) (.tmp 41) 28 rfl base 5 i0 (.int .u8 0) 1 1 Try.underlying28 hi hz0 hz1 hz2 rfl (by decide) (.slice (some ⟨b, 0, none⟩) n cap) n (xs.map (Value.int .u8)) (by simp [Act.eval]) HR.out ⟨wr.heap.size, 0, none⟩ 6 6 (List.map (Value.int .u8) [92, 117, 48, 48, hexd (c / 16), hexd (c % 16)]) (by simp [Act.eval]) rfl HN.out (one_u8 _) (by decide) (by unfold maxLen; omega) (by omega) HB.out _ rfl ?_; intro g2 cap2 w2 hown2 hgrow2 _ _; obtain ⟨hva, hvb, hrb, hbb⟩ := OutIs.appended (W := wr.drew) (ys := [92, 117, 48, 48, hexd (c / 16), hexd (c % 16)]) hv hrow.drew hbw hg (by rw [List.map_append]; exact hown2) hgrow2; have hca := hva.cell; have hfa := hva.frozen)
          all_goals
            go_wp2
            go_end0
            refine ⟨rfl, ?_, hB.trans ((Below.refl base wr).drew.trans hbb)⟩
            rw [he.out]
            exact OutIs.of hvb hrb hg
end Go.Proofs.Ytlbokaekhjjabaa
