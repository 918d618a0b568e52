import Derived.Test.YtfmceonbejlhlaaGreatDoorProg
import Derived.Below
import Derived.Deep.Draws
import Derived.Deep.AppendLies
import Derived.Maps.AppendAt
import Derived.OwnWalk
import Derived.Laws.BytesArg
import Derived.Laws.MakeOwn
import Derived.Laws.OwnMore
import Derived.Deep.OwnRows
import Derived.Tactics
import Derived.Lib.ConvBytes
import Derived.Laws.Slices
import Derived.WalkKit
import Derived.KernelRfl
import Derived.RowKit3
import Derived.Deep.LoopGhost
import Derived.Deep.QuietTactic
import Derived.BigQuiet
import Derived.WideLaws
import Derived.Deep.DeepCutAuto
import Derived.Deep.CutBlock
import Derived.Deep.RegionHeld3
import Derived.Laws.Rows
import Derived.Lib.AppendStr
import Derived.ArgAppend
import Derived.Laws.IdiomCopy
import Derived.OrdersHeld
import Derived.Laws.BitsLemmas
import Derived.RowKit
import Derived.Test.YtfmceonbejlhlaaGreatDoorChecked
import Derived.Test.YtfmceonbejlhlaaGreatDoorRows
import Derived.ProofKit
import Derived.OpenShut
import Derived.ChangeOld
import Derived.Carry
import Derived.Deep.Slices
import Derived.RegionTactic
import Derived.RangeFuncBox
import Derived.Deep.RegionLaw
import Derived.Test.YtfmceonbejlhlaaGreatDoorMWd0
import Derived.Test.YtfmceonbejlhlaaGreatDoorMWd1
/-
  The walks of utf.Check and utf.Within: what they compute is 'chk', 'wth'.
-/
namespace Go.Proofs.YtfmceonbejlhlaaGreatDoor
open Go.RowKit Go.Proofs.YtfmceonbejlhlaaGreatDoorW.PrintWords Go.Proofs.YtfmceonbejlhlaaGreatDoorW.PrintLast Go.Proofs.YtfmceonbejlhlaaGreatDoorW.PrintMore

/-- A block of its own that holds a state. -/
def Holds (W : World) (g : Nat) (st : St) : Prop := W.heap[g]? = some (.cells #[.int .i64 st.1, .int .u8 st.2.1, .int .u8 st.2.2] 191 (0, 0))

section
variable {W : World} {g : Nat} {st : St} (h : Holds W g st)
include h
theorem Holds.c0 : W.cell? ⟨g, 0, none⟩ = some (.int .i64 st.1) := cell_of_row W g 0 _ _ _ h
theorem Holds.c1 : W.cell? ⟨g, 1, none⟩ = some (.int .u8 st.2.1) := cell_of_row W g 1 _ _ _ h
theorem Holds.c2 : W.cell? ⟨g, 2, none⟩ = some (.int .u8 st.2.2) := cell_of_row W g 2 _ _ _ h
theorem Holds.fz (j : Nat) : W.frozen? ⟨g, j, none⟩ = false := frozen_of_row W g j _ _ h
theorem Holds.lt : g < W.heap.size := block_lt_of_cell h.c0
theorem Holds.below {W1 : World} (hb : Below W.heap.size W W1) : Holds W1 g st := (hb.block g h.lt).trans h
end

theorem Holds.turned {W W1 : World} {g : Nat} {st st' : St} (h : Holds W g st) (ht : Turned g 0 st' W W1) : Holds W1 g st' := by
  obtain ⟨w1, hb, rfl⟩ := ht
  have h1 : w1.heap[g]? = _ := h.below hb
  have h2 := heap_setCell_same w1 g 0 _ _ (.int .i64 st'.1) h1
  have h3 := heap_setCell_same _ g (0 + 1) _ _ (.int .u8 st'.2.1) h2
  have h4 := heap_setCell_same _ g (0 + 2) _ _ (.int .u8 st'.2.2) h3
  exact h4

theorem Turned.below {W W1 : World} {g o : Nat} {st : St} (ht : Turned g o st W W1) {B : Nat} {w : World} (hg : B ≤ g) (hB : B ≤ W.heap.size) (hb : Below B w W) : Below B w W1 := by
  obtain ⟨w1, hb1, rfl⟩ := ht
  exact (((hb.trans (hb1.mono hB)).setCell (p := ⟨g, o, none⟩) hg _).setCell (p := ⟨g, o + 1, none⟩) hg _).setCell (p := ⟨g, o + 2, none⟩) hg _

def Pair (r : Int × Int) (w : World) (e : Ending) (w' : World) : Prop := e = .returned (.tuple #[.int .i64 r.1, .int .i64 r.2]) ∧ Below w.heap.size w w'

theorem data_drop (s : ByteArray) (k : Nat) (h : k < s.size) : s.data.toList.drop k = s[k] :: s.data.toList.drop (k + 1) := by
  rw [List.drop_eq_getElem_cons (by simpa using h)]; rfl
theorem data_drop_all (s : ByteArray) : s.data.toList.drop s.size = [] := List.drop_eq_nil_of_le (by simp)

set_option maxHeartbeats 1000000 in
set_option maxRecDepth 100000 in
theorem check_any (s : ByteArray) (w : World) (hs : s.size ≤ 9223372036854775807) :
    Calls Tryz.prog 63 #[.string s] w (Pair (chk s) w) := by
  go_enter Tryz.func63, Tryz.ntmps63
  go_wp2
  go_loopw [8] (fun i wr => ∃ (k : Nat) (st : St), k ≤ s.size ∧ i = .int .i64 k ∧ Hid (chk s = chkL (s.data.toList.drop k) st k) ∧ (0 ≤ st.1 ∧ st.1 ≤ 3) ∧ Holds wr w.heap.size st ∧ Below w.heap.size w wr) (fun i _ => s.size - (intOf i).toNat)
  case atStart => exact ⟨0, st0, by omega, rfl, rfl, by decide, heap_alloc_new _ _, (Below.refl _ _).alloc (Nat.le_refl _) _⟩
  case round =>
    obtain ⟨k, st, hk, rfl, hc, h0, hI, hb⟩ := hrel
    by_cases hlt : k < s.size
    · have hd := Lib.hid (data_drop s k hlt)
      cases hst : stp st s[k].toNat (-1) with
      | none =>
        have hf : Hid (chk s = ((k : Int), 4)) := by
          show chk s = _
          rw [hc.out, hd.out]; simp only [chkL, hst]
        have HS := Lib.hid hst
        clear hst
        go_wp2_with (go_at_call 103; refine (step_no w.heap.size 0 st s[k].toNat (-1) _ hI.c0 hI.c1 hI.c2 HS.out).mono ?_; rintro e w' ⟨rfl, hb'⟩)
        go_ret2
        exact ⟨by rw [hf.out]; rfl, hb.trans (hb'.mono hb.size)⟩
      | some st' =>
        have hf : Hid (chk s = chkL (s.data.toList.drop (k + 1)) st' ((k + 1 : Nat) : Int)) := by
          show chk s = _
          rw [hc.out, hd.out]; simp only [chkL, hst]; rfl
        have h0' := stp_left hst h0
        have HS := Lib.hid hst
        clear hst
        go_wp2_with (go_at_call 103; refine (step_ok w.heap.size 0 st st' s[k].toNat (-1) _ h0 hI.c0 hI.c1 hI.c2 (hI.fz _) (hI.fz _) (hI.fz _) HS.out).mono ?_; rintro e w' ⟨rfl, hb'⟩)
        go_roundw
        case rel => exact ⟨k + 1, st', by omega, by go_num, hf, h0', hI.turned hb', hb'.below (Nat.le_refl _) hb.size hb⟩
        case measure => simp [intOf]; omega
    · obtain rfl : k = s.size := by omega
      have c0 := hI.c0
      by_cases hl : 0 < st.1
      · have hf : Hid (chk s = ((s.size : Int), 3)) := by
          show chk s = _
          rw [hc.out, data_drop_all]; simp only [chkL]; rw [if_pos hl]
        clear hc
        go_wp2
        go_ret2
        exact ⟨by rw [hf.out]; rfl, hb⟩
      · have hf : Hid (chk s = ((s.size : Int), 0)) := by
          show chk s = _
          rw [hc.out, data_drop_all]; simp only [chkL]; rw [if_neg hl]
        clear hc
        go_wp2
        go_ret2
        exact ⟨by rw [hf.out]; rfl, hb⟩

set_option maxHeartbeats 1000000 in
set_option maxRecDepth 100000 in
theorem within_any (s : ByteArray) (n : Int) (w : World) (hs : s.size ≤ 9223372036854775807) (hn : n ≤ 9223372036854775807) :
    Calls Tryz.prog 116 #[.string s, .int .i64 n] w (Pair (wth s n) w) := by
  obtain ⟨m, hm⟩ : ∃ m, (if n < 0 then 0 else n) = m := ⟨_, rfl⟩
  obtain ⟨b, hb⟩ : ∃ b, (if m < (s.size : Int) then m else (s.size : Int)) = b := ⟨_, rfl⟩
  have hm0 : 0 ≤ m ∧ m ≤ 9223372036854775807 := by split at hm <;> omega
  have hb0 : b = m ∧ m < s.size ∨ b = s.size ∧ (s.size : Int) ≤ m := by split at hb <;> omega
  have hw : wth s n = wthL m s.data.toList st0 0 := by
    unfold wth; rw [show max n 0 = m from by rw [← hm]; split <;> omega]
  have HW := Lib.hid hw
  have HB := Lib.hid hb0
  have hb1 : 0 ≤ b ∧ b ≤ s.size ∧ b ≤ m := by omega
  obtain ⟨hm0, hm1⟩ := hm0
  obtain ⟨hb1, hb2, hb3⟩ := hb1
  clear hw hb0
  go_enter Tryz.func116, Tryz.ntmps116
  go_wp2
  clear hm hb
  go_loopw [14] (fun i wr => ∃ (k : Nat) (st : St), (k : Int) ≤ b ∧ i = .int .i64 k ∧ Hid (wth s n = wthL m (s.data.toList.drop k) st k) ∧ (0 ≤ st.1 ∧ st.1 ≤ 3) ∧ Holds wr w.heap.size st ∧ Below w.heap.size w wr) (fun i _ => s.size - (intOf i).toNat)
  case atStart => exact ⟨0, st0, by omega, rfl, HW, by decide, heap_alloc_new _ _, (Below.refl _ _).alloc (Nat.le_refl _) _⟩
  case round =>
    obtain ⟨k, st, hk, rfl, hc, h0, hI, hb⟩ := hrel
    by_cases hlt : (k : Int) < b
    · have hlt' : k < s.size := by omega
      have hltm : (k : Int) < m := by omega
      have hd := Lib.hid (data_drop s k hlt')
      cases hst : stp st s[k].toNat (m - 1 - k) with
      | none =>
        have hf : Hid (wth s n = ((k : Int), 4)) := by
          show wth s n = _
          rw [hc.out, hd.out]; simp only [wthL, hst]; rw [if_pos hltm]
        have HS := Lib.hid hst
        clear hst
        go_wp2_with (go_at_call 103; refine (step_no w.heap.size 0 st s[k].toNat (m - 1 - k) _ hI.c0 hI.c1 hI.c2 HS.out).mono ?_; rintro e w' ⟨rfl, hb'⟩)
        go_ret2
        exact ⟨by rw [hf.out]; rfl, hb.trans (hb'.mono hb.size)⟩
      | some st' =>
        have hf : Hid (wth s n = wthL m (s.data.toList.drop (k + 1)) st' ((k + 1 : Nat) : Int)) := by
          show wth s n = _
          rw [hc.out, hd.out]; simp only [wthL, hst]; rw [if_pos hltm]; rfl
        have h0' := stp_left hst h0
        have HS := Lib.hid hst
        clear hst
        go_wp2_with (go_at_call 103; refine (step_ok w.heap.size 0 st st' s[k].toNat (m - 1 - k) _ h0 hI.c0 hI.c1 hI.c2 (hI.fz _) (hI.fz _) (hI.fz _) HS.out).mono ?_; rintro e w' ⟨rfl, hb'⟩)
        go_roundw
        case rel => exact ⟨k + 1, st', by omega, by go_num, hf, h0', hI.turned hb', hb'.below (Nat.le_refl _) hb.size hb⟩
        case measure => simp [intOf]; omega
    · by_cases hl : (s.size : Int) < m
      · have hkk : k = s.size := by have := HB.out; omega
        have hf : Hid (wth s n = ((s.size : Int), 3)) := by
          show wth s n = _
          rw [hc.out, hkk, data_drop_all]; simp only [wthL]; rw [if_pos hl]
        clear hc
        go_wp2
        go_ret2
        exact ⟨by rw [hf.out]; rfl, hb⟩
      · have hkk : (k : Int) = m := by have := HB.out; omega
        have hf : Hid (wth s n = (m, 0)) := by
          show wth s n = _
          rw [hc.out]
          by_cases hz : k < s.size
          · rw [data_drop s k hz]; simp only [wthL]; rw [if_neg (by omega)]
          · rw [show k = s.size by omega, data_drop_all]; simp only [wthL]; rw [if_neg (by omega)]
        clear hc hkk
        go_wp2
        go_ret2
        exact ⟨by rw [hf.out]; rfl, hb⟩
end Go.Proofs.YtfmceonbejlhlaaGreatDoor

-- Written by a program of this session (joint.sh) out of the translation. Not trusted: Lean checks it.
namespace Go.Proofs.YtfmceonbejlhlaaGreatDoor.P
open Go.RowKit Go.Proofs.YtfmceonbejlhlaaGreatDoorW.PrintWords Go.Proofs.YtfmceonbejlhlaaGreatDoorW.PrintLast Go.Proofs.YtfmceonbejlhlaaGreatDoorW.PrintMore
attribute [local go_sem] max2_int min2_int max_two min_two max_three min_three max_four min_four   -- for this text's walks alone
set_option linter.unusedVariables false
set_option linter.unusedSimpArgs false

def errW : Option Int → Value
  | none => .nilIface
  | some c => .iface 27 (.int .i64 c)
theorem errW_none : errW none = .nilIface := rfl
theorem errW_some (c : Int) : errW (some c) = .iface 27 (.int .i64 c) := rfl

theorem info5 : (Tryz.prog.info? 5).map (fun i => (i.zero, i.size, i.bytes)) = some (some (.int .u8 0), 1, 1) := by kernel_rfl
theorem info152 : (Tryz.prog.info? 152).map (fun i => (i.zero, i.size, i.bytes)) = some (some (.int .u32 0), 1, 4) := by kernel_rfl
-- the values' own types
/-! #### struct type 25, nested in itself -/
structure S25 where
  f0 : Int
  f1 : Bool
  f2 : Int
  f3 : ByteArray
  f4 : (List S25)
def z25 : S25 := ⟨(0 : Int), false, (0 : Int), (⟨#[]⟩ : ByteArray), ([] : List S25)⟩
def F25 (d : Kd S25) : Kd S25 := Kd.iso (Kd.pair (Kd.int .i64) (Kd.pair Kd.bool (Kd.pair (Kd.int .u64) (Kd.pair Kd.string (Kd.slice 25 d))))) (fun x : S25 => (x.f0, x.f1, x.f2, x.f3, x.f4))
theorem mono25 : Kd.Mono F25 := Kd.mono_iso _ (Kd.mono_pair (Kd.mono_const _) (Kd.mono_pair (Kd.mono_const _) (Kd.mono_pair (Kd.mono_const _) (Kd.mono_pair (Kd.mono_const _) (Kd.mono_slice 25 Kd.mono_id)))))
theorem sub25 : Kd.Sub F25 [25] := Kd.sub_iso _ (Kd.sub_pair (Kd.sub_const _ (by decide)) (Kd.sub_pair (Kd.sub_const _ (by decide)) (Kd.sub_pair (Kd.sub_const _ (by decide)) (Kd.sub_pair (Kd.sub_const _ (by decide)) (Kd.sub_slice 25 (by decide) Kd.sub_id)))))
theorem sz25 : ∀ n, (Kd.upto F25 5 [25] n).sz = 5 := Kd.upto_sz (fun _ => rfl)
def k25 : Kd S25 := Kd.fix F25 5 [25] sz25 (Kd.upto_E sub25)
theorem k25_open {w : World} {x : S25} {cs : List Value} (h : k25.K w x cs) : ∃ A4 c4, cs = [.int .i64 x.f0, .bool x.f1, .int .u64 x.f2, .string x.f3, .slice A4 x.f4.length c4] ∧ x.f4.length ≤ c4 ∧ k25.C w A4 x.f4.length x.f4 := by
  obtain ⟨n, h⟩ := h
  cases n with
  | zero => exact h.elim
  | succ n =>
    obtain ⟨_, _, rfl, rfl, ⟨_, _, rfl, rfl, ⟨_, _, rfl, rfl, ⟨_, _, rfl, rfl, ⟨A4, c4, rfl, l4, g4⟩⟩⟩⟩⟩ := h
    exact ⟨A4, c4, rfl, l4, Kd.fix_C g4⟩
theorem k25_mk (w : World) (x : S25) {A4 : Option Addr} {c4 : Nat} (l4 : x.f4.length ≤ c4) (g4 : k25.C w A4 x.f4.length x.f4) : k25.K w x [.int .i64 x.f0, .bool x.f1, .int .u64 x.f2, .string x.f3, .slice A4 x.f4.length c4] := by
  obtain ⟨n4, q4⟩ := Kd.fix_C_back mono25 g4
  have r4 := Kd.upto_C_le mono25 sz25 (show n4 ≤ n4 by omega) q4
  exact ⟨n4 + 1, ⟨[.int .i64 x.f0], [.bool x.f1, .int .u64 x.f2, .string x.f3, .slice A4 x.f4.length c4], rfl, rfl, ⟨[.bool x.f1], [.int .u64 x.f2, .string x.f3, .slice A4 x.f4.length c4], rfl, rfl, ⟨[.int .u64 x.f2], [.string x.f3, .slice A4 x.f4.length c4], rfl, rfl, ⟨[.string x.f3], [.slice A4 x.f4.length c4], rfl, rfl, ⟨A4, c4, rfl, l4, r4⟩⟩⟩⟩⟩⟩
def rd_T25 (xs : List S25) (i : Int) : S25 := xs.getD i.toNat z25
theorem at_T25 {w : World} {A : Option Addr} {n : Nat} {xs : List S25} (h : Kd.C k25 w A n xs) (i : Int) (h0 : 0 ≤ i) (h1 : i < n) : ∃ ad A4 c4, A = some ad ∧ w.cell? (ad.add (i.toNat * 5)) = some (.int .i64 (rd_T25 xs i).f0) ∧ w.cell? ⟨(ad.add (i.toNat * 5)).block, (ad.add (i.toNat * 5)).off + 1, none⟩ = some (.bool (rd_T25 xs i).f1) ∧ w.cell? ⟨(ad.add (i.toNat * 5)).block, (ad.add (i.toNat * 5)).off + 2, none⟩ = some (.int .u64 (rd_T25 xs i).f2) ∧ w.cell? ⟨(ad.add (i.toNat * 5)).block, (ad.add (i.toNat * 5)).off + 3, none⟩ = some (.string (rd_T25 xs i).f3) ∧ w.cell? ⟨(ad.add (i.toNat * 5)).block, (ad.add (i.toNat * 5)).off + 4, none⟩ = some (.slice A4 (rd_T25 xs i).f4.length c4) ∧ (rd_T25 xs i).f4.length ≤ c4 ∧ k25.C w A4 (rd_T25 xs i).f4.length (rd_T25 xs i).f4 := by
  obtain ⟨ad, c, e, _, hK, hc0⟩ := Kd.C_get h z25 i h0 h1
  have hc : ∀ j u, c[j]? = some u → w.cell? (ad.add (i.toNat * 5 + j)) = some u := hc0
  obtain ⟨A4, c4, rfl, l4, g4⟩ := k25_open hK
  exact ⟨ad, A4, c4, e, hc 0 _ rfl, by rw [← add_field _ _ 1 (by omega)]; exact hc 1 _ rfl, by rw [← add_field _ _ 2 (by omega)]; exact hc 2 _ rfl, by rw [← add_field _ _ 3 (by omega)]; exact hc 3 _ rfl, by rw [← add_field _ _ 4 (by omega)]; exact hc 4 _ rfl, l4, g4⟩

/-! #### struct type 220 -/
structure S220 where
  f0 : S25
def z220 : S220 := ⟨z25⟩
def k220 : Kd S220 := Kd.iso k25 (fun x : S220 => x.f0)
def rd_T220 (xs : List S220) (i : Int) : S220 := xs.getD i.toNat z220
end Go.Proofs.YtfmceonbejlhlaaGreatDoor.P

/-
  Trees of values: their content, how they lie in memory, and how the argument of the two laws opens into one.
-/
namespace Go.Proofs.YtfmceonbejlhlaaGreatDoor
open Go.Proofs.YtfmceonbejlhlaaGreatDoorW.PrintWords Go.ChangeShapes Go.WideShapes Go.ChangeAt Go.RowKit
set_option linter.unusedVariables false

/-- A tree of values, by its content: K, Neg, N, S, L. -/
abbrev T := P.S25
theorem T.ind {p : T → Prop} (h : ∀ k neg n s l, (∀ t ∈ l, p t) → p ⟨k, neg, n, s, l⟩) : ∀ t, p t :=
  P.S25.rec (motive_1 := p) (motive_2 := fun l => ∀ t ∈ l, p t) (fun k neg n s l ih => h k neg n s l ih) (by simp) (fun t r h1 h2 u hu => by
    rcases List.mem_cons.1 hu with rfl | hu
    · exact h1
    · exact h2 u hu)
mutual
/-- How much a tree holds. -/
def bulk : T → Nat | ⟨_, _, _, s, l⟩ => s.size + bulkL l + 1
def bulkL : List T → Nat | [] => 0 | t :: r => bulk t + bulkL r
end
mutual
/-- The numbers are of their kinds. -/
def Wf : T → Prop | ⟨k, _, n, s, l⟩ => (Lit.int .i64 k).wf = true ∧ (Lit.int .u64 n).wf = true ∧ WfL l
def WfL : List T → Prop | [] => True | t :: r => Wf t ∧ WfL r
end
theorem bulkL_mem : ∀ {l : List T} {t : T}, t ∈ l → bulk t ≤ bulkL l
  | x :: r, t, h => by
    simp only [bulkL]
    rcases List.mem_cons.1 h with rfl | h
    · omega
    · have := bulkL_mem h; omega
theorem wfL_mem : ∀ {l : List T} {t : T}, WfL l → t ∈ l → Wf t
  | x :: r, t, hw, h => by
    rcases List.mem_cons.1 h with rfl | h
    · exact hw.1
    · exact wfL_mem hw.2 h
theorem bulkL_len : ∀ l : List T, l.length ≤ bulkL l
  | [] => Nat.le_refl _
  | t :: r => by
    have := bulkL_len r
    obtain ⟨_, _, _, _, _⟩ := t
    simp only [bulkL, bulk, List.length_cons]
    omega

/-- What five cells hold of a value whose list lies at an address. -/
def five (t : T) (a : Option Addr) (c : Nat) : Array Value := #[.int .i64 t.f0, .bool t.f1, .int .u64 t.f2, .string t.f3, .slice a t.f4.length c]
mutual
/-- A value reads as a tree; the blocks on the way are such. -/
def Tree (W : World) (P : Nat → Prop) : T → Option Addr → Prop
  | ⟨_, _, _, _, l⟩, a => l.length ≤ 9223372036854775807 ∧ (l = [] ∨ ∃ g off, a = some ⟨g, off, none⟩ ∧ P g ∧ TreeL W P l g off)
def TreeL (W : World) (P : Nat → Prop) : List T → Nat → Nat → Prop
  | [], _, _ => True
  | t :: r, g, off => (∃ a c, (∀ j v, (five t a c)[j]? = some v → W.cell? ⟨g, off + j, none⟩ = some v) ∧ t.f4.length ≤ c ∧ Tree W P t a) ∧ TreeL W P r g (off + 5)
end
/-- A value that is a tree. -/
def IsTree (W : World) (P : Nat → Prop) (t : T) (v : Value) : Prop := ∃ a c, v = .agg (five t a c) ∧ t.f4.length ≤ c ∧ Tree W P t a

theorem tree_list {W : World} {P : Nat → Prop} {t : T} {a : Option Addr} (h : Tree W P t a) : t.f4.length ≤ 9223372036854775807 ∧ (t.f4 = [] ∨ ∃ g off, a = some ⟨g, off, none⟩ ∧ P g ∧ TreeL W P t.f4 g off) := by
  obtain ⟨_, _, _, _, _⟩ := t; simp only [Tree] at h; exact h
theorem cell_same {W W' : World} {g : Nat} (h : W'.heap[g]? = W.heap[g]?) (j : Nat) : W'.cell? ⟨g, j, none⟩ = W.cell? ⟨g, j, none⟩ := by
  unfold World.cell?
  rw [h]
theorem treeL_at {W : World} {P : Nat → Prop} {g : Nat} : ∀ {l : List T} {off i : Nat} {t : T}, TreeL W P l g off → l[i]? = some t →
    ∃ a c, (∀ j v, (five t a c)[j]? = some v → W.cell? ⟨g, off + 5 * i + j, none⟩ = some v) ∧ t.f4.length ≤ c ∧ Tree W P t a
  | x :: r, off, 0, t, h, e => by
    simp only [List.getElem?_cons_zero, Option.some.injEq] at e
    subst e
    simp only [TreeL] at h
    exact h.1
  | x :: r, off, i + 1, t, h, e => by
    simp only [List.getElem?_cons_succ] at e
    simp only [TreeL] at h
    obtain ⟨a, c, h1, h3, h2⟩ := treeL_at h.2 e
    refine ⟨a, c, fun j v hv => ?_, h3, h2⟩
    have := h1 j v hv
    rw [show off + 5 * (i + 1) + j = off + 5 + 5 * i + j by omega]
    exact this
theorem treeL_mk {W : World} {P : Nat → Prop} {g : Nat} : ∀ {l : List T} {off : Nat}, (∀ i t, l[i]? = some t → ∃ a c, (∀ j v, (five t a c)[j]? = some v → W.cell? ⟨g, off + 5 * i + j, none⟩ = some v) ∧ t.f4.length ≤ c ∧ Tree W P t a) → TreeL W P l g off
  | [], _, _ => trivial
  | x :: r, off, h => by
    simp only [TreeL]
    refine ⟨by simpa using h 0 x rfl, treeL_mk fun i t e => ?_⟩
    obtain ⟨a, c, h1, h3, h2⟩ := h (i + 1) t (by simpa using e)
    refine ⟨a, c, fun j v hv => ?_, h3, h2⟩
    have := h1 j v hv
    rw [show off + 5 + 5 * i + j = off + 5 * (i + 1) + j by omega]
    exact this
/-- A tree stays where its blocks stay. -/
theorem tree_keep {W W' : World} {P P' : Nat → Prop} (hP : ∀ g, P g → P' g) (hk : ∀ g, P g → W'.heap[g]? = W.heap[g]?) : ∀ {t : T} {a : Option Addr}, Tree W P t a → Tree W' P' t a := by
  intro t
  induction t using T.ind with
  | h k neg n s l ih =>
    intro a h
    simp only [Tree] at h ⊢
    refine ⟨h.1, ?_⟩
    rcases h.2 with h | ⟨g, off, rfl, hg, hl⟩
    · exact .inl h
    · refine .inr ⟨g, off, rfl, hP g hg, treeL_mk fun i t e => ?_⟩
      obtain ⟨a, c, h1, h3, h2⟩ := treeL_at hl e
      refine ⟨a, c, fun j v hv => ?_, h3, ih t (List.mem_of_getElem? e) h2⟩
      rw [← h1 j v hv]
      exact cell_same (hk g hg) _
/-- A tree is read as the printer's texts read it. -/
theorem tree_C {W : World} {P' : Nat → Prop} : ∀ {t : T} {a : Option Addr}, Tree W P' t a → Kd.C P.k25 W a t.f4.length t.f4 := by
  intro t
  induction t using T.ind with
  | h k neg n s l ih =>
    intro a h
    obtain ⟨h0, h⟩ := tree_list h
    refine ⟨rfl, h0, fun hn => ?_⟩
    rcases h with h | ⟨g, off, rfl, hg, hl⟩
    · rw [h] at hn; exact absurd hn (Nat.lt_irrefl 0)
    · refine ⟨_, rfl, fun j p hj => ?_⟩
      obtain ⟨a, c, h1, h3, h2⟩ := treeL_at hl hj
      refine ⟨(five p a c).toList, rfl, P.k25_mk W p h3 (ih p (List.mem_of_getElem? hj) h2), fun i u hu => ?_⟩
      rw [WideShapes.add_plain, ← Nat.add_assoc]
      exact (by have := h1 i u (by rw [← Array.getElem?_toList]; exact hu); rwa [show off + 5 * j + i = off + j * P.k25.sz + i by show _ = off + j * 5 + i; omega] at this)

/-! ### The argument opened -/
section
variable {H : Type} {enc : TypeId × Value → H} {W : World}
theorem list_of {α : Type} [Inhabited α] {n : Nat} (f : Nat → α) (i : Nat) (x : α) (h : ((List.range n).map f)[i]? = some x) : i < n ∧ x = f i := by
  rw [List.getElem?_map] at h
  by_cases hi : i < n
  · rw [List.getElem?_range hi] at h; simp at h; exact ⟨hi, h.symm⟩
  · rw [List.getElem?_eq_none (by simpa using hi)] at h; simp at h
instance : Inhabited T := ⟨⟨0, false, 0, ⟨#[]⟩, []⟩⟩
theorem wfL_range {n : Nat} (f : Nat → T) (h : ∀ i, i < n → Wf (f i)) : WfL ((List.range n).map f) := by
  have : ∀ l : List Nat, (∀ i ∈ l, i < n) → WfL (l.map f) := by
    intro l
    induction l with
    | nil => intro _; trivial
    | cons a r ih => intro hl; exact ⟨h a (hl a (List.mem_cons_self ..)), ih fun i hi => hl i (List.mem_cons_of_mem _ hi)⟩
  exact this _ fun i hi => by simpa using hi
theorem cells25 : Tryz.prog.cellsOf 25 = 5 := by kernel_rfl
theorem fields25 : ∃ f0 f1 f2 f3 f4 : Field, Tryz.prog.underlying 25 = some (.struct #[f0, f1, f2, f3, f4]) ∧ (f0.type = 3 ∧ f0.offset = 0) ∧ (f1.type = 4 ∧ f1.offset = 1) ∧ (f2.type = 22 ∧ f2.offset = 2) ∧ (f3.type = 9 ∧ f3.offset = 3) ∧ f4.type = 23 ∧ f4.offset = 4 := by
  refine ⟨_, _, _, _, _, Tryz.underlying25, ?_, ?_, ?_, ?_, ?_, ?_⟩ <;> first | exact ⟨rfl, rfl⟩ | rfl
theorem cellsK : Tryz.prog.cellsOf 3 = 1 ∧ Tryz.prog.cellsOf 4 = 1 ∧ Tryz.prog.cellsOf 22 = 1 ∧ Tryz.prog.cellsOf 9 = 1 ∧ Tryz.prog.cellsOf 23 = 1 := ⟨by kernel_rfl, by kernel_rfl, by kernel_rfl, by kernel_rfl, by kernel_rfl⟩
theorem bulk_le {n : Nat} (f : Nat → T) (D : Nat → DataW H) (h : ∀ i, i < n → bulk (f i) ≤ Rows.uptoBulk (D i)) : bulkL ((List.range n).map f) ≤ Rows.uptoBulkAll ((List.range n).map D) := by
  have : ∀ l : List Nat, (∀ i ∈ l, i < n) → bulkL (l.map f) ≤ Rows.uptoBulkAll (l.map D) := by
    intro l
    induction l with
    | nil => intro _; simp [bulkL]
    | cons a r ih =>
      intro hl
      have h1 := h a (hl a (List.mem_cons_self ..))
      have h2 := ih fun i hi => hl i (List.mem_cons_of_mem _ hi)
      simp only [List.map_cons, bulkL, Rows.uptoBulkAll]
      omega
  exact this _ fun i hi => by simpa using hi

set_option maxRecDepth 100000 in
/-- Whatever reads as a value is a tree. -/
theorem open_val : ∀ (fuel : Nat) (cs : List Value) (x : DataW H × List MemPlace), DataW.trod enc Tryz.prog W 0 (fun _ => true) true fuel 25 cs = some x →
    ∃ t a c, cs = (five t a c).toList ∧ t.f4.length ≤ c ∧ Tree W (· < W.heap.size) t a ∧ Wf t ∧ bulk t ≤ Rows.uptoBulk x.1 := by
  intro fuel
  induction fuel using Nat.strongRecOn with
  | _ fuel ih =>
    intro cs x h
    obtain ⟨f0, f1, f2, f3, f4, hu, ⟨t0, o0⟩, ⟨t1, o1⟩, ⟨t2, o2⟩, ⟨t3, o3⟩, t4, o4⟩ := fields25
    obtain ⟨c0, c1, c2, c3, c4⟩ := cellsK
    obtain ⟨xs, n, rfl, rfl, hlen, hxl, hf⟩ := DataW.trod_struct hu h
    rw [cells25] at hlen
    match xs, hxl, cs, hlen with
    | [y0, y1, y2, y3, y4], _, [v0, v1, v2, v3, v4], _ =>
      have g0 := hf 0 f0 rfl
      have g1 := hf 1 f1 rfl
      have g2 := hf 2 f2 rfl
      have g3 := hf 3 f3 rfl
      have g4 := hf 4 f4 rfl
      simp only [t0, t1, t2, t3, t4, o0, o1, o2, o3, o4, c0, c1, c2, c3, c4, List.drop_zero, List.drop_succ_cons, List.take_succ_cons, List.take_zero, List.getElem?_cons_zero, List.getElem?_cons_succ] at g0 g1 g2 g3 g4
      obtain ⟨k, e0, x0, w0⟩ := DataW.trod_int Tryz.underlying3 g0
      obtain ⟨b, e1, x1⟩ := DataW.trod_bool Tryz.underlying4 g1
      obtain ⟨m, e2, x2, w2⟩ := DataW.trod_int Tryz.underlying22 g2
      obtain ⟨s, e3, x3, w3⟩ := DataW.trod_string Tryz.underlying9 g3
      simp only [List.cons.injEq, and_true] at e0 e1 e2 e3
      subst e0 e1 e2 e3 x0 x1 x2 x3
      rcases DataW.trod_slice Tryz.underlying23 g4 with ⟨e4, x4⟩ | ⟨a, len, cap, elems, rest, n', hn', e4, x4, _, hl, hm, hlen', hel, _, _⟩
      · simp only [List.cons.injEq, and_true] at e4
        subst e4 x4
        refine ⟨⟨k, b, m, s, []⟩, none, 0, rfl, Nat.le_refl _, by simp [Tree], ⟨w0, w2, trivial⟩, ?_⟩
        simp only [bulk, bulkL, List.map_cons, List.map_nil, Rows.uptoBulk, Rows.uptoBulkAll, ByteArray.size, Array.length_toList]
        omega
      · simp only [List.cons.injEq, and_true] at e4
        subst e4 x4
        obtain ⟨D, hD⟩ : ∃ D : Nat → DataW H, D = fun i => (elems.getD i (.nil, [])).1 := ⟨_, rfl⟩
        have hmap : elems.map (·.1) = (List.range len).map D := by rw [Go.Deep.map_by_index elems (.nil, []) (·.1), hlen', hD]
        obtain ⟨ts, hts⟩ := Go.Deep.choose_lt (n := len) (α := T) (p := fun i t => ∃ a' c', (∀ j v, (five t a' c')[j]? = some v → W.cell? (a.add (i * 5 + j)) = some v) ∧ t.f4.length ≤ c' ∧ Tree W (· < W.heap.size) t a' ∧ Wf t ∧ bulk t ≤ Rows.uptoBulk (D i)) (fun i hi => by
          have h0 := hel i hi
          rw [List.getElem?_eq_getElem (by omega)] at h0
          obtain ⟨cs', h1, h2⟩ := Option.bind_eq_some_iff.1 h0
          have hDi : D i = (elems[i]'(by omega)).1 := by rw [hD]; simp [List.getD, List.getElem?_eq_getElem (show i < elems.length by omega)]
          rw [cells25] at h1
          obtain ⟨_, hlen, hcell⟩ := World.cells?_some h1
          have hlt : n' < n + 1 := by omega
          rw [hDi]
          obtain ⟨t, a', c', rfl, h6, h3, h4, h5⟩ := ih n' hlt cs' _ h2
          refine ⟨t, a', c', fun j v hv => ?_, h6, h3, h4, h5⟩
          have hj : j < 5 := by
            have := (Array.getElem?_eq_some_iff.1 hv).1
            simpa [five] using this
          have h6 := hcell j hj
          rw [Go.Deep.add_add] at h6
          rw [h6, ← hv, Array.getElem?_toList])
        have hspot : 0 < len → a.spot = none := fun hp => by
          obtain ⟨a', c', h1, _⟩ := hts 0 hp
          have h0 := h1 0 _ rfl
          have := World.cell?_spot h0
          simpa [Addr.add] using this
        refine ⟨⟨k, b, m, s, (List.range len).map ts⟩, some a, cap, by simp [five], by simpa using hl, ?_, ⟨w0, w2, wfL_range ts fun i hi => ?_⟩, ?_⟩
        · simp only [Tree]
          refine ⟨by unfold maxLen at hm; simp; omega, ?_⟩
          by_cases hp : len = 0
          · subst hp; exact .inl rfl
          · obtain ⟨blk, off, spot⟩ := a
            have hs : spot = none := hspot (by omega)
            subst hs
            obtain ⟨a', c', h1, _⟩ := hts 0 (by omega)
            have hb := h1 0 _ rfl
            rw [WideShapes.add_plain] at hb
            refine .inr ⟨blk, off, rfl, block_lt_of_cell hb, treeL_mk fun i t e => ?_⟩
            obtain ⟨hi, rfl⟩ := list_of ts i t e
            obtain ⟨a', c', h1, h7, h2, _⟩ := hts i hi
            refine ⟨a', c', fun j v hv => ?_, h7, h2⟩
            have := h1 j v hv
            rw [WideShapes.add_plain] at this
            rw [show off + 5 * i + j = off + (i * 5 + j) by omega]
            exact this
        · obtain ⟨a', c', _, _, _, h3, _⟩ := hts i hi
          exact h3
        · have := bulk_le ts D (n := len) fun i hi => by obtain ⟨_, _, _, _, _, _, h⟩ := hts i hi; exact h
          simp only [bulk, List.map_cons, List.map_nil, Rows.uptoBulk, Rows.uptoBulkAll, ByteArray.size, Array.length_toList, hmap]
          omega
end
end Go.Proofs.YtfmceonbejlhlaaGreatDoor

-- Written by a program of this session (joint.sh) out of the translation. Not trusted: Lean checks it.
namespace Go.Proofs.YtfmceonbejlhlaaGreatDoor.P
open Go.RowKit Go.Proofs.YtfmceonbejlhlaaGreatDoorW.PrintWords Go.Proofs.YtfmceonbejlhlaaGreatDoorW.PrintLast Go.Proofs.YtfmceonbejlhlaaGreatDoorW.PrintMore
attribute [local go_sem] max2_int min2_int max_two min_two max_three min_three max_four min_four   -- for this text's walks alone
set_option linter.unusedVariables false
set_option linter.unusedSimpArgs false

/-! ### head_may: function 104 -/
def head_may.f (a0 : Int) (a1 : Int) : Option (Bool) := if a0 < 0 then (some false) else (if a0 > 7 then (some false) else (if a0 = 7 then (if a1 < 24 then (some true) else (if a1 > 31 then (some ((a1 / 256) == 0)) else (some false))) else (some true)))
set_option maxHeartbeats 8000000 in
set_option maxRecDepth 100000 in
theorem head_may.calls (a0 : Int) (a1 : Int) (r : Bool) (w : World) (h : head_may.f a0 a1 = some r) :
    Calls Tryz.prog 104 #[.int .i64 a0, .int .u64 a1] w fun e w' => e = .returned (.bool r) ∧ Drawn0 w w' := by
  have H : (if a0 < 0 then (some false) else (if a0 > 7 then (some false) else (if a0 = 7 then (if a1 < 24 then (some true) else (if a1 > 31 then (some ((a1 / 256) == 0)) else (some false))) else (some true)))) = some r := h
  clear h
  by_cases c3 : a0 < 0
  · rw [if_pos c3] at H
    have c3b0 : decide (a0 < 0) = true := decide_eq_true c3
    clear c3
    obtain rfl := Option.some.inj H
    go_enter Tryz.func104, Tryz.ntmps104
    go_wp2
    go_ret
    exact ⟨by first | rfl | (simp; done) | (simp [*]; done), by repeat (first | exact Drawn0.refl _ | apply Drawn0.step)⟩
  · rw [if_neg c3] at H
    have c3b0 : decide (a0 < 0) = false := decide_eq_false c3
    clear c3
    by_cases c4 : a0 > 7
    · rw [if_pos c4] at H
      have c4b0 : decide (7 < a0) = true := decide_eq_true c4
      clear c4
      obtain rfl := Option.some.inj H
      go_enter Tryz.func104, Tryz.ntmps104
      go_wp2
      go_ret
      exact ⟨by first | rfl | (simp; done) | (simp [*]; done), by repeat (first | exact Drawn0.refl _ | apply Drawn0.step)⟩
    · rw [if_neg c4] at H
      have c4b0 : decide (7 < a0) = false := decide_eq_false c4
      clear c4
      by_cases c5 : a0 = 7
      · rw [if_pos c5] at H
        have c5b0 : (a0 == 7) = true := beq_iff_eq.mpr c5
        have c5b1 : (a0 != 7) = false := bne_eq_false_iff_eq.mpr c5
        clear c5
        by_cases c6 : a1 < 24
        · rw [if_pos c6] at H
          have c6b0 : decide (a1 < 24) = true := decide_eq_true c6
          clear c6
          obtain rfl := Option.some.inj H
          go_enter Tryz.func104, Tryz.ntmps104
          go_wp2
          go_ret
          exact ⟨by first | rfl | (simp; done) | (simp [*]; done), by repeat (first | exact Drawn0.refl _ | apply Drawn0.step)⟩
        · rw [if_neg c6] at H
          have c6b0 : decide (a1 < 24) = false := decide_eq_false c6
          clear c6
          by_cases c7 : a1 > 31
          · rw [if_pos c7] at H
            have c7b0 : decide (31 < a1) = true := decide_eq_true c7
            clear c7
            obtain rfl := Option.some.inj H
            go_enter Tryz.func104, Tryz.ntmps104
            go_wp2
            go_ret
            exact ⟨by first | rfl | (simp; done) | (simp [*]; done), by repeat (first | exact Drawn0.refl _ | apply Drawn0.step)⟩
          · rw [if_neg c7] at H
            have c7b0 : decide (31 < a1) = false := decide_eq_false c7
            clear c7
            obtain rfl := Option.some.inj H
            go_enter Tryz.func104, Tryz.ntmps104
            go_wp2
            go_ret
            exact ⟨by first | rfl | (simp; done) | (simp [*]; done), by repeat (first | exact Drawn0.refl _ | apply Drawn0.step)⟩
      · rw [if_neg c5] at H
        have c5b0 : (a0 == 7) = false := beq_eq_false_iff_ne.mpr c5
        have c5b1 : (a0 != 7) = true := bne_iff_ne.mpr c5
        obtain rfl := Option.some.inj H
        go_enter Tryz.func104, Tryz.ntmps104
        go_wp2
        go_ret
        exact ⟨by first | rfl | (simp; done) | (simp [*]; done), by repeat (first | exact Drawn0.refl _ | apply Drawn0.step)⟩

end Go.Proofs.YtfmceonbejlhlaaGreatDoor.P

-- Written by a program of this session (joint.sh) out of the translation. Not trusted: Lean checks it.
namespace Go.Proofs.YtfmceonbejlhlaaGreatDoor.P
open Go.RowKit Go.Proofs.YtfmceonbejlhlaaGreatDoorW.PrintWords Go.Proofs.YtfmceonbejlhlaaGreatDoorW.PrintLast Go.Proofs.YtfmceonbejlhlaaGreatDoorW.PrintMore
attribute [local go_sem] max2_int min2_int max_two min_two max_three min_three max_four min_four   -- for this text's walks alone
set_option linter.unusedVariables false
set_option linter.unusedSimpArgs false

/-! ### head_write: function 105 -/
def head_write.l0 : Nat → Int → List Int → Int → Option (List Int)
  | 0, _, _, _ => none
  | k + 1, x1, x7, x8 => if x8 ≥ 0 then (if 0 ≤ (wrap64 (8 * x8)) then (if x7.length < 140737488355328 then (head_write.l0 k x1 (x7 ++ [(shr .u64 x1 (wrap64 (8 * x8))) % 256]) (wrap64 (x8 - 1))) else (none)) else (none)) else (some x7)
def head_write.f (k : Nat) (a0 : Int) (a1 : Int) (a2 : Int) : Option (List Int) := if a2 = 4 then (some (([Go.bits .or .u8 ((wrap64 (a0 * 32)) % 256) ((a1) % 256)] : List Int))) else (if 0 ≤ a2 then (head_write.l0 k a1 (([(wrap64 ((Go.bits .or .i64 (wrap64 (a0 * 32)) 24) + a2)) % 256] : List Int)) (wrap64 ((shl .i64 1 a2) - 1))) else (none))
theorem head_write.mono_l : ∀ k, (∀ y0 y1 y2, LeO (head_write.l0 k y0 y1 y2) (head_write.l0 (k + 1) y0 y1 y2))
  | 0 => fun _ _ _ r h => by simp [head_write.l0] at h
  | k + 1 => by
    have ih0 := head_write.mono_l k
    · intro y0 y1 y2
      unfold head_write.l0
      repeat' first
      | (with_reducible exact ih0 _ _ _)
      | (with_reducible exact LeO.refl _)
      | (with_reducible exact LeO.none _)
      | (with_reducible refine LeO.ite ?_ ?_)
      | (with_reducible refine LeO.bind ?_ (fun _ => ?_))
      | exact ih0 _ _ _
      | exact LeO.none _
      | refine LeO.ite ?_ ?_
      | refine LeO.bind ?_ (fun _ => ?_)
theorem head_write.mono : ∀ a0 a1 a2 k, LeO (head_write.f k a0 a1 a2) (head_write.f (k + 1) a0 a1 a2) := by
  intro a0 a1 a2 k
  have ih0 := head_write.mono_l k
  unfold head_write.f
  repeat' first
      | (with_reducible exact ih0 _ _ _)
      | (with_reducible exact LeO.refl _)
      | (with_reducible exact LeO.none _)
      | (with_reducible refine LeO.ite ?_ ?_)
      | (with_reducible refine LeO.bind ?_ (fun _ => ?_))
      | exact ih0 _ _ _
      | exact LeO.none _
      | refine LeO.ite ?_ ?_
      | refine LeO.bind ?_ (fun _ => ?_)
set_option maxHeartbeats 8000000 in
set_option maxRecDepth 100000 in
theorem head_write.calls (k : Nat) (a0 : Int) (a1 : Int) (a2 : Int) (r : List Int) (w : World) (h : head_write.f k a0 a1 a2 = some r) :
    Calls Tryz.prog 105 #[.int .i64 a0, .int .u64 a1, .int .i64 a2] w fun e w' => ∃ v0_ : Value, e = .returned (v0_) ∧ Kd.R (Kd.int .u8) 5 w' w.heap.size (fun _ => True) v0_ r ∧ Below w.heap.size w w' := by
  have HB := Aside0.mk (Below.refl w.heap.size w)
  have H : (if a2 = 4 then (some (([Go.bits .or .u8 ((wrap64 (a0 * 32)) % 256) ((a1) % 256)] : List Int))) else (if 0 ≤ a2 then (head_write.l0 k a1 (([(wrap64 ((Go.bits .or .i64 (wrap64 (a0 * 32)) 24) + a2)) % 256] : List Int)) (wrap64 ((shl .i64 1 a2) - 1))) else (none))) = some r := h
  clear h
  by_cases c4 : a2 = 4
  · rw [if_pos c4] at H
    have c4b0 : (a2 == 4) = true := beq_iff_eq.mpr c4
    have c4b1 : (a2 != 4) = false := bne_eq_false_iff_eq.mpr c4
    clear c4
    obtain ⟨y121, hy121⟩ : ∃ y_ : List Int, y_ = (([Go.bits .or .u8 ((wrap64 (a0 * 32)) % 256) ((a1) % 256)] : List Int)) := ⟨_, rfl⟩
    replace H : (some y121) = some r := by first | (rw [hy121]; with_reducible exact H) | (have H2_ := (Option.bind_some _ _).symm.trans H; rw [hy121]; with_reducible exact H2_) | (have H2_ := (Option.bind_some _ _).symm.trans H; with_reducible exact H2_) | with_reducible exact H | (rw [hy121]; exact H) | exact H
    have Ny121 := Aside0.mk hy121
    clear hy121
    obtain rfl := Option.some.inj H
    go_enter Tryz.func105, Tryz.ntmps105
    go_wp2_with (first | ((with_reducible refine gate_dst (N := 17) rfl ?_); refine Kd.R_lit (Kd.int .u8) _ 5 ?hg (N := 17) ?hd (xs := ([Go.bits .or .u8 ((wrap64 (a0 * 32)) % 256) ((a1) % 256)] : List Int)) (inner := [.int .u8 (Go.bits .or .u8 ((wrap64 (a0 * 32)) % 256) ((a1) % 256))]) (ok := fun _ => True) (okp := fun _ => True) ?hr ?hp (fun _ hk => hk) trivial (Below.refl _ _) (Nat.le_refl _) (by simp) ?_; (case hd => rfl); (case hg => rfl); (case hr => first | (go_simp; done) | (go_simp; rfl)); (case hp => exact (Reps.one (show Kd.M (Kd.int .u8) _ _ _ (Go.bits .or .u8 ((wrap64 (a0 * 32)) % 256) ((a1) % 256)) [.int .u8 (Go.bits .or .u8 ((wrap64 (a0 * 32)) % 256) ((a1) % 256))] from rfl) (Reps.none _ _))); intro v122 w5 ho6 hb hg_ hnew_; clear hg_ hnew_; (first | rw [← Ny121.out] at ho6 | (simp only [Int.reduceToNat] at ho6; rw [← Ny121.out] at ho6)); have n0_ := Aside0.mk (Kd.R_lower ho6 (below_size (by repeat (first | (with_reducible first | exact HB.out | apply below_alloc | apply pw_below_drewN | apply below_drew1) | exact HB.out)))); have n1_ := Aside0.mk (below_step (by repeat (first | (with_reducible first | exact HB.out | apply below_alloc | apply pw_below_drewN | apply below_drew1) | exact HB.out)) hb); clear HB; have HO123 := n0_; have HB := n1_; clear n0_ n1_; clear hb ho6))
    go_ret
    exact ⟨_, by first | rfl | (simp [errW_none, errW_some] <;> rfl) | (simp [*, errW_none, errW_some] <;> rfl), by (with_reducible repeat (first | apply Kd.R_alloc | apply Kd.R_drewN | apply Kd.R_drew)); exact HO123.out, by repeat (first | (with_reducible first | exact HB.out | apply below_alloc | apply pw_below_drewN | apply below_drew1) | exact HB.out)⟩
  · rw [if_neg c4] at H
    have c4b0 : (a2 == 4) = false := beq_eq_false_iff_ne.mpr c4
    have c4b1 : (a2 != 4) = true := bne_iff_ne.mpr c4
    obtain ⟨y124, hy124⟩ : ∃ y_ : List Int, y_ = (([(wrap64 ((Go.bits .or .i64 (wrap64 (a0 * 32)) 24) + a2)) % 256] : List Int)) := ⟨_, rfl⟩
    replace H : (if 0 ≤ a2 then (head_write.l0 k a1 y124 (wrap64 ((shl .i64 1 a2) - 1))) else (none)) = some r := by first | (rw [hy124]; with_reducible exact H) | (have H2_ := (Option.bind_some _ _).symm.trans H; rw [hy124]; with_reducible exact H2_) | (have H2_ := (Option.bind_some _ _).symm.trans H; with_reducible exact H2_) | with_reducible exact H | (rw [hy124]; exact H) | exact H
    have Ny124 := Aside0.mk hy124
    clear hy124
    by_cases c7 : 0 ≤ a2
    · rw [if_pos c7] at H
      have c7b0 := eq_true c7
      have c7b1 : decide (0 ≤ a2) = true := decide_eq_true c7
      clear c7
      obtain ⟨ji8, hji8⟩ : ∃ j_ : Int, (shl .i64 1 a2) = j_ := ⟨_, rfl⟩
      replace H : (head_write.l0 k a1 y124 (wrap64 ((ji8) - 1))) = some r := by first | (rw [hji8] at H; exact H) | (simp only [hji8] at H ⊢; exact H)
      have hji8_ : (IntKind.i64.wrap (1 * 2 ^ min a2.toNat 64)) = ji8 := hji8
      have hji8z : a2 ≤ 64 → (IntKind.i64.wrap (1 * 2 ^ a2.toNat)) = ji8 := shl_small hji8
      have hji8u : (IntKind.i64.wrap (2 ^ min a2.toNat 64)) = ji8 := by have h_ := hji8_; rw [Int.one_mul] at h_; exact h_
      have hji8v : a2 ≤ 64 → (IntKind.i64.wrap (2 ^ a2.toNat)) = ji8 := fun hle_ => by have h_ := hji8z hle_; rw [Int.one_mul] at h_; exact h_
      have hji8y : (wrap64 (1 * 2 ^ min a2.toNat 64)) = ji8 := (i64_w _).symm.trans hji8_
      have hji8x : a2 ≤ 64 → (wrap64 (1 * 2 ^ a2.toNat)) = ji8 := fun h_ => (i64_w _).symm.trans (hji8z h_)
      have H' := Aside0.mk H
      clear H
      go_enter Tryz.func105, Tryz.ntmps105
      go_wp2_with (first | ((with_reducible refine gate_dst (N := 24) rfl ?_); refine Kd.R_lit (Kd.int .u8) _ 5 ?hg (N := 24) ?hd (xs := ([(wrap64 ((Go.bits .or .i64 (wrap64 (a0 * 32)) 24) + a2)) % 256] : List Int)) (inner := [.int .u8 ((wrap64 ((Go.bits .or .i64 (wrap64 (a0 * 32)) 24) + a2)) % 256)]) (ok := fun _ => True) (okp := fun _ => True) ?hr ?hp (fun _ hk => hk) trivial (Below.refl _ _) (Nat.le_refl _) (by simp) ?_; (case hd => rfl); (case hg => rfl); (case hr => first | (go_simp; done) | (go_simp; rfl)); (case hp => exact (Reps.one (show Kd.M (Kd.int .u8) _ _ _ ((wrap64 ((Go.bits .or .i64 (wrap64 (a0 * 32)) 24) + a2)) % 256) [.int .u8 ((wrap64 ((Go.bits .or .i64 (wrap64 (a0 * 32)) 24) + a2)) % 256)] from rfl) (Reps.none _ _))); intro v125 w9 ho10 hb hg_ hnew_; clear hg_ hnew_; (first | rw [← Ny124.out] at ho10 | (simp only [Int.reduceToNat] at ho10; rw [← Ny124.out] at ho10)); have n0_ := Aside0.mk (Kd.R_lower ho10 (below_size (by repeat (first | (with_reducible first | exact HB.out | apply below_alloc | apply pw_below_drewN | apply below_drew1) | exact HB.out)))); have n1_ := Aside0.mk (below_step (by repeat (first | (with_reducible first | exact HB.out | apply below_alloc | apply pw_below_drewN | apply below_drew1) | exact HB.out)) hb); clear HB; have HO126 := n0_; have HB := n1_; clear n0_ n1_; clear hb ho10))
      go_loopg [7, 8] k (fun kq v7 v8 w' => ∃ (x7_1 : List Int) (x8_1 : Int), v8 = .int .i64 x8_1 ∧ Aside0 (head_write.l0 kq a1 x7_1 x8_1 = some r) ∧ Aside0 (kq ≤ k) ∧ Aside0 (Kd.R (Kd.int .u8) 5 w' w.heap.size (fun _ => True) v7 x7_1) ∧ Aside0 (Below w.heap.size w w'))
      case atStart => exact ⟨(y124), (wrap64 ((ji8) - 1)), (by first | rfl | (simp; done) | (simp only [← hji8] <;> (first | rfl | simp)) | (simp [*]; done)), H', ⟨Nat.le_refl _⟩, ⟨by (with_reducible repeat (first | apply Kd.R_alloc | apply Kd.R_drewN | apply Kd.R_drew)); exact HO126.out⟩, ⟨by repeat (first | (with_reducible first | exact HB.out | apply below_alloc | apply pw_below_drewN | apply below_drew1) | exact HB.out)⟩⟩
      case round =>
        clear H'
        try clear c1
        try clear p2
        try clear c4
        try clear c4b0
        try clear c4b1
        try clear p6
        try clear c7
        try clear c7b0
        try clear c7b1
        try clear c10
        obtain ⟨x7_1, x8_1, rfl, HA, HK1, HO_7, HB⟩ := hrel
        cases gk with
        | zero => exact absurd HA.out (by simp [head_write.l0])
        | succ k1 =>
          have H := HA.out
          clear HA
          simp only [head_write.l0] at H
          by_cases c11 : x8_1 ≥ 0
          · rw [if_pos c11] at H
            have c11b0 : decide (0 ≤ x8_1) = true := decide_eq_true c11
            clear c11
            obtain ⟨ji12, hji12⟩ : ∃ j_ : Int, (wrap64 (8 * x8_1)) = j_ := ⟨_, rfl⟩
            replace H : (if 0 ≤ (ji12) then (if x7_1.length < 140737488355328 then (head_write.l0 k1 a1 (x7_1 ++ [(shr .u64 a1 (ji12)) % 256]) (wrap64 (x8_1 - 1))) else (none)) else (none)) = some r := by first | (rw [hji12] at H; exact H) | (simp only [hji12] at H ⊢; exact H)
            have hji12w : (IntKind.i64.wrap (8 * x8_1)) = ji12 := (i64_w _).trans hji12
            by_cases c13 : 0 ≤ (ji12)
            · rw [if_pos c13] at H
              have c13b0 := eq_true c13
              have c13b1 : decide (0 ≤ (ji12)) = true := decide_eq_true c13
              clear c13
              obtain ⟨ji14, hji14⟩ : ∃ j_ : Int, (shr .u64 a1 (ji12)) = j_ := ⟨_, rfl⟩
              replace H : (if x7_1.length < 140737488355328 then (head_write.l0 k1 a1 (x7_1 ++ [(ji14) % 256]) (wrap64 (x8_1 - 1))) else (none)) = some r := by first | (rw [hji14] at H; exact H) | (simp only [hji14] at H ⊢; exact H)
              have hji14_ : (a1 / 2 ^ min (ji12).toNat 64) = ji14 := hji14
              have hji14z : (ji12) ≤ 64 → (a1 / 2 ^ (ji12).toNat) = ji14 := shr_small hji14
              by_cases c15 : x7_1.length < 140737488355328
              · rw [if_pos c15] at H
                have LMc15 := Aside0.mk c15
                clear c15
                obtain ⟨y127, hy127⟩ : ∃ y_ : List Int, y_ = (x7_1 ++ [(ji14) % 256]) := ⟨_, rfl⟩
                replace H : (head_write.l0 k1 a1 y127 (wrap64 (x8_1 - 1))) = some r := by first | (rw [hy127]; with_reducible exact H) | (have H2_ := (Option.bind_some _ _).symm.trans H; rw [hy127]; with_reducible exact H2_) | (have H2_ := (Option.bind_some _ _).symm.trans H; with_reducible exact H2_) | with_reducible exact H | (rw [hy127]; exact H) | exact H
                have Ny127 := Aside0.mk hy127
                clear hy127
                have H' := Aside0.mk H
                clear H
                go_wp2_with (first | ((with_reducible refine gate_builtin (b := .append) (xs := #[.tmp 32, .tmp 38]) rfl ?_); at_builtin; refine Kd.R_append (Kd.int .u8) (w0 := w) w.heap.size rfl (.tmp 32) (.tmp 38) 26 5 (.int .u8 0) 1 rfl Tryz.underlying26 info5 rfl (by decide) (by omega) u7 x7_1 ((ji14) % 256) [.int .u8 ((ji14) % 256)] (fun _ => True) (fun _ => False) rfl rfl ?aP (fun _ hk => hk.elim) ?aF ?aO ?aB ?aS ?aL ?_; (case aP => exact rfl); (case aB => exact (by repeat (first | (with_reducible first | exact HB.out | apply below_alloc | apply pw_below_drewN | apply below_drew1) | exact HB.out))); (case aF => exact (fun _ _ => trivial)); (case aO => exact (by (with_reducible repeat (first | apply Kd.R_alloc | apply Kd.R_drewN | apply Kd.R_drew)); exact HO_7.out)); (case aS => exact (below_size (by repeat (first | (with_reducible first | exact HB.out | apply below_alloc | apply pw_below_drewN | apply below_drew1) | exact HB.out)))); (case aL => have := LMc15.out; omega); intro v128 w16 ho hb hg hat; rw [← Ny127.out] at ho; have n0_ := Aside0.mk (hb); have n1_ := Aside0.mk (ho); clear HB; clear HO_7; have HB := n0_; have HO129 := n1_; clear n0_ n1_; clear ho hb hg hat))
                go_roundg k1
                case measure => have := HK1.out; omega
                case rel => exact ⟨(y127), (wrap64 (x8_1 - 1)), (by first | rfl | (simp; done) | (simp [*]; done)), H', ⟨by have := HK1.out; omega⟩, ⟨by (with_reducible repeat (first | apply Kd.R_alloc | apply Kd.R_drewN | apply Kd.R_drew)); exact HO129.out⟩, ⟨by repeat (first | (with_reducible first | exact HB.out | apply below_alloc | apply pw_below_drewN | apply below_drew1) | exact HB.out)⟩⟩
              · rw [if_neg c15] at H
                exact absurd H (by simp)
            · rw [if_neg c13] at H
              exact absurd H (by simp)
          · rw [if_neg c11] at H
            have c11b0 : decide (0 ≤ x8_1) = false := decide_eq_false c11
            clear c11
            obtain rfl := Option.some.inj H
            go_wp2
            go_ret
            exact ⟨_, by first | rfl | (simp [errW_none, errW_some] <;> rfl) | (simp only [← hji8]; first | rfl | (simp [errW_none, errW_some] <;> rfl)) | (simp [*, errW_none, errW_some] <;> rfl), by (with_reducible repeat (first | apply Kd.R_alloc | apply Kd.R_drewN | apply Kd.R_drew)); exact HO_7.out, by repeat (first | (with_reducible first | exact HB.out | apply below_alloc | apply pw_below_drewN | apply below_drew1) | exact HB.out)⟩
    · rw [if_neg c7] at H
      exact absurd H (by simp)

end Go.Proofs.YtfmceonbejlhlaaGreatDoor.P

-- Written by a program of this session (joint.sh) out of the translation. Not trusted: Lean checks it.
namespace Go.Proofs.YtfmceonbejlhlaaGreatDoor.P
open Go.RowKit Go.Proofs.YtfmceonbejlhlaaGreatDoorW.PrintWords Go.Proofs.YtfmceonbejlhlaaGreatDoorW.PrintLast Go.Proofs.YtfmceonbejlhlaaGreatDoorW.PrintMore
attribute [local go_sem] max2_int min2_int max_two min_two max_three min_three max_four min_four   -- for this text's walks alone
set_option linter.unusedVariables false
set_option linter.unusedSimpArgs false

/-! ### head_size: function 106 -/
def head_size.f (a0 : Int) : Option (Int) := if a0 < 24 then (some 4) else (if (a0 / 256) = 0 then (some 0) else (if (a0 / 65536) = 0 then (some 1) else (if (a0 / 4294967296) = 0 then (some 2) else (some 3))))
set_option maxHeartbeats 8000000 in
set_option maxRecDepth 100000 in
theorem head_size.calls (a0 : Int) (r : Int) (w : World) (h : head_size.f a0 = some r) :
    Calls Tryz.prog 106 #[.int .u64 a0] w fun e w' => e = .returned (.int .i64 r) ∧ Drawn0 w w' := by
  have H : (if a0 < 24 then (some 4) else (if (a0 / 256) = 0 then (some 0) else (if (a0 / 65536) = 0 then (some 1) else (if (a0 / 4294967296) = 0 then (some 2) else (some 3))))) = some r := h
  clear h
  by_cases c2 : a0 < 24
  · rw [if_pos c2] at H
    have c2b0 : decide (a0 < 24) = true := decide_eq_true c2
    clear c2
    obtain rfl := Option.some.inj H
    go_enter Tryz.func106, Tryz.ntmps106
    go_wp2
    go_ret
    exact ⟨by first | rfl | (simp; done) | (simp [*]; done), by repeat (first | exact Drawn0.refl _ | apply Drawn0.step)⟩
  · rw [if_neg c2] at H
    have c2b0 : decide (a0 < 24) = false := decide_eq_false c2
    clear c2
    by_cases c3 : (a0 / 256) = 0
    · rw [if_pos c3] at H
      have c3b0 : ((a0 / 256) == 0) = true := beq_iff_eq.mpr c3
      have c3b1 : ((a0 / 256) != 0) = false := bne_eq_false_iff_eq.mpr c3
      clear c3
      obtain rfl := Option.some.inj H
      go_enter Tryz.func106, Tryz.ntmps106
      go_wp2
      go_ret
      exact ⟨by first | rfl | (simp; done) | (simp [*]; done), by repeat (first | exact Drawn0.refl _ | apply Drawn0.step)⟩
    · rw [if_neg c3] at H
      have c3b0 : ((a0 / 256) == 0) = false := beq_eq_false_iff_ne.mpr c3
      have c3b1 : ((a0 / 256) != 0) = true := bne_iff_ne.mpr c3
      by_cases c4 : (a0 / 65536) = 0
      · rw [if_pos c4] at H
        have c4b0 : ((a0 / 65536) == 0) = true := beq_iff_eq.mpr c4
        have c4b1 : ((a0 / 65536) != 0) = false := bne_eq_false_iff_eq.mpr c4
        clear c4
        obtain rfl := Option.some.inj H
        go_enter Tryz.func106, Tryz.ntmps106
        go_wp2
        go_ret
        exact ⟨by first | rfl | (simp; done) | (simp [*]; done), by repeat (first | exact Drawn0.refl _ | apply Drawn0.step)⟩
      · rw [if_neg c4] at H
        have c4b0 : ((a0 / 65536) == 0) = false := beq_eq_false_iff_ne.mpr c4
        have c4b1 : ((a0 / 65536) != 0) = true := bne_iff_ne.mpr c4
        by_cases c5 : (a0 / 4294967296) = 0
        · rw [if_pos c5] at H
          have c5b0 : ((a0 / 4294967296) == 0) = true := beq_iff_eq.mpr c5
          have c5b1 : ((a0 / 4294967296) != 0) = false := bne_eq_false_iff_eq.mpr c5
          clear c5
          obtain rfl := Option.some.inj H
          go_enter Tryz.func106, Tryz.ntmps106
          go_wp2
          go_ret
          exact ⟨by first | rfl | (simp; done) | (simp [*]; done), by repeat (first | exact Drawn0.refl _ | apply Drawn0.step)⟩
        · rw [if_neg c5] at H
          have c5b0 : ((a0 / 4294967296) == 0) = false := beq_eq_false_iff_ne.mpr c5
          have c5b1 : ((a0 / 4294967296) != 0) = true := bne_iff_ne.mpr c5
          obtain rfl := Option.some.inj H
          go_enter Tryz.func106, Tryz.ntmps106
          go_wp2
          go_ret
          exact ⟨by first | rfl | (simp; done) | (simp [*]; done), by repeat (first | exact Drawn0.refl _ | apply Drawn0.step)⟩

end Go.Proofs.YtfmceonbejlhlaaGreatDoor.P

-- Written by a program of this session (joint.sh) out of the translation. Not trusted: Lean checks it.
namespace Go.Proofs.YtfmceonbejlhlaaGreatDoor.P
open Go.RowKit Go.Proofs.YtfmceonbejlhlaaGreatDoorW.PrintWords Go.Proofs.YtfmceonbejlhlaaGreatDoorW.PrintLast Go.Proofs.YtfmceonbejlhlaaGreatDoorW.PrintMore
attribute [local go_sem] max2_int min2_int max_two min_two max_three min_three max_four min_four   -- for this text's walks alone
set_option linter.unusedVariables false
set_option linter.unusedSimpArgs false

/-! ### head_Put: function 65 -/
def head_Put.f (k : Nat) (a0 : Int) (a1 : Int) : Option (List Int × Int) := (head_may.f a0 a1).bind fun t130 => (if t130 = true then ((head_size.f a1).bind fun t131 => ((head_write.f k a0 a1 t131).bind fun t132 => (some (t132, 0)))) else (some (([] : List Int), 1)))
theorem head_Put.mono : ∀ a0 a1 k, LeO (head_Put.f k a0 a1) (head_Put.f (k + 1) a0 a1) := by
  intro a0 a1 k
  unfold head_Put.f
  repeat' first
      | (with_reducible exact head_write.mono _ _ _ _)
      | (with_reducible exact LeO.refl _)
      | (with_reducible exact LeO.none _)
      | (with_reducible refine LeO.ite ?_ ?_)
      | (with_reducible refine LeO.bind ?_ (fun _ => ?_))
      | exact head_write.mono _ _ _ _
      | exact LeO.none _
      | refine LeO.ite ?_ ?_
      | refine LeO.bind ?_ (fun _ => ?_)
set_option maxHeartbeats 8000000 in
set_option maxRecDepth 100000 in
theorem head_Put.calls (k : Nat) (a0 : Int) (a1 : Int) (r1 : List Int) (r2 : Int) (w : World) (h : head_Put.f k a0 a1 = some (r1, r2)) :
    Calls Tryz.prog 65 #[.int .i64 a0, .int .u64 a1] w fun e w' => ∃ v0_ : Value, e = .returned (.tuple #[v0_, .int .i64 r2]) ∧ Kd.R (Kd.int .u8) 5 w' w.heap.size (fun _ => True) v0_ r1 ∧ Below w.heap.size w w' := by
  have HB := Aside0.mk (Below.refl w.heap.size w)
  have H : ((head_may.f a0 a1).bind fun t130 => (if t130 = true then ((head_size.f a1).bind fun t131 => ((head_write.f k a0 a1 t131).bind fun t132 => (some (t132, 0)))) else (some (([] : List Int), 1)))) = some (r1, r2) := h
  clear h
  replace H := Option.bind_eq_some_iff.mp H
  obtain ⟨t130, A30, H⟩ := H
  replace H : (if t130 = true then ((head_size.f a1).bind fun t131 => ((head_write.f k a0 a1 t131).bind fun t132 => (some (t132, 0)))) else (some (([] : List Int), 1))) = some (r1, r2) := H
  have A3 := Aside0.mk A30
  clear A30
  by_cases c4 : t130 = true
  · subst c4
    have H1 : ((head_size.f a1).bind fun t131 => ((head_write.f k a0 a1 t131).bind fun t132 => (some (t132, 0)))) = some (r1, r2) := by rw [if_pos rfl] at H; exact H
    clear H
    have H := H1
    clear H1
    replace H := Option.bind_eq_some_iff.mp H
    obtain ⟨t131, A50, H⟩ := H
    replace H : ((head_write.f k a0 a1 t131).bind fun t132 => (some (t132, 0))) = some (r1, r2) := H
    have A5 := Aside0.mk A50
    clear A50
    replace H := Option.bind_eq_some_iff.mp H
    obtain ⟨t132, A60, H⟩ := H
    replace H : (some (t132, 0)) = some (r1, r2) := H
    have A6 := Aside0.mk A60
    clear A60
    simp only [Option.some.injEq, Prod.mk.injEq] at H
    obtain ⟨rfl, rfl⟩ := H
    go_enter Tryz.func65, Tryz.ntmps65
    go_wp2_with (first | ((with_reducible refine gate_callee (f := 104) rfl ?_); refine goesL_ (some 8) rfl rfl Tryz.func104 (by kernel_rfl) rfl #[.int .i64 a0, .int .u64 a1] rfl (by (try simp only [List.map_toArray, List.map_cons, List.map_nil]); first | done | rfl | (simp only [List.length_drop, List.length_take]; rfl)) ?_; (with_reducible refine (head_may.calls a0 a1 true _ A3.out).mono ?_); rintro e w' ⟨rfl, ⟨nd, rfl⟩⟩; refine ⟨_, rfl, ?_⟩) | ((with_reducible refine gate_callee (f := 106) rfl ?_); refine goesL_ (some 13) rfl rfl Tryz.func106 (by kernel_rfl) rfl #[.int .u64 a1] rfl (by (try simp only [List.map_toArray, List.map_cons, List.map_nil]); first | done | rfl | (simp only [List.length_drop, List.length_take]; rfl)) ?_; (with_reducible refine (head_size.calls a1 t131 _ A5.out).mono ?_); rintro e w' ⟨rfl, ⟨nd, rfl⟩⟩; refine ⟨_, rfl, ?_⟩) | ((with_reducible refine gate_callee (f := 105) rfl ?_); refine goesL_ (some 14) rfl rfl Tryz.func105 (by kernel_rfl) rfl #[.int .i64 a0, .int .u64 a1, .int .i64 t131] rfl (by (try simp only [List.map_toArray, List.map_cons, List.map_nil]); first | done | rfl | (simp only [List.length_drop, List.length_take]; rfl)) ?_; (with_reducible refine (head_write.calls k a0 a1 t131 t132 _ A6.out).mono ?_); rintro e w7 ⟨v133, rfl, ho0, hb⟩; refine ⟨_, rfl, ?_⟩; have n0_ := Aside0.mk (Kd.R_lower ho0 (below_size (by repeat (first | (with_reducible first | exact HB.out | apply below_alloc | apply pw_below_drewN | apply below_drew1) | exact HB.out)))); have n1_ := Aside0.mk (below_step (by repeat (first | (with_reducible first | exact HB.out | apply below_alloc | apply pw_below_drewN | apply below_drew1) | exact HB.out)) hb); clear HB; have HO134 := n0_; have HB := n1_; clear n0_ n1_; (try clear hb); (try clear hb2); (try clear hk); (try clear hi); (try clear ho0)))
    go_ret2
    exact ⟨_, by first | rfl | (simp [errW_none, errW_some] <;> rfl) | (simp [*, errW_none, errW_some] <;> rfl), by (with_reducible repeat (first | apply Kd.R_alloc | apply Kd.R_drewN | apply Kd.R_drew)); exact HO134.out, by repeat (first | (with_reducible first | exact HB.out | apply below_alloc | apply pw_below_drewN | apply below_drew1) | exact HB.out)⟩
  · replace c4 := Bool.eq_false_iff.mpr c4
    subst c4
    have H1 : (some (([] : List Int), 1)) = some (r1, r2) := by rw [if_neg (show ¬ (false = true) by decide)] at H; exact H
    clear H
    have H := H1
    clear H1
    simp only [Option.some.injEq, Prod.mk.injEq] at H
    obtain ⟨rfl, rfl⟩ := H
    go_enter Tryz.func65, Tryz.ntmps65
    go_wp2_with (first | ((with_reducible refine gate_callee (f := 104) rfl ?_); refine goesL_ (some 8) rfl rfl Tryz.func104 (by kernel_rfl) rfl #[.int .i64 a0, .int .u64 a1] rfl (by (try simp only [List.map_toArray, List.map_cons, List.map_nil]); first | done | rfl | (simp only [List.length_drop, List.length_take]; rfl)) ?_; (with_reducible refine (head_may.calls a0 a1 false _ A3.out).mono ?_); rintro e w' ⟨rfl, ⟨nd, rfl⟩⟩; refine ⟨_, rfl, ?_⟩))
    go_ret2
    exact ⟨_, by first | rfl | (simp [errW_none, errW_some] <;> rfl) | (simp [*, errW_none, errW_some] <;> rfl), by first | exact Kd.R_nil _ _ _ _ _ | exact Kd.N_nil _ _ _ _ _ | exact Kd.V_nil _ _ _ _ _ | exact Kd.Q_nil _ _ _ _ _ | exact Kd.S_nil _ _ _ _ _, by repeat (first | (with_reducible first | exact HB.out | apply below_alloc | apply pw_below_drewN | apply below_drew1) | exact HB.out)⟩

end Go.Proofs.YtfmceonbejlhlaaGreatDoor.P

/-
  head.Put: the bytes of a head.
-/
namespace Go.Proofs.YtfmceonbejlhlaaGreatDoor
open Go.RowKit Go.Proofs.YtfmceonbejlhlaaGreatDoorW.PrintWords Go.Proofs.YtfmceonbejlhlaaGreatDoorW.PrintLast Go.Proofs.YtfmceonbejlhlaaGreatDoorW.PrintMore
set_option linter.unusedVariables false

/-- A number's bytes, the highest first. -/
def numBytes : Nat → Int → List Int
  | 0, _ => []
  | k + 1, n => (n / 256 ^ k % 256) :: numBytes k n
/-- The shortest head. -/
def putF (m n : Int) : List Int :=
  if n < 24 then [m * 32 + n]
  else if n < 256 then (m * 32 + 24) :: numBytes 1 n
  else if n < 65536 then (m * 32 + 25) :: numBytes 2 n
  else if n < 4294967296 then (m * 32 + 26) :: numBytes 4 n
  else (m * 32 + 27) :: numBytes 8 n

theorem l0_f (n : Int) : ∀ (j q : Nat) (x : List Int), j ≤ 8 → x.length + j ≤ 100 → P.head_write.l0 (j + 1 + q) n x ((j : Int) - 1) = some (x ++ numBytes j n)
  | 0, q, x, _, _ => by
    rw [show 0 + 1 + q = q + 1 by omega, P.head_write.l0, if_neg (by simp)]
    simp [numBytes]
  | j + 1, q, x, hj, hx => by
    have e1 : ((j + 1 : Nat) : Int) - 1 = (j : Int) := by omega
    have hw : wrap64 (8 * (j : Int)) = 8 * (j : Int) := by unfold wrap64; omega
    have hw2 : wrap64 ((j : Int) - 1) = (j : Int) - 1 := by unfold wrap64; omega
    have hsh : shr .u64 n (8 * (j : Int)) = n / 256 ^ j := by
      unfold shr
      have : min (8 * (j : Int)).toNat IntKind.u64.bits = 8 * j := by show min (8 * (j : Int)).toNat 64 = _; omega
      rw [this, Int.pow_mul]
      rfl
    rw [show j + 1 + 1 + q = (j + 1 + q) + 1 by omega, P.head_write.l0, e1, hw, hw2, hsh, if_pos (by omega), if_pos (by omega), if_pos (by omega)]
    rw [l0_f n j q (x ++ [n / 256 ^ j % 256]) (by omega) (by simp; omega)]
    simp [numBytes]
theorem or_small (m n : Nat) (hm : m ≤ 6) (hn : n < 24) : Go.bits .or .u8 ((wrap64 ((m : Int) * 32)) % 256) ((n : Int) % 256) = (m : Int) * 32 + n := by
  have : ∀ (m : Fin 7) (n : Fin 24), Go.bits .or .u8 ((wrap64 ((m.val : Int) * 32)) % 256) ((n.val : Int) % 256) = (m.val : Int) * 32 + n.val := by decide +kernel
  exact this ⟨m, by omega⟩ ⟨n, hn⟩
theorem or_24 (m s : Nat) (hm : m ≤ 6) (hs : s ≤ 3) : (wrap64 ((Go.bits .or .i64 (wrap64 ((m : Int) * 32)) 24) + (s : Int))) % 256 = (m : Int) * 32 + 24 + s := by
  have : ∀ (m : Fin 7) (s : Fin 4), (wrap64 ((Go.bits .or .i64 (wrap64 ((m.val : Int) * 32)) 24) + (s.val : Int))) % 256 = (m.val : Int) * 32 + 24 + s.val := by decide +kernel
  exact this ⟨m, by omega⟩ ⟨s, by omega⟩
theorem write_f (m s : Nat) (n : Int) (hm : m ≤ 6) (hs : s ≤ 3) : P.head_write.f 20 m n s = some (((m : Int) * 32 + 24 + s) :: numBytes (2 ^ s) n) := by
  unfold P.head_write.f
  rw [if_neg (by omega), if_pos (by omega), or_24 m s hm hs]
  have hsh : wrap64 (shl .i64 1 (s : Int) - 1) = ((2 ^ s : Nat) : Int) - 1 := by
    match s, hs with
    | 0, _ => decide +kernel
    | 1, _ => decide +kernel
    | 2, _ => decide +kernel
    | 3, _ => decide +kernel
  have h8 : 2 ^ s ≤ 8 := by
    match s, hs with
    | 0, _ => decide +kernel
    | 1, _ => decide +kernel
    | 2, _ => decide +kernel
    | 3, _ => decide +kernel
  rw [hsh, show 20 = 2 ^ s + 1 + (19 - 2 ^ s) by omega, l0_f n (2 ^ s) _ _ h8 (by simp; omega)]
  rfl
theorem put_f (m : Nat) (n : Int) (hm : m ≤ 6) (h0 : 0 ≤ n) (h1 : n < 18446744073709551616) : P.head_Put.f 20 m n = some (putF m n, 0) := by
  unfold P.head_Put.f P.head_may.f putF
  rw [if_neg (by omega), if_neg (by omega), if_neg (by omega)]
  show ((P.head_size.f n).bind _) = _
  unfold P.head_size.f
  by_cases h24 : n < 24
  · rw [if_pos h24, if_pos h24]
    simp only [Option.bind_some]
    unfold P.head_write.f
    rw [if_pos rfl]
    have := or_small m n.toNat hm (by omega)
    rw [show ((n.toNat : Nat) : Int) = n by omega] at this
    rw [this]
    rfl
  rw [if_neg h24, if_neg h24]
  by_cases h8 : n / 256 = 0
  · have h8' : n < 256 := by omega
    have hw := write_f m 0 n hm (by omega)
    rw [if_pos h8, if_pos h8']
    simp only [Option.bind_some]
    rw [show ((0 : Nat) : Int) = 0 from rfl] at hw
    rw [hw]
    simp
  have h8' : ¬ n < 256 := by omega
  rw [if_neg h8, if_neg h8']
  by_cases h16 : n / 65536 = 0
  · have h16' : n < 65536 := by omega
    have hw := write_f m 1 n hm (by omega)
    rw [if_pos h16, if_pos h16']
    simp only [Option.bind_some]
    rw [show ((1 : Nat) : Int) = 1 from rfl] at hw
    rw [hw]
    simp; omega
  have h16' : ¬ n < 65536 := by omega
  rw [if_neg h16, if_neg h16']
  by_cases h32 : n / 4294967296 = 0
  · have h32' : n < 4294967296 := by omega
    have hw := write_f m 2 n hm (by omega)
    rw [if_pos h32, if_pos h32']
    simp only [Option.bind_some]
    rw [show ((2 : Nat) : Int) = 2 from rfl] at hw
    rw [hw]
    simp; omega
  have h32' : ¬ n < 4294967296 := by omega
  have hw := write_f m 3 n hm (by omega)
  rw [if_neg h32, if_neg h32']
  simp only [Option.bind_some]
  rw [show ((3 : Nat) : Int) = 3 from rfl] at hw
  rw [hw]
  simp; omega
end Go.Proofs.YtfmceonbejlhlaaGreatDoor

/-
  fbits: the widths, and the width of a number of bits.
-/
namespace Go.Proofs.YtfmceonbejlhlaaGreatDoor
open Go.RowKit Go.Proofs.YtfmceonbejlhlaaGreatDoorW.PrintWords Go.Proofs.YtfmceonbejlhlaaGreatDoorW.PrintLast Go.Proofs.YtfmceonbejlhlaaGreatDoorW.PrintMore
set_option linter.unusedVariables false

def widthCells : Array Value := #[.int .i64 16, .int .i64 5, .int .i64 10, .int .i64 32, .int .i64 8, .int .i64 23, .int .i64 64, .int .i64 11, .int .i64 52]
set_option maxHeartbeats 400000 in
set_option maxRecDepth 100000 in
theorem widths_any (w : World) :
    Calls Tryz.prog 97 #[] w fun e w' => e = .returned (.agg widthCells) ∧ Below w.heap.size w w' := by
  go_enter Tryz.func97, Tryz.ntmps97
  go_wp2_with (refine wpList_store_row rfl 177 (.tmp 0) (.tmp 4) rfl w.heap.size widthCells rfl rfl 177 _ (heap_alloc_new w _) (by kernel_rfl) (by kernel_rfl) (by kernel_rfl) ?_)
  rw [World.setRow_alloc_new]
  exact bodyPost_ret (v := .agg widthCells) (results_cell_row (p := 0) (ty := 177) rfl _ _ w.heap.size 177 widthCells (0, 0) _ rfl (heap_alloc_new w _) Tryz.underlying177 rfl (by kernel_rfl)) rfl ⟨rfl, (Below.refl _ _).alloc (Nat.le_refl _) _⟩
/-- The width of so many bits, and whether bits have no more. -/
def ofF (all b : Int) : Option ((Int × Int × Int) × Bool) :=
  if all = 16 then some ((16, 5, 10), decide (b / 65536 = 0)) else if all = 32 then some ((32, 8, 23), decide (b / 4294967296 = 0)) else if all = 64 then some ((64, 11, 52), true) else none
theorem index_width0 (W : World) : (Instr.index 177 (.agg widthCells) (.int .i64 0)).run Tryz.prog W = .ok (.agg #[.int .i64 16, .int .i64 5, .int .i64 10]) W := by kernel_rfl
theorem index_width1 (W : World) : (Instr.index 177 (.agg widthCells) (.int .i64 1)).run Tryz.prog W = .ok (.agg #[.int .i64 32, .int .i64 8, .int .i64 23]) W := by kernel_rfl
theorem index_width2 (W : World) : (Instr.index 177 (.agg widthCells) (.int .i64 2)).run Tryz.prog W = .ok (.agg #[.int .i64 64, .int .i64 11, .int .i64 52]) W := by kernel_rfl
end Go.Proofs.YtfmceonbejlhlaaGreatDoor

/-
  fbits: of.
-/
namespace Go.Proofs.YtfmceonbejlhlaaGreatDoor
open Go.RowKit Go.Proofs.YtfmceonbejlhlaaGreatDoorW.PrintWords Go.Proofs.YtfmceonbejlhlaaGreatDoorW.PrintLast Go.Proofs.YtfmceonbejlhlaaGreatDoorW.PrintMore
set_option linter.unusedVariables false

/-- Three cells of a block. -/
def Row3 (W : World) (g : Nat) (t : TypeId) (a b c : Value) : Prop := W.heap[g]? = some (.cells #[a, b, c] t (0, 0))
section
variable {W : World} {g : Nat} {t : TypeId} {a b c : Value} (h : Row3 W g t a b c)
include h
theorem Row3.c0 : W.cell? ⟨g, 0, none⟩ = some a := cell_of_row W g 0 _ _ _ h
theorem Row3.c1 : W.cell? ⟨g, 1, none⟩ = some b := cell_of_row W g 1 _ _ _ h
theorem Row3.c2 : W.cell? ⟨g, 2, none⟩ = some c := cell_of_row W g 2 _ _ _ h
theorem Row3.fz (j : Nat) : W.frozen? ⟨g, j, none⟩ = false := frozen_of_row W g j _ _ h
theorem Row3.lt : g < W.heap.size := block_lt_of_cell h.c0
theorem Row3.s0 (v : Value) : Row3 (W.setCell ⟨g, 0, none⟩ v) g t v b c := by
  rw [setCell_eq_setRow W g 0 _ _ _ v h]; exact setRow_heap _ _ _ _ _ _ h
theorem Row3.s1 (v : Value) : Row3 (W.setCell ⟨g, 1, none⟩ v) g t a v c := by
  rw [setCell_eq_setRow W g 1 _ _ _ v h]; exact setRow_heap _ _ _ _ _ _ h
theorem Row3.s2 (v : Value) : Row3 (W.setCell ⟨g, 2, none⟩ v) g t a b v := by
  rw [setCell_eq_setRow W g 2 _ _ _ v h]; exact setRow_heap _ _ _ _ _ _ h
theorem Row3.below {W1 : World} (hb : Below W.heap.size W W1) : Row3 W1 g t a b c := (hb.block g h.lt).trans h
theorem Row3.alloc (o : Obj) : Row3 (W.alloc o) g t a b c := (Below.heap_alloc W o g h.lt).trans h
end
theorem Row3.new (w : World) (t : TypeId) (a b c : Value) : Row3 (w.alloc (.cells #[a, b, c] t)) w.heap.size t a b c := heap_alloc_new w _

theorem info168 : (Tryz.prog.info? 168).map (·.size) = some 3 := by kernel_rfl
theorem below_sets3 {B g : Nat} {w W : World} (h : Below B w W) (hg : B ≤ g) (v u x : Value) : Below B w (((W.setCell ⟨g, 0, none⟩ v).setCell ⟨g, 1, none⟩ u).setCell ⟨g, 2, none⟩ x) :=
  ((h.setCell (p := ⟨g, 0, none⟩) hg _).setCell (p := ⟨g, 1, none⟩) hg _).setCell (p := ⟨g, 2, none⟩) hg _
theorem ret_of {tmps : Array Value} {W : World} {g : Nat} {a b c n : Value} (hp : tmps.getD 4 undef = .pointer (some ⟨g, 0, none⟩)) (h : Row3 W g 168 a b c) (hn : tmps.getD 5 undef = n) :
    (results Tryz.f92 tmps).run Tryz.prog W = .ok (.tuple #[.agg #[a, b, c], n]) W := by
  rw [← hn]
  exact results_ct (p := 4) (u := 5) (ty := 168) rfl _ _ g 168 #[a, b, c] (0, 0) _ hp h Tryz.underlying168 rfl info168

set_option maxHeartbeats 2000000 in
set_option maxRecDepth 100000 in
theorem of16 (b : Int) (w : World) :
    Calls Tryz.prog 92 #[.int .i64 16, .int .u64 b] w fun e w' => e = .returned (.tuple #[.agg #[.int .i64 16, .int .i64 5, .int .i64 10], .bool (decide (b / 65536 = 0))]) ∧ Below w.heap.size w w' := by
  go_enter Tryz.func92, Tryz.ntmps92
  have R := Row3.new w 168 (.int .i64 0) (.int .i64 0) (.int .i64 0)
  go_wp2_with (go_at_call 97; refine (widths_any _).mono ?_; rintro e w1 ⟨rfl, hb1⟩)
  have hB : Below w.heap.size w w1 := ((Below.refl _ w).alloc (Nat.le_refl _) _).trans (hb1.mono (by simp))
  replace R := R.below hb1
  have i0 := fun W => index_width0 W
  have i1 := fun W => index_width1 W
  have i2 := fun W => index_width2 W
  go_loopw [9] (fun i wr => ∃ k : Nat, k ≤ 0 ∧ i = .int .i64 k ∧ Row3 wr w.heap.size 168 (.int .i64 0) (.int .i64 0) (.int .i64 0) ∧ Below w.heap.size w wr) (fun i _ => 3 - (intOf i).toNat)
  case atStart => exact ⟨0, by omega, rfl, R, hB⟩
  case round =>
    obtain ⟨k, hk, rfl, R, hB⟩ := hrel
    obtain rfl : k = 0 := by omega
    go_wp2
    have R1 := R.alloc (.cells #[.int .i64 16, .int .i64 5, .int .i64 10] 168)
    have N1 := Row3.new wr 168 (.int .i64 16) (.int .i64 5) (.int .i64 10)
    have hB1 := hB.alloc hB.size (.cells #[.int .i64 16, .int .i64 5, .int .i64 10] 168)
    generalize wr.alloc (.cells #[.int .i64 16, .int .i64 5, .int .i64 10] 168) = W1 at R1 N1 hB1 ⊢
    have n0 := N1.c0
    have n1 := N1.c1
    have n2 := N1.c2
    have r0 := R1.c0
    have r1 := fun v => (R1.s0 v).c1
    have r2 := fun v u => ((R1.s0 v).s1 u).c2
    have f0 := R1.fz 0
    have f1 := fun v => (R1.s0 v).fz 1
    have f2 := fun v u => ((R1.s0 v).s1 u).fz 2
    go_region
    all_goals go_wp2
    all_goals exact bodyPost_ret (ret_of rfl (((R1.s0 _).s1 _).s2 _) rfl) rfl ⟨by first | rfl | simp, by first | exact below_sets3 hB1 (Nat.le_refl _) _ _ _ | exact (below_sets3 hB1 (Nat.le_refl _) _ _ _).drew⟩
set_option maxHeartbeats 2000000 in
set_option maxRecDepth 100000 in
theorem of32 (b : Int) (w : World) :
    Calls Tryz.prog 92 #[.int .i64 32, .int .u64 b] w fun e w' => e = .returned (.tuple #[.agg #[.int .i64 32, .int .i64 8, .int .i64 23], .bool (decide (b / 4294967296 = 0))]) ∧ Below w.heap.size w w' := by
  go_enter Tryz.func92, Tryz.ntmps92
  have R := Row3.new w 168 (.int .i64 0) (.int .i64 0) (.int .i64 0)
  go_wp2_with (go_at_call 97; refine (widths_any _).mono ?_; rintro e w1 ⟨rfl, hb1⟩)
  have hB : Below w.heap.size w w1 := ((Below.refl _ w).alloc (Nat.le_refl _) _).trans (hb1.mono (by simp))
  replace R := R.below hb1
  have i0 := fun W => index_width0 W
  have i1 := fun W => index_width1 W
  have i2 := fun W => index_width2 W
  go_loopw [9] (fun i wr => ∃ k : Nat, k ≤ 1 ∧ i = .int .i64 k ∧ Row3 wr w.heap.size 168 (.int .i64 0) (.int .i64 0) (.int .i64 0) ∧ Below w.heap.size w wr) (fun i _ => 3 - (intOf i).toNat)
  case atStart => exact ⟨0, by omega, rfl, R, hB⟩
  case round =>
    obtain ⟨k, hk, rfl, R, hB⟩ := hrel
    by_cases h0 : k = 0
    · subst h0
      go_wp2
      go_roundw
      case rel => exact ⟨1, by omega, by go_num, R.alloc _, hB.alloc hB.size _⟩
      case measure => simp [intOf]
    obtain rfl : k = 1 := by omega
    go_wp2
    have R1 := R.alloc (.cells #[.int .i64 32, .int .i64 8, .int .i64 23] 168)
    have N1 := Row3.new wr 168 (.int .i64 32) (.int .i64 8) (.int .i64 23)
    have hB1 := hB.alloc hB.size (.cells #[.int .i64 32, .int .i64 8, .int .i64 23] 168)
    generalize wr.alloc (.cells #[.int .i64 32, .int .i64 8, .int .i64 23] 168) = W1 at R1 N1 hB1 ⊢
    have n0 := N1.c0
    have n1 := N1.c1
    have n2 := N1.c2
    have r0 := R1.c0
    have r1 := fun v => (R1.s0 v).c1
    have r2 := fun v u => ((R1.s0 v).s1 u).c2
    have f0 := R1.fz 0
    have f1 := fun v => (R1.s0 v).fz 1
    have f2 := fun v u => ((R1.s0 v).s1 u).fz 2
    go_region
    all_goals go_wp2
    all_goals exact bodyPost_ret (ret_of rfl (((R1.s0 _).s1 _).s2 _) rfl) rfl ⟨by first | rfl | simp, by first | exact below_sets3 hB1 (Nat.le_refl _) _ _ _ | exact (below_sets3 hB1 (Nat.le_refl _) _ _ _).drew⟩
set_option maxHeartbeats 2000000 in
set_option maxRecDepth 100000 in
theorem of64 (b : Int) (w : World) :
    Calls Tryz.prog 92 #[.int .i64 64, .int .u64 b] w fun e w' => e = .returned (.tuple #[.agg #[.int .i64 64, .int .i64 11, .int .i64 52], .bool true]) ∧ Below w.heap.size w w' := by
  go_enter Tryz.func92, Tryz.ntmps92
  have R := Row3.new w 168 (.int .i64 0) (.int .i64 0) (.int .i64 0)
  go_wp2_with (go_at_call 97; refine (widths_any _).mono ?_; rintro e w1 ⟨rfl, hb1⟩)
  have hB : Below w.heap.size w w1 := ((Below.refl _ w).alloc (Nat.le_refl _) _).trans (hb1.mono (by simp))
  replace R := R.below hb1
  have i0 := fun W => index_width0 W
  have i1 := fun W => index_width1 W
  have i2 := fun W => index_width2 W
  go_loopw [9] (fun i wr => ∃ k : Nat, k ≤ 2 ∧ i = .int .i64 k ∧ Row3 wr w.heap.size 168 (.int .i64 0) (.int .i64 0) (.int .i64 0) ∧ Below w.heap.size w wr) (fun i _ => 3 - (intOf i).toNat)
  case atStart => exact ⟨0, by omega, rfl, R, hB⟩
  case round =>
    obtain ⟨k, hk, rfl, R, hB⟩ := hrel
    by_cases h0 : k = 0
    · subst h0
      go_wp2
      go_roundw
      case rel => exact ⟨1, by omega, by go_num, R.alloc _, hB.alloc hB.size _⟩
      case measure => simp [intOf]
    by_cases h1 : k = 1
    · subst h1
      go_wp2
      go_roundw
      case rel => exact ⟨2, by omega, by go_num, R.alloc _, hB.alloc hB.size _⟩
      case measure => simp [intOf]
    obtain rfl : k = 2 := by omega
    go_wp2
    have R1 := R.alloc (.cells #[.int .i64 64, .int .i64 11, .int .i64 52] 168)
    have N1 := Row3.new wr 168 (.int .i64 64) (.int .i64 11) (.int .i64 52)
    have hB1 := hB.alloc hB.size (.cells #[.int .i64 64, .int .i64 11, .int .i64 52] 168)
    generalize wr.alloc (.cells #[.int .i64 64, .int .i64 11, .int .i64 52] 168) = W1 at R1 N1 hB1 ⊢
    have n0 := N1.c0
    have n1 := N1.c1
    have n2 := N1.c2
    have r0 := R1.c0
    have r1 := fun v => (R1.s0 v).c1
    have r2 := fun v u => ((R1.s0 v).s1 u).c2
    have f0 := R1.fz 0
    have f1 := fun v => (R1.s0 v).fz 1
    have f2 := fun v u => ((R1.s0 v).s1 u).fz 2
    go_region
    all_goals go_wp2
    all_goals exact bodyPost_ret (ret_of rfl (((R1.s0 _).s1 _).s2 _) rfl) rfl ⟨by first | rfl | simp, by first | exact below_sets3 hB1 (Nat.le_refl _) _ _ _ | exact (below_sets3 hB1 (Nat.le_refl _) _ _ _).drew⟩
end Go.Proofs.YtfmceonbejlhlaaGreatDoor

/-
  Leaf, Depth: what they compute of a tree.
-/
namespace Go.Proofs.YtfmceonbejlhlaaGreatDoor
open Go.RowKit Go.Proofs.YtfmceonbejlhlaaGreatDoorW.PrintWords Go.Proofs.YtfmceonbejlhlaaGreatDoorW.PrintLast Go.Proofs.YtfmceonbejlhlaaGreatDoorW.PrintMore
set_option linter.unusedVariables false

def leafF (k : Int) : Bool := !(k == 11 || k == 12 || k == 13)
/-- A call that hands back this and leaves the world as it was, but for new blocks. -/
def Ret (v : Value) (w : World) (e : Ending) (w' : World) : Prop := e = .returned v ∧ Below w.heap.size w w'

/-- Five cells of a block, at a place. -/
def Row5 (W : World) (g : Nat) (a b c d e : Value) : Prop := W.heap[g]? = some (.cells #[a, b, c, d, e] 25 (0, 0))
section
variable {W : World} {g : Nat} {a b c d e : Value} (h : Row5 W g a b c d e)
include h
theorem Row5.c0 : W.cell? ⟨g, 0, none⟩ = some a := cell_of_row W g 0 _ _ _ h
theorem Row5.c1 : W.cell? ⟨g, 1, none⟩ = some b := cell_of_row W g 1 _ _ _ h
theorem Row5.c2 : W.cell? ⟨g, 2, none⟩ = some c := cell_of_row W g 2 _ _ _ h
theorem Row5.c3 : W.cell? ⟨g, 3, none⟩ = some d := cell_of_row W g 3 _ _ _ h
theorem Row5.c4 : W.cell? ⟨g, 4, none⟩ = some e := cell_of_row W g 4 _ _ _ h
theorem Row5.fz (j : Nat) : W.frozen? ⟨g, j, none⟩ = false := frozen_of_row W g j _ _ h
theorem Row5.lt : g < W.heap.size := block_lt_of_cell h.c0
theorem Row5.below {W1 : World} (hb : Below W.heap.size W W1) : Row5 W1 g a b c d e := (hb.block g h.lt).trans h
theorem Row5.alloc (o : Obj) : Row5 (W.alloc o) g a b c d e := (Below.heap_alloc W o g h.lt).trans h
end
theorem Row5.new (w : World) (a b c d e : Value) : Row5 (w.alloc (.cells #[a, b, c, d, e] 25)) w.heap.size a b c d e := heap_alloc_new w _

set_option maxHeartbeats 1000000 in
theorem leaf_any (k : Int) (b n s l : Value) (w : World) :
    Calls Tryz.prog 33 #[.agg #[.int .i64 k, b, n, s, l]] w (Ret (.bool (leafF k)) w) := by
  go_enter Tryz.func33, Tryz.ntmps33
  by_cases h1 : k = 11
  · subst h1; go_wp2; go_ret; exact ⟨rfl, (Below.refl _ _).alloc (Nat.le_refl _) _⟩
  by_cases h2 : k = 12
  · subst h2; go_wp2; go_ret; exact ⟨rfl, (Below.refl _ _).alloc (Nat.le_refl _) _⟩
  by_cases h3 : k = 13
  · subst h3; go_wp2; go_ret; exact ⟨rfl, (Below.refl _ _).alloc (Nat.le_refl _) _⟩
  have b1 : (k == 11) = false := by simpa using h1
  have b2 : (k == 12) = false := by simpa using h2
  have b3 : (k == 13) = false := by simpa using h3
  go_wp2
  go_ret
  exact ⟨by simp [leafF, b1, b2, b3], (Below.refl _ _).alloc (Nat.le_refl _) _⟩

mutual
/-- How deep. -/
def depthF : T → Nat | ⟨k, _, _, _, l⟩ => if leafF k then (if k = 5 then 1 else 0) else depthL l + 1
def depthL : List T → Nat | [] => 0 | t :: r => max (depthF t) (depthL r)
end
theorem depth_bulk : ∀ t : T, depthF t ≤ bulk t := by
  intro t
  induction t using T.ind with
  | h k neg n s l ih =>
    have : ∀ r : List T, (∀ t ∈ r, depthF t ≤ bulk t) → depthL r ≤ bulkL r := by
      intro r
      induction r with
      | nil => intro _; simp [depthL, bulkL]
      | cons t r ih2 =>
        intro h
        have h1 := h t (List.mem_cons_self ..)
        have h2 := ih2 fun u hu => h u (List.mem_cons_of_mem _ hu)
        simp only [depthL, bulkL]; omega
    have h3 := this l ih
    simp only [depthF, bulk]
    split
    · split <;> omega
    · omega
theorem depthL_snoc (t : T) : ∀ l : List T, depthL (l ++ [t]) = max (depthL l) (depthF t)
  | [] => by simp [depthL]
  | x :: r => by simp only [List.cons_append, depthL]; rw [depthL_snoc t r]; omega
theorem depthL_take {l : List T} {i : Nat} {t : T} (h : l[i]? = some t) : depthL (l.take (i + 1)) = max (depthL (l.take i)) (depthF t) := by
  rw [List.take_add_one, h, Option.toList_some, depthL_snoc]
theorem depthL_take_le : ∀ (l : List T) (i : Nat), depthL (l.take i) ≤ depthL l
  | [], i => by simp [depthL]
  | x :: r, 0 => by simp [depthL]
  | x :: r, i + 1 => by have := depthL_take_le r i; simp only [List.take_succ_cons, depthL]; omega
theorem depthL_bulk (l : List T) : depthL l ≤ bulkL l := by
  induction l with
  | nil => simp [depthL, bulkL]
  | cons t r ih => have := depth_bulk t; simp only [depthL, bulkL]; omega

/-- The cells of element i of a row of values. -/
theorem treeL_cells {W : World} {P : Nat → Prop} {g off : Nat} {l : List T} (h : TreeL W P l g off) {i : Nat} (hi : i < l.length) : ∃ t a c, l[i]? = some t ∧ W.cell? ⟨g, off + i * 5, none⟩ = some (.int .i64 t.f0) ∧ W.cell? ⟨g, off + i * 5 + 1, none⟩ = some (.bool t.f1) ∧
    W.cell? ⟨g, off + i * 5 + 2, none⟩ = some (.int .u64 t.f2) ∧ W.cell? ⟨g, off + i * 5 + 3, none⟩ = some (.string t.f3) ∧ W.cell? ⟨g, off + i * 5 + 4, none⟩ = some (.slice a t.f4.length c) ∧ t.f4.length ≤ c ∧ Tree W P t a := by
  obtain ⟨a, c, h1, h2, h3⟩ := treeL_at h (List.getElem?_eq_getElem hi)
  rw [Nat.mul_comm] at h1
  exact ⟨_, a, c, List.getElem?_eq_getElem hi, h1 0 _ rfl, h1 1 _ rfl, h1 2 _ rfl, h1 3 _ rfl, h1 4 _ rfl, h2, h3⟩

set_option maxHeartbeats 4000000 in
set_option maxRecDepth 100000 in
theorem depth_any : ∀ (t : T) (a : Option Addr) (c : Nat) (W : World) (P : Nat → Prop), (∀ g, P g → g < W.heap.size) → Tree W P t a → bulk t ≤ 4294967296 →
    Calls Tryz.prog 15 #[.agg (five t a c)] W (Ret (.int .i64 (depthF t : Nat)) W) := by
  intro t
  induction t using T.ind with
  | h k neg n s l ih =>
    intro a c w P hP hT hb
    have hlb := bulkL_len l
    have hdb := depthL_bulk l
    simp only [bulk] at hb
    obtain ⟨h0, hT⟩ := tree_list hT
    dsimp only at hT h0
    have hL := fun W => leaf_any k (.bool neg) (.int .u64 n) (.string s) (.slice a l.length c) W
    unfold five
    dsimp only
    go_enter Tryz.func15, Tryz.ntmps15
    have R := Row5.new w (.int .i64 k) (.bool neg) (.int .u64 n) (.string s) (.slice a l.length c)
    have hB : Below w.heap.size w (w.alloc (.cells #[.int .i64 k, .bool neg, .int .u64 n, .string s, .slice a l.length c] 25)) := (Below.refl _ w).alloc (Nat.le_refl _) _
    have hc0 := R.c0
    have hc4 := R.c4
    by_cases hl : leafF k = true
    · have hd : (depthF ⟨k, neg, n, s, l⟩ : Nat) = (if k = 5 then 1 else 0) := by simp only [depthF]; rw [if_pos hl]
      rw [hd]
      by_cases h5 : k = 5
      · rw [if_pos h5]
        subst h5
        go_wp2_with (go_at_call 33; refine (hL _).mono ?_; rintro e w1 ⟨rfl, hb1⟩; rw [hl]; replace R := R.below hb1; have c0 := R.c0)
        go_ret
        exact ⟨rfl, hB.trans (hb1.mono (by simp))⟩
      · have b5 : (k == 5) = false := by simpa using h5
        rw [if_neg h5]
        go_wp2_with (go_at_call 33; refine (hL _).mono ?_; rintro e w1 ⟨rfl, hb1⟩; rw [hl]; replace R := R.below hb1; have c0 := R.c0)
        go_ret
        exact ⟨rfl, hB.trans (hb1.mono (by simp))⟩
    · have hl' : leafF k = false := by simpa using hl
      have hd : depthF ⟨k, neg, n, s, l⟩ = depthL l + 1 := by simp only [depthF]; rw [if_neg hl]
      rw [hd]
      go_wp2_with (go_at_call 33; refine (hL _).mono ?_; rintro e w1 ⟨rfl, hb1⟩; rw [hl']; replace R := R.below hb1; have c4 := R.c4)
      have hB1 : Below w.heap.size w w1 := hB.trans (hb1.mono (by simp))
      go_loopw [3, 14] (fun d i wr => ∃ k : Nat, k ≤ l.length ∧ i = .int .i64 k ∧ d = .int .i64 (depthL (l.take k) : Nat) ∧ Below w.heap.size w wr) (fun d i _ => l.length - (intOf i).toNat)
      case atStart => exact ⟨0, by omega, rfl, rfl, hB1⟩
      case round =>
        obtain ⟨j, hj, rfl, rfl, hB2⟩ := hrel
        by_cases hlt : j < l.length
        · rcases hT with rfl | ⟨g, off, rfl, hg, hTL⟩
          · simp at hlt
          obtain ⟨x, xa, xc, hx, e0, e1, e2, e3, e4, hxc, hxT⟩ := treeL_cells hTL hlt
          have hgw := hP g hg
          have K0 := (hB2.cell (p := ⟨g, off + j * 5, none⟩) hgw).trans e0
          have K1 := (hB2.cell (p := ⟨g, off + j * 5 + 1, none⟩) hgw).trans e1
          have K2 := (hB2.cell (p := ⟨g, off + j * 5 + 2, none⟩) hgw).trans e2
          have K3 := (hB2.cell (p := ⟨g, off + j * 5 + 3, none⟩) hgw).trans e3
          have K4 := (hB2.cell (p := ⟨g, off + j * 5 + 4, none⟩) hgw).trans e4
          have hxb := bulkL_mem (List.mem_of_getElem? hx)
          have hC : ∀ o, Calls Tryz.prog 15 #[.agg #[.int .i64 x.f0, .bool x.f1, .int .u64 x.f2, .string x.f3, .slice xa x.f4.length xc]] (wr.alloc o) (Ret (.int .i64 (depthF x : Nat)) (wr.alloc o)) := fun o => by
            have hb' : Below w.heap.size w (wr.alloc o) := hB2.alloc hB2.size o
            exact ih x (List.mem_of_getElem? hx) xa xc _ P (fun g hg => Nat.lt_of_lt_of_le (hP g hg) hb'.size) (tree_keep (fun _ h => h) (fun g hg => hb'.block g (hP g hg)) hxT) (by omega)
          have hdx := depth_bulk x
          have hdl := depthL_take_le l j
          have htk := depthL_take hx
          obtain ⟨m, hm⟩ : ∃ m, depthF x = m := ⟨_, rfl⟩
          obtain ⟨d, hd'⟩ : ∃ d, depthL (l.take j) = d := ⟨_, rfl⟩
          rw [hm] at hC hdx htk
          rw [hd'] at hdl htk ⊢
          clear hL hB hc0 hc4 hb1 R c4 e0 e1 e2 e3 e4 hTL hxT ih hT hd hm hd'
          have HT := Lib.hid htk
          clear htk
          go_wp2_with (go_at_call 15; refine (hC _).mono ?_; rintro e w2 ⟨rfl, hb2⟩)
          go_roundw
          case rel => exact ⟨j + 1, by omega, by go_num, by rw [HT.out]; congr 1; split <;> omega, (hB2.alloc hB2.size _).trans (hb2.mono (by have := hB2.size; simp; omega))⟩
          case measure => simp [intOf]; omega
        · obtain rfl : j = l.length := by omega
          have hdd : depthL (l.take l.length) = depthL l := by rw [List.take_length]
          obtain ⟨d, hd'⟩ : ∃ d, depthL l = d := ⟨_, rfl⟩
          rw [hdd, hd']
          rw [hd'] at hdb
          clear hL hB hc0 hc4 hb1 R c4 ih hT hd
          go_wp2
          go_ret
          exact ⟨by show Ending.returned (.int .i64 ((d : Int) + 1)) = .returned (.int .i64 ((depthL l + 1 : Nat) : Int)); rw [hd', Int.natCast_add]; rfl, hB2⟩
end Go.Proofs.YtfmceonbejlhlaaGreatDoor

/-
  cbor's writer: its block, and its small methods.
-/
namespace Go.Proofs.YtfmceonbejlhlaaGreatDoor
open Go.RowKit Go.Proofs.YtfmceonbejlhlaaGreatDoorW.PrintWords Go.Proofs.YtfmceonbejlhlaaGreatDoorW.PrintLast Go.Proofs.YtfmceonbejlhlaaGreatDoorW.PrintMore
set_option linter.unusedVariables false

/-- The writer's block: its bytes' slice, whether it writes open. -/
def Wb (W : World) (p : Nat) (v : Value) (op : Bool) : Prop := W.heap[p]? = some (.cells #[v, .bool op, .int .i64 0, .bool false] 52 (0, 0))
section
variable {W : World} {p : Nat} {v : Value} {op : Bool} (h : Wb W p v op)
include h
theorem Wb.c0 : W.cell? ⟨p, 0, none⟩ = some v := cell_of_row W p 0 _ _ _ h
theorem Wb.c1 : W.cell? ⟨p, 1, none⟩ = some (.bool op) := cell_of_row W p 1 _ _ _ h
theorem Wb.fz (j : Nat) : W.frozen? ⟨p, j, none⟩ = false := frozen_of_row W p j _ _ h
theorem Wb.lt : p < W.heap.size := block_lt_of_cell h.c0
theorem Wb.below {W1 : World} (hb : Below W.heap.size W W1) : Wb W1 p v op := (hb.block p h.lt).trans h
theorem Wb.alloc (o : Obj) : Wb (W.alloc o) p v op := (Below.heap_alloc W o p h.lt).trans h
theorem Wb.set (u : Value) : Wb (W.setCell ⟨p, 0, none⟩ u) p u op := by
  rw [setCell_eq_setRow W p 0 _ _ _ u h]; exact setRow_heap _ _ _ _ _ _ h
theorem Wb.not_row {base e size n : Nat} {u : Value} {xs : List Value} (hte : 52 ≠ e) (hrow : W.ownsRow base e size u n xs) : some p ≠ u.ownBlock := by
  intro hp
  obtain ⟨cells, hc⟩ := own_typed hrow p hp.symm
  rw [show W.heap[p]? = _ from h] at hc
  injection hc with hc
  injection hc with _ hc
  exact hte hc
theorem Wb.kept {W1 : World} {row : Option Nat} (hg : W.grownBy W1 row) (hne : some p ≠ row) : Wb W1 p v op := (hg.block p h.lt hne).trans h
end
/-- The writer has written these bytes. -/
def WrIs (W : World) (base p : Nat) (op : Bool) (xs : List Int) : Prop := ∃ v, Wb W p v op ∧ W.ownsRow base 5 1 v xs.length (xs.map (Value.int .u8)) ∧ base ≤ p
theorem info5 : (Tryz.prog.info? 5).map (fun i => (i.zero, i.size, i.bytes)) = some (some (.int .u8 0), 1, 1) := by kernel_rfl
theorem one_u8 (xs : List Int) : ∀ u ∈ xs.map (Value.int .u8), u.oneCell' = true := by
  intro u hu
  obtain ⟨n, _, rfl⟩ := List.mem_map.1 hu
  rfl
/-- What the writer does to memory: nothing below base, nothing but bytes, its own block and new blocks. -/
def Wrote (base p : Nat) (w w' : World) : Prop := Below base w w' ∧ ∀ (g : Nat) (cs : Array Value) (t : TypeId) (fr : Nat × Nat), w.heap[g]? = some (.cells cs t fr) → t ≠ 5 → g ≠ p → w'.heap[g]? = some (.cells cs t fr)
theorem Wrote.refl (base p : Nat) (w : World) : Wrote base p w w := ⟨Below.refl _ _, fun _ _ _ _ h _ _ => h⟩
theorem Wrote.size {base p : Nat} {w w' : World} (h : Wrote base p w w') : w.heap.size ≤ w'.heap.size := h.1.size
theorem Wrote.trans {base p : Nat} {a b c : World} (h : Wrote base p a b) (k : Wrote base p b c) : Wrote base p a c := ⟨h.1.trans k.1, fun g cs t fr hg ht hp => k.2 g cs t fr (h.2 g cs t fr hg ht hp) ht hp⟩
theorem Wrote.of_below {base p : Nat} {w w' : World} (h : Below w.heap.size w w') (hb : base ≤ w.heap.size) : Wrote base p w w' := ⟨h.mono hb, fun g cs t fr hg _ _ => by
  have hlt : g < w.heap.size := (Array.getElem?_eq_some_iff.1 hg).1
  exact (h.block g hlt).trans hg⟩
theorem Wrote.alloc {base p : Nat} {w w' : World} (h : Wrote base p w w') (hb : base ≤ w'.heap.size) (o : Obj) : Wrote base p w (w'.alloc o) := h.trans (Wrote.of_below ((Below.refl _ _).alloc (Nat.le_refl _) o) hb)
theorem Wrote.drew {base p : Nat} {w w' : World} (h : Wrote base p w w') : Wrote base p w w'.drew := ⟨h.1.drew, h.2⟩
theorem Wrote.cell {base p : Nat} {w w' : World} (h : Wrote base p w w') {g : Nat} {cs : Array Value} {t : TypeId} {fr : Nat × Nat} (hg : w.heap[g]? = some (.cells cs t fr)) (ht : t ≠ 5) (hp : g ≠ p) : w'.heap[g]? = some (.cells cs t fr) := h.2 g cs t fr hg ht hp
/-- Behind an append and the store back into the writer. -/
theorem Wb.appended {W W0 w1 : World} {base p n n' : Nat} {v v' : Value} {op : Bool} {xs ys : List Int} (hv : Wb W0 p v op) (hB0 : Wrote base p W W0) (hrow : W0.ownsRow base 5 1 v n (xs.map (Value.int .u8))) (hb : base ≤ W0.heap.size) (hg : base ≤ p)
    (hown' : w1.ownsRow base 5 1 v' n' ((xs ++ ys).map (Value.int .u8))) (hgrow : W0.grownBy w1 v.ownBlock) :
    Wb w1 p v op ∧ WrIs (w1.setCell ⟨p, 0, none⟩ v') base p op (xs ++ ys) ∧ Wrote base p W (w1.setCell ⟨p, 0, none⟩ v') := by
  have hv1 := hv.kept hgrow (hv.not_row (by decide) hrow)
  have hn' : n' = (xs ++ ys).length := by have := hown'.1; rw [List.length_map] at this; omega
  subst hn'
  refine ⟨hv1, ⟨v', hv1.set v', own_move hown' (fun k hk => Below.heap_setCell _ _ _ k (fun e => hv1.not_row (by decide) hown' (by rw [hk, e]))), hg⟩, ?_⟩
  refine hB0.trans ⟨((Below.refl base W0).grown hgrow hb fun j ej => own_base hrow j ej).setCell (p := ⟨p, 0, none⟩) hg v', fun g cs t fr h ht hp => ?_⟩
  have h1 : w1.heap[g]? = some (.cells cs t fr) := by
    refine (hgrow.block g (Array.getElem?_eq_some_iff.1 h).1 fun e => ?_).trans h
    obtain ⟨cells, hc⟩ := own_typed hrow g e.symm
    rw [h] at hc
    injection hc with hc
    injection hc with _ hc
    exact ht hc
  exact (Below.heap_setCell w1 _ _ g (fun e => hp e)).trans h1
/-- 'append' of bytes that lie in a block to a slice of bytes of the call's own. -/
theorem wpList_append_bytes {ops : Array Oper} {rest : List Oper} {o : Oper} {a : Act} {Q : Exit → Act → World → Prop} {W : World} (hgd : o.guard = none) (s x : Operand)
    (ho : o.op = .call { callee := .builtin .append, args := #[s, x], argTypes := #[26, 26] }) (base : Nat) (v : Value) (n : Nat) (xs ys : List Int) (c : Nat) (hs : a.eval s = v) (q : Nat)
    (hx : a.eval x = .slice (some ⟨q, 0, none⟩) ys.length c) (hcell : ∀ j u, (ys.map (Value.int .u8))[j]? = some u → W.cell? ⟨q, j, none⟩ = some u) (hown : W.ownsRow base 5 1 v n (xs.map (Value.int .u8))) (hlen : n + ys.length ≤ 140737488355328) (hbase : base ≤ W.heap.size)
    (h : ∀ v' n' w', n' = n + ys.length → w'.ownsRow base 5 1 v' n' ((xs ++ ys).map (Value.int .u8)) → W.grownBy w' v.ownBlock → wpList Tryz.prog ops Q rest (a.put o.dst v') w') :
    wpList Tryz.prog ops Q (o :: rest) a W := by
  obtain ⟨i0, hi, hz0, hz1, hz2⟩ := info_parts info5
  refine wpList_append_own _ hgd s x 26 ho base 5 i0 (.int .u8 0) 1 1 Tryz.underlying26 hi hz0 hz1 hz2 rfl (by decide) v n _ hs hown ⟨q, 0, none⟩ ys.length c (ys.map (Value.int .u8)) hx (by simp) ?_ (one_u8 ys) (by unfold maxLen; omega) (by omega) hbase ?_
  · intro j u hj
    have e : (⟨q, 0, none⟩ : Addr).add j = ⟨q, j, none⟩ := by unfold Addr.add; split <;> simp_all
    rw [e]
    exact hcell j u hj
  · intro v' w' hown' hgrow _
    refine h v' _ w' rfl ?_ hgrow
    rw [List.map_append]
    exact hown'
theorem cells_one (W : World) (b : Int) : ∀ (j : Nat) (u : Value), (([b] : List Int).map (Value.int .u8))[j]? = some u → (W.alloc (.cells #[.int .u8 b] 5)).cell? ⟨W.heap.size, j, none⟩ = some u := by
  intro j u hj
  rw [cell_of_row _ _ j _ _ _ (heap_alloc_new W _)]
  simpa using hj
theorem ownsRow_at {W : World} {base n : Nat} {v : Value} {xs : List Value} (h : W.ownsRow base 5 1 v n xs) (hn : 0 < n) : ∃ b cap, v = .slice (some ⟨b, 0, none⟩) n cap := by
  obtain ⟨k, rfl⟩ : ∃ k, n = k + 1 := ⟨n - 1, by omega⟩
  obtain ⟨b, cap, h⟩ := ownsRow_succ h
  exact ⟨b, cap, h⟩
/-- What a method of the writer brings about. -/
def WrPost (base p : Nat) (op : Bool) (xs : List Int) (w : World) (e : Ending) (w' : World) : Prop := e = .returned (.tuple #[]) ∧ WrIs w' base p op xs ∧ Wrote base p w w'

set_option maxHeartbeats 1000000 in
theorem end_any (base p : Nat) (op : Bool) (xs : List Int) (w : World) (h : WrIs w base p op xs) (hb : base ≤ w.heap.size) (hl : xs.length ≤ 140737488355000) :
    Calls Tryz.prog 40 #[.pointer (some ⟨p, 0, none⟩)] w (WrPost base p op (xs ++ if op then [255] else []) w) := by
  obtain ⟨v, hv, hrow, hp⟩ := h
  have hc1 := hv.c1
  have hc0 := hv.c0
  go_enter Tryz.func40, Tryz.ntmps40
  cases op
  · go_wp2
    go_end0
    exact ⟨rfl, ⟨v, hv, hrow, hp⟩, Wrote.refl _ _ _⟩
  · go_wp2_with (at_builtin; (refine wpList_append_bytes rfl (.tmp 11) (.tmp 12) rfl base v _ xs [255] 1 rfl w.heap.size rfl (cells_one w 255) (hrow.alloc _) (show xs.length + 1 ≤ 140737488355328 by omega) (by simp; omega) ?_); intro v' n' w' hn' hown' hgrow; obtain ⟨b1, cap1, rfl⟩ := ownsRow_at hown' (by rw [hn']; simp); have hA := Wb.appended (hv.alloc _) ((Wrote.refl _ _ _).alloc hb _) (hrow.alloc _) (by simp; omega) hp hown' hgrow; have k0 := hA.1.c0; have kf := hA.1.fz 0; clear hn')
    go_end0
    exact ⟨rfl, hA.2.1, hA.2.2⟩
end Go.Proofs.YtfmceonbejlhlaaGreatDoor

/-
  cbor's writer: head.
-/
namespace Go.Proofs.YtfmceonbejlhlaaGreatDoor
open Go.RowKit Go.Proofs.YtfmceonbejlhlaaGreatDoorW.PrintWords Go.Proofs.YtfmceonbejlhlaaGreatDoorW.PrintLast Go.Proofs.YtfmceonbejlhlaaGreatDoorW.PrintMore
set_option linter.unusedVariables false

theorem putF_pos (m n : Int) : 0 < (putF m n).length := by unfold putF; (repeat (split <;> try simp))
theorem putF_len (m n : Int) : (putF m n).length ≤ 9 := by unfold putF; (repeat (split <;> try simp [numBytes]))
/-- A new block whose first cells are these bytes. -/
def FreshB (w w' : World) (b : Nat) (cap : Nat) (xs : List Int) : Prop := ∃ cur : Array Value, w.heap.size ≤ b ∧ w'.heap[b]? = some (.cells cur 5 (0, 0)) ∧ xs.length ≤ cap ∧ (∀ (j : Nat) (u : Value), (xs.map (Value.int .u8))[j]? = some u → cur[j]? = some u)
theorem put_any (m : Nat) (n : Int) (hm : m ≤ 6) (h0 : 0 ≤ n) (h1 : n < 18446744073709551616) (w : World) :
    Calls Tryz.prog 65 #[.int .i64 m, .int .u64 n] w fun e w' => ∃ b cap, e = .returned (.tuple #[.slice (some ⟨b, 0, none⟩) (putF m n).length cap, .int .i64 0]) ∧ FreshB w w' b cap (putF m n) ∧ Below w.heap.size w w' := by
  refine (P.head_Put.calls 20 m n _ _ w (put_f m n hm h0 h1)).mono ?_
  rintro e w' ⟨v, rfl, hR, hb⟩
  have ho := Kd.own_of_R hR
  rcases ho.2 with ⟨_, h⟩ | ⟨g, cap, cur, rfl, hg, hh, hl, _, _, ht⟩
  · exact absurd h (by have := putF_pos m n; omega)
  · refine ⟨g, cap, rfl, ⟨cur, hg, hh, hl, fun j u hj => ?_⟩, hb⟩
    rw [Nat.mul_one] at ht
    have : (List.take (putF m n).length cur.toList)[j]? = some u := by rw [ht]; exact hj
    rw [List.getElem?_take] at this
    split at this
    · rw [← Array.getElem?_toList]; exact this
    · cases this

theorem Wb.other {W : World} {p : Nat} {v : Value} {op : Bool} (h : Wb W p v op) {b : Nat} (hne : p ≠ b) (j : Nat) (u : Value) : Wb (W.setCell ⟨b, j, none⟩ u) p v op :=
  (Below.heap_setCell W _ u p (fun e => hne (by rw [e]))).trans h
theorem putF_or (m : Nat) (n : Int) (hm : m ≤ 6) (h0 : 0 ≤ n) {f : Int} {r : List Int} (hf : putF m n = f :: r) : Go.bits .or .u8 f ((m : Int) * 32) = f := by
  have key : ∀ (m : Fin 7) (x : Fin 32), Go.bits .or .u8 ((m.val : Int) * 32 + x.val) ((m.val : Int) * 32) = (m.val : Int) * 32 + x.val := by decide +kernel
  have : ∃ x : Nat, x < 32 ∧ f = (m : Int) * 32 + x := by
    unfold putF at hf
    repeat' split at hf
    all_goals (injection hf with hf _)
    · exact ⟨n.toNat, by omega, by omega⟩
    · exact ⟨24, by omega, by omega⟩
    · exact ⟨25, by omega, by omega⟩
    · exact ⟨26, by omega, by omega⟩
    · exact ⟨27, by omega, by omega⟩
  obtain ⟨x, hx, rfl⟩ := this
  exact key ⟨m, by omega⟩ ⟨x, hx⟩
/-- A block's cell is stored with what it holds: the cells read the same. -/
theorem FreshB.set {w w' : World} {b cap : Nat} {f : Int} {r : List Int} (h : FreshB w w' b cap (f :: r)) (g : Int) : FreshB w (w'.setCell ⟨b, 0, none⟩ (.int .u8 g)) b cap (g :: r) := by
  obtain ⟨cur, h1, h2, h3, h4⟩ := h
  refine ⟨cur.set! 0 (.int .u8 g), h1, ?_, by simpa using h3, fun j u hj => ?_⟩
  · rw [setCell_eq_setRow _ b 0 _ _ _ _ h2]; exact setRow_heap _ _ _ _ _ _ h2
  · cases j with
    | zero =>
      have h5 := h4 0 _ rfl
      have h6 := (Array.getElem?_eq_some_iff.1 h5).1
      simp only [List.map_cons, List.getElem?_cons_zero, Option.some.injEq] at hj
      subst hj
      simp [h6]
    | succ j =>
      have h5 := h4 (j + 1) u (by simpa using hj)
      simpa using h5
set_option maxHeartbeats 1000000 in
theorem head_any (base p : Nat) (op : Bool) (xs : List Int) (m : Nat) (n : Int) (hm : m ≤ 6) (h0 : 0 ≤ n) (h1 : n < 18446744073709551616) (w : World) (h : WrIs w base p op xs) (hb : base ≤ w.heap.size) (hl : xs.length ≤ 140737488355000) :
    Calls Tryz.prog 35 #[.pointer (some ⟨p, 0, none⟩), .int .i64 m, .int .u64 n] w (WrPost base p op (xs ++ putF m n) w) := by
  obtain ⟨v, hv, hrow, hp⟩ := h
  obtain ⟨f, r, hf⟩ : ∃ f r, putF m n = f :: r := by
    cases hh : putF m n with
    | nil => exact absurd (putF_pos m n) (by rw [hh]; simp)
    | cons f r => exact ⟨f, r, rfl⟩
  have hP := put_any m n hm h0 h1 w
  rw [hf] at hP ⊢
  have hm7 : ((m : Int) == 7) = false := by simp; omega
  have hlen := putF_len m n
  rw [hf] at hlen
  obtain ⟨len, hlen'⟩ : ∃ k, (f :: r).length = k := ⟨_, rfl⟩
  rw [hlen'] at hP hlen
  have hpos : 0 < len := by rw [← hlen']; simp
  go_enter Tryz.func35, Tryz.ntmps35
  have hor := putF_or m n hm h0 hf
  go_wp2_with (first
    | (go_at_call 65; refine hP.mono ?_; rintro e w1 ⟨b, cap, rfl, hF, hbel⟩; have q0 : w1.cell? ⟨b, 0, none⟩ = some (.int .u8 f) := (by obtain ⟨cur, hb1, hc, hcap, hcell⟩ := hF; exact (cell_of_row _ _ 0 _ _ _ hc).trans (hcell 0 _ rfl)); have qf : w1.frozen? ⟨b, 0, none⟩ = false := (by obtain ⟨cur, hb1, hc, hcap, hcell⟩ := hF; exact frozen_of_row _ _ 0 _ _ hc); have hne : p ≠ b := (by have := hF.choose_spec.1; have := hv.lt; omega); have hv1 := (hv.below hbel).other hne 0 (.int .u8 f); have k0 := hv1.c0)
    | (at_builtin; have hF1 := hF.set f; have hbw : w.heap.size ≤ b := hF.choose_spec.1; have hrow1 : (w1.setCell ⟨b, 0, none⟩ (.int .u8 f)).ownsRow base 5 1 v xs.length (xs.map (Value.int .u8)) := own_move hrow (fun k hk => (Below.heap_setCell _ _ _ k (fun e => by have := own_lt hrow k hk; rw [e] at this; exact absurd this (Nat.not_lt.2 hbw))).trans (hbel.block k (own_lt hrow k hk))); have hB1 : Wrote base p w (w1.setCell ⟨b, 0, none⟩ (.int .u8 f)) := Wrote.of_below (hbel.setCell (p := ⟨b, 0, none⟩) hbw _) hb; have hb1 : base ≤ (w1.setCell ⟨b, 0, none⟩ (.int .u8 f)).heap.size := Nat.le_trans hb hB1.size; subst hlen'; (refine wpList_append_bytes rfl (.tmp 30) (.tmp 31) rfl base v _ xs (f :: r) cap rfl b rfl (fun j u hj => by obtain ⟨cur, _, hc, _, hcell⟩ := hF1; exact (cell_of_row _ _ j _ _ _ hc).trans (hcell j u hj)) hrow1 (show xs.length + (f :: r).length ≤ 140737488355328 by omega) hb1 ?_); intro v' n' w' hn' hown' hgrow; obtain ⟨b1, cap1, rfl⟩ := ownsRow_at hown' (by rw [hn']; simp; omega); have hA := Wb.appended hv1 hB1 hrow1 hb1 hp hown' hgrow; have k1 := hA.1.c0; have kf := hA.1.fz 0; clear hn'))
  go_end0
  exact ⟨rfl, hA.2.1, hA.2.2⟩
theorem putF_7 (n : Int) (h0 : 0 ≤ n) {f : Int} {r : List Int} (hf : putF 0 n = f :: r) : putF 7 n = (f + 224) :: r ∧ Go.bits .or .u8 f 224 = f + 224 := by
  have key : ∀ (x : Fin 32), Go.bits .or .u8 (x.val : Int) 224 = (x.val : Int) + 224 := by decide +kernel
  have : putF 7 n = (f + 224) :: r ∧ ∃ x : Nat, x < 32 ∧ f = (x : Int) := by
    unfold putF at hf ⊢
    repeat' split at hf
    all_goals (injection hf with hf hr; subst hr)
    · rw [if_pos (by assumption)]; exact ⟨by rw [← hf]; congr 1; omega, n.toNat, by omega, by omega⟩
    · rw [if_neg (by assumption), if_pos (by assumption)]; exact ⟨by rw [← hf]; congr 1, 24, by omega, by omega⟩
    · rw [if_neg (by assumption), if_neg (by assumption), if_pos (by assumption)]; exact ⟨by rw [← hf]; congr 1, 25, by omega, by omega⟩
    · rw [if_neg (by assumption), if_neg (by assumption), if_neg (by assumption), if_pos (by assumption)]; exact ⟨by rw [← hf]; congr 1, 26, by omega, by omega⟩
    · rw [if_neg (by assumption), if_neg (by assumption), if_neg (by assumption), if_neg (by assumption)]; exact ⟨by rw [← hf]; congr 1, 27, by omega, by omega⟩
  obtain ⟨h, x, hx, rfl⟩ := this
  exact ⟨h, key ⟨x, hx⟩⟩
set_option maxHeartbeats 1000000 in
theorem head7_any (base p : Nat) (op : Bool) (xs : List Int) (n : Int) (h0 : 0 ≤ n) (h1 : n < 18446744073709551616) (w : World) (h : WrIs w base p op xs) (hb : base ≤ w.heap.size) (hl : xs.length ≤ 140737488355000) :
    Calls Tryz.prog 35 #[.pointer (some ⟨p, 0, none⟩), .int .i64 7, .int .u64 n] w (WrPost base p op (xs ++ putF 7 n) w) := by
  obtain ⟨v, hv, hrow, hp⟩ := h
  obtain ⟨f, r, hf⟩ : ∃ f r, putF 0 n = f :: r := by
    cases hh : putF 0 n with
    | nil => exact absurd (putF_pos 0 n) (by rw [hh]; simp)
    | cons f r => exact ⟨f, r, rfl⟩
  have hP := put_any 0 n (by omega) h0 h1 w
  have h7 := putF_7 n h0 hf
  rw [h7.1]
  rw [show ((0 : Nat) : Int) = 0 from rfl, hf] at hP
  have hlen := putF_len 0 n
  rw [hf] at hlen
  obtain ⟨len, hlen'⟩ : ∃ k, (f :: r).length = k := ⟨_, rfl⟩
  rw [hlen'] at hP hlen
  have hpos : 0 < len := by rw [← hlen']; simp
  go_enter Tryz.func35, Tryz.ntmps35
  have hor := h7.2
  obtain ⟨g, hg⟩ : ∃ g, f + 224 = g := ⟨_, rfl⟩
  rw [hg] at hor ⊢
  clear h7 hg
  go_wp2_with (first
    | (go_at_call 65; refine hP.mono ?_; rintro e w1 ⟨b, cap, rfl, hF, hbel⟩; have q0 : w1.cell? ⟨b, 0, none⟩ = some (.int .u8 f) := (by obtain ⟨cur, hb1, hc, hcap, hcell⟩ := hF; exact (cell_of_row _ _ 0 _ _ _ hc).trans (hcell 0 _ rfl)); have qf : w1.frozen? ⟨b, 0, none⟩ = false := (by obtain ⟨cur, hb1, hc, hcap, hcell⟩ := hF; exact frozen_of_row _ _ 0 _ _ hc); have hne : p ≠ b := (by have := hF.choose_spec.1; have := hv.lt; omega); have hv1 := (hv.below hbel).other hne 0 (.int .u8 g); have k0 := hv1.c0)
    | (at_builtin; have hF1 := hF.set g; have hbw : w.heap.size ≤ b := hF.choose_spec.1; have hrow1 : (w1.setCell ⟨b, 0, none⟩ (.int .u8 g)).ownsRow base 5 1 v xs.length (xs.map (Value.int .u8)) := own_move hrow (fun k hk => (Below.heap_setCell _ _ _ k (fun e => by have := own_lt hrow k hk; rw [e] at this; exact absurd this (Nat.not_lt.2 hbw))).trans (hbel.block k (own_lt hrow k hk))); have hB1 : Wrote base p w (w1.setCell ⟨b, 0, none⟩ (.int .u8 g)) := Wrote.of_below (hbel.setCell (p := ⟨b, 0, none⟩) hbw _) hb; have hb1 : base ≤ (w1.setCell ⟨b, 0, none⟩ (.int .u8 g)).heap.size := Nat.le_trans hb hB1.size; have hlen'' : (g :: r).length = len := hlen'; subst hlen''; (refine wpList_append_bytes rfl (.tmp 30) (.tmp 31) rfl base v _ xs (g :: r) cap rfl b rfl (fun j u hj => by obtain ⟨cur, _, hc, _, hcell⟩ := hF1; exact (cell_of_row _ _ j _ _ _ hc).trans (hcell j u hj)) hrow1 (show xs.length + (g :: r).length ≤ 140737488355328 by omega) hb1 ?_); intro v' n' w' hn' hown' hgrow; obtain ⟨b1, cap1, rfl⟩ := ownsRow_at hown' (by rw [hn']; simp; omega); have hA := Wb.appended hv1 hB1 hrow1 hb1 hp hown' hgrow; have k1 := hA.1.c0; have kf := hA.1.fz 0; clear hn'))
  go_end0
  exact ⟨rfl, hA.2.1, hA.2.2⟩
end Go.Proofs.YtfmceonbejlhlaaGreatDoor

/-
  cbor's writer: begin, text.
-/
namespace Go.Proofs.YtfmceonbejlhlaaGreatDoor
open Go.RowKit Go.Proofs.YtfmceonbejlhlaaGreatDoorW.PrintWords Go.Proofs.YtfmceonbejlhlaaGreatDoorW.PrintLast Go.Proofs.YtfmceonbejlhlaaGreatDoorW.PrintMore
set_option linter.unusedVariables false

theorem or_31 (m : Nat) (hm : m ≤ 7) : Go.bits .or .i64 ((m : Int) * 32) 31 = (m : Int) * 32 + 31 := by
  have : ∀ (m : Fin 8), Go.bits .or .i64 ((m.val : Int) * 32) 31 = (m.val : Int) * 32 + 31 := by decide +kernel
  exact this ⟨m, by omega⟩
set_option maxHeartbeats 1000000 in
theorem begin_any (base p : Nat) (op : Bool) (xs : List Int) (m : Nat) (n : Nat) (hm : m ≤ 6) (h1 : n < 9223372036854775807) (w : World) (h : WrIs w base p op xs) (hb : base ≤ w.heap.size) (hl : xs.length ≤ 140737488355000) :
    Calls Tryz.prog 39 #[.pointer (some ⟨p, 0, none⟩), .int .i64 m, .int .i64 n] w (WrPost base p op (xs ++ if op then [(m : Int) * 32 + 31] else putF m n) w) := by
  have hH := head_any base p op xs m n hm (by omega) (by omega) w h hb hl
  obtain ⟨v, hv, hrow, hp⟩ := h
  have hc1 := hv.c1
  have hc0 := hv.c0
  have hor := or_31 m (by omega)
  go_enter Tryz.func39, Tryz.ntmps39
  cases op
  · go_wp2_with (go_at_call 35; refine hH.mono ?_; rintro e w1 ⟨rfl, hw1, hb1⟩)
    go_end0
    exact ⟨rfl, hw1, hb1⟩
  · go_wp2_with (at_builtin; (refine wpList_append_bytes rfl (.tmp 15) (.tmp 20) rfl base v _ xs [(m : Int) * 32 + 31] 1 rfl w.heap.size rfl (cells_one w _) (hrow.alloc _) (show xs.length + 1 ≤ 140737488355328 by omega) (by simp; omega) ?_); intro v' n' w' hn' hown' hgrow; obtain ⟨b1, cap1, rfl⟩ := ownsRow_at hown' (by rw [hn']; simp); have hA := Wb.appended (hv.alloc _) ((Wrote.refl _ _ _).alloc hb _) (hrow.alloc _) (by simp; omega) hp hown' hgrow; have k0 := hA.1.c0; have kf := hA.1.fz 0; clear hn')
    go_end0
    exact ⟨rfl, hA.2.1, hA.2.2⟩
/-- A text's bytes. -/
def strB (s : ByteArray) : List Int := s.data.toList.map fun c => (c.toNat : Int)
theorem strB_len (s : ByteArray) : (strB s).length = s.size := by unfold strB; rw [List.length_map, Array.length_toList]; rfl
theorem strB_cells (s : ByteArray) : (strB s).map (Value.int .u8) = Lib.strCells s := by unfold strB Lib.strCells; rw [List.map_map]; rfl
/-- 'append' of a text's bytes to a slice of bytes of the call's own. -/
theorem wpList_append_text {ops : Array Oper} {rest : List Oper} {o : Oper} {a : Act} {Q : Exit → Act → World → Prop} {W : World} (hgd : o.guard = none) (sl x : Operand)
    (ho : o.op = .call { callee := .builtin .append, args := #[sl, x], argTypes := #[26, 9] }) (base : Nat) (v : Value) (n : Nat) (xs : List Int) (s : ByteArray) (hs : a.eval sl = v) (hx : a.eval x = .string s)
    (hown : W.ownsRow base 5 1 v n (xs.map (Value.int .u8))) (hlen : n + s.size ≤ 140737488355328) (hbase : base ≤ W.heap.size)
    (h : ∀ v' n' w', n' = n + s.size → w'.ownsRow base 5 1 v' n' ((xs ++ strB s).map (Value.int .u8)) → W.grownBy w' v.ownBlock → wpList Tryz.prog ops Q rest (a.put o.dst v') w') :
    wpList Tryz.prog ops Q (o :: rest) a W := by
  obtain ⟨i0, hi, hz0, hz1, hz2⟩ := info_parts info5
  refine Lib.wpList_append_own_string W hgd sl x 26 9 ho base 5 i0 Tryz.underlying26 Tryz.underlying9 hi hz0 hz1 hz2 v n _ hs hown s hx (by unfold maxLen; omega) (by omega) hbase ?_
  intro v' w' h2 h3 _
  refine h v' _ w' rfl ?_ h3
  rw [List.map_append, strB_cells]
  exact h2
def textF (op : Bool) (m : Nat) (s : ByteArray) : List Int :=
  (if op then [(m : Int) * 32 + 31] else putF m s.size) ++ ((if op = true ∧ s ≠ ⟨#[]⟩ then putF m s.size else []) ++ (strB s ++ if op then [255] else []))
end Go.Proofs.YtfmceonbejlhlaaGreatDoor

/-
  cbor's writer: text.
-/
namespace Go.Proofs.YtfmceonbejlhlaaGreatDoor
open Go.RowKit Go.Proofs.YtfmceonbejlhlaaGreatDoorW.PrintWords Go.Proofs.YtfmceonbejlhlaaGreatDoorW.PrintLast Go.Proofs.YtfmceonbejlhlaaGreatDoorW.PrintMore
set_option linter.unusedVariables false
theorem own_slice {W : World} {base e size n : Nat} {v : Value} {xs : List Value} (h : W.ownsRow base e size v n xs) : ∃ a l c, v = .slice a l c := by
  rcases h.2 with ⟨h, _⟩ | ⟨_, _, _, h, _⟩ <;> exact ⟨_, _, _, h⟩
set_option maxRecDepth 100000 in
set_option maxHeartbeats 1000000 in
theorem text_closed (base p : Nat) (xs : List Int) (m : Nat) (s : ByteArray) (hm : m ≤ 6) (w : World) (h : WrIs w base p false xs) (hb : base ≤ w.heap.size) (hl : xs.length + s.size ≤ 140737488350000) :
    Calls Tryz.prog 38 #[.pointer (some ⟨p, 0, none⟩), .int .i64 m, .string s] w (WrPost base p false (xs ++ textF false m s) w) := by
  have hB := begin_any base p false xs m s.size hm (by omega) w h hb (by omega)
  have hpl := putF_len m s.size
  go_enter Tryz.func38, Tryz.ntmps38
  rw [if_neg (by decide)] at hB
  obtain ⟨ys, hys⟩ : ∃ ys, xs ++ putF m s.size = ys := ⟨_, rfl⟩
  have hyl : ys.length ≤ xs.length + 9 := by rw [← hys, List.length_append]; omega
  rw [hys] at hB
  go_wp2_with (first
    | (go_at_call 39; refine hB.mono ?_; rintro e w1 ⟨rfl, ⟨v, hv, hrow, hp⟩, hb1⟩; have hc1 := hv.c1; have hc0 := hv.c0; have hbw := Nat.le_trans hb hb1.size)
    | (at_builtin; (refine wpList_append_text rfl (.tmp 30) (.tmp 31) rfl base v _ ys s rfl rfl hrow (show ys.length + s.size ≤ 140737488355328 by omega) hbw ?_); intro v' n' w' hn' hown' hgrow; have hsl := own_slice hown'; obtain ⟨sa, sn, sc, rfl⟩ := hsl; have hA := Wb.appended hv hb1 hrow hbw hp hown' hgrow; have k0 := hA.1.c0; have kf := hA.1.fz 0; clear hn')
    | (go_at_call 40; refine (end_any base p false _ _ hA.2.1 (Nat.le_trans hb hA.2.2.size) (by rw [List.length_append, strB_len]; omega)).mono ?_; rintro e w3 ⟨rfl, hw3, hb3⟩))
  go_end0
  refine ⟨rfl, ?_, hA.2.2.trans hb3⟩
  have e : xs ++ textF false m s = ys ++ strB s ++ (if false = true then [255] else []) := by rw [← hys]; simp [textF]
  rw [e]; exact hw3
set_option maxRecDepth 100000 in
set_option maxHeartbeats 1000000 in
theorem text_open (base p : Nat) (xs : List Int) (m : Nat) (s : ByteArray) (hm : m ≤ 6) (w : World) (h : WrIs w base p true xs) (hb : base ≤ w.heap.size) (hl : xs.length + s.size ≤ 140737488350000) :
    Calls Tryz.prog 38 #[.pointer (some ⟨p, 0, none⟩), .int .i64 m, .string s] w (WrPost base p true (xs ++ textF true m s) w) := by
  have hB := begin_any base p true xs m s.size hm (by omega) w h hb (by omega)
  have hpl := putF_len m s.size
  go_enter Tryz.func38, Tryz.ntmps38
  rw [if_pos rfl] at hB
  obtain ⟨ys, hys⟩ : ∃ ys, xs ++ [(m : Int) * 32 + 31] = ys := ⟨_, rfl⟩
  have hyl : ys.length ≤ xs.length + 9 := by rw [← hys, List.length_append]; simp
  rw [hys] at hB
  by_cases hs0 : s = ⟨#[]⟩
  · subst hs0
    have z0 : (⟨#[]⟩ : ByteArray).size = 0 := rfl
    rw [z0] at hB
    clear z0
    go_wp2_with (first
    | (go_at_call 39; refine hB.mono ?_; rintro e w1 ⟨rfl, ⟨v, hv, hrow, hp⟩, hb1⟩; have hc1 := hv.c1; have hc0 := hv.c0; have hbw := Nat.le_trans hb hb1.size)
    | (at_builtin; (refine wpList_append_text rfl (.tmp 30) (.tmp 31) rfl base v _ ys ⟨#[]⟩ rfl rfl hrow (show ys.length + 0 ≤ 140737488355328 by omega) hbw ?_); intro v' n' w' hn' hown' hgrow; have hsl := own_slice hown'; obtain ⟨sa, sn, sc, rfl⟩ := hsl; have hA := Wb.appended hv hb1 hrow hbw hp hown' hgrow; have k0 := hA.1.c0; have kf := hA.1.fz 0; clear hn')
    | (go_at_call 40; refine (end_any base p true _ _ hA.2.1 (Nat.le_trans hb hA.2.2.size) (by rw [List.length_append, strB_len]; omega)).mono ?_; rintro e w3 ⟨rfl, hw3, hb3⟩))
    go_end0
    refine ⟨rfl, ?_, hA.2.2.trans hb3⟩
    have e : xs ++ textF true m ⟨#[]⟩ = ys ++ strB ⟨#[]⟩ ++ (if true = true then [255] else []) := by rw [← hys]; simp [textF]
    rw [e]; exact hw3
  · have hs1 : (!s.toList.isEmpty) = true := by
      rw [Bool.not_eq_true', List.isEmpty_eq_false_iff, ByteArray.toList_eq]
      intro h
      exact hs0 (by cases s with | mk a => cases a with | mk l => cases h; rfl)
    go_wp2_with (first
    | (go_at_call 39; refine hB.mono ?_; rintro e w1 ⟨rfl, hw1, hb1⟩; have hb2 := Nat.le_trans hb hb1.size; have hH := head_any base p true ys m s.size hm (by omega) (by omega) w1 hw1 hb2 (by omega); (obtain ⟨v1, hv1, hrow1, hp1⟩ := hw1); have hc1 := hv1.c1)
    | (go_at_call 35; refine hH.mono ?_; rintro e w2 ⟨rfl, ⟨v, hv, hrow, hp⟩, hb3⟩; have hc1 := hv.c1; have hc0 := hv.c0; have hbw := Nat.le_trans hb2 hb3.size; have hb13 := hb1.trans hb3; have hyl2 : (ys ++ putF m s.size).length ≤ ys.length + 9 := (by rw [List.length_append]; omega))
    | (at_builtin; (refine wpList_append_text rfl (.tmp 30) (.tmp 31) rfl base v _ (ys ++ putF m s.size) s rfl rfl hrow (show (ys ++ putF m s.size).length + s.size ≤ 140737488355328 by omega) hbw ?_); intro v' n' w' hn' hown' hgrow; have hsl := own_slice hown'; obtain ⟨sa, sn, sc, rfl⟩ := hsl; have hA := Wb.appended hv hb13 hrow hbw hp hown' hgrow; have k0 := hA.1.c0; have kf := hA.1.fz 0; clear hn')
    | (go_at_call 40; refine (end_any base p true _ _ hA.2.1 (Nat.le_trans hb hA.2.2.size) (by rw [List.length_append, strB_len]; omega)).mono ?_; rintro e w3 ⟨rfl, hw3, hb3⟩))
    go_end0
    refine ⟨rfl, ?_, hA.2.2.trans hb3⟩
    have e : xs ++ textF true m s = ys ++ putF m s.size ++ strB s ++ (if true = true then [255] else []) := by rw [← hys]; simp [textF, hs0]
    rw [e]; exact hw3
theorem text_any (base p : Nat) (op : Bool) (xs : List Int) (m : Nat) (s : ByteArray) (hm : m ≤ 6) (w : World) (h : WrIs w base p op xs) (hb : base ≤ w.heap.size) (hl : xs.length + s.size ≤ 140737488350000) :
    Calls Tryz.prog 38 #[.pointer (some ⟨p, 0, none⟩), .int .i64 m, .string s] w (WrPost base p op (xs ++ textF op m s) w) := by
  cases op
  · exact text_closed base p xs m s hm w h hb hl
  · exact text_open base p xs m s hm w h hb hl
end Go.Proofs.YtfmceonbejlhlaaGreatDoor

/-
  cbor's writer: the bits of a float.
-/
namespace Go.Proofs.YtfmceonbejlhlaaGreatDoor
open Go.RowKit Go.Proofs.YtfmceonbejlhlaaGreatDoorW.PrintWords Go.Proofs.YtfmceonbejlhlaaGreatDoorW.PrintLast Go.Proofs.YtfmceonbejlhlaaGreatDoorW.PrintMore
set_option linter.unusedVariables false

theorem u8_wrap (x : Int) : IntKind.u8.wrap x = x % 256 := by
  unfold IntKind.wrap; simp [IntKind.bits, IntKind.signed]
theorem Wb.drew' {W : World} {p : Nat} {v : Value} {op : Bool} (h : Wb W p v op) : Wb W.drew p v op := h
set_option maxRecDepth 100000 in
set_option maxHeartbeats 4000000 in
theorem bits25 (base p : Nat) (op : Bool) (xs : List Int) (n : Int) (h0 : 0 ≤ n) (h1 : n < 18446744073709551616) (w : World) (h : WrIs w base p op xs) (hb : base ≤ w.heap.size) (hl : xs.length ≤ 140737488350000) :
    Calls Tryz.prog 37 #[.pointer (some ⟨p, 0, none⟩), .int .u8 25, .int .u64 n] w (WrPost base p op (xs ++ 249 :: numBytes 2 n) w) := by
  obtain ⟨v, hv, hrow, hp⟩ := h
  have hc0 := hv.c0
  have o1 : Go.bits .or .u8 224 25 = 249 := by decide +kernel
  obtain ⟨zs, hzs⟩ : ∃ zs, xs ++ 249 :: numBytes 2 n = zs := ⟨_, rfl⟩
  rw [hzs]
  have HZ := Lib.hid hzs
  clear hzs
  go_enter Tryz.func37, Tryz.ntmps37
  go_wp2_with (at_builtin; (refine wpList_append_bytes rfl (.tmp 11) (.tmp 14) rfl base v _ xs [249] 1 rfl w.heap.size rfl (cells_one w _) (hrow.alloc _) (show xs.length + 1 ≤ 140737488355328 by omega) (by simp; omega) ?_); intro v' n' w' hn' hown' hgrow; obtain ⟨b1, cap1, rfl⟩ := ownsRow_at hown' (by rw [hn']; simp); have hA := Wb.appended (hv.alloc _) ((Wrote.refl _ _ _).alloc hb _) (hrow.alloc _) (by simp; omega) hp hown' hgrow; have k0 := hA.1.c0; have kf := hA.1.fz 0; subst hn')
  obtain ⟨W1, hW1⟩ : ∃ W1, w'.setCell ⟨p, 0, none⟩ (.slice (some ⟨b1, 0, none⟩) (xs.length + 1) cap1) = W1 := ⟨_, rfl⟩
  simp only [List.length_cons, List.length_nil, Nat.zero_add] at hA
  rw [hW1] at hA ⊢
  clear hW1 k0 kf hown' hgrow hc0 hv hrow o1
  obtain ⟨_, hA1, hA2⟩ := hA
  go_loopw [6] (fun i wr => ∃ (k : Nat) (ys : List Int), i = .int .i64 (8 * (k : Int) - 8) ∧ k ≤ 2 ∧ Hid (ys ++ numBytes k n = zs) ∧ 0 < ys.length ∧ ys.length + k ≤ xs.length + 9 ∧ WrIs wr base p op ys ∧ Wrote base p w wr) (fun i _ => (intOf i + 8).toNat)
  case atStart => exact ⟨2, xs ++ [249], rfl, by omega, Lib.hid (by rw [List.append_assoc]; exact HZ.out), by simp, by simp, hA1, hA2⟩
  case round =>
    obtain ⟨k, ys, rfl, hk, hys, hpos, hyl, hW, hB⟩ := hrel
    by_cases hk0 : k = 0
    · subst hk0
      go_wp2
      go_end0
      refine ⟨rfl, ?_, hB⟩
      have := hys.out
      rw [show numBytes 0 n = [] from rfl, List.append_nil] at this
      rw [← this]; exact hW
    · obtain ⟨k, rfl⟩ : ∃ j, k = j + 1 := ⟨k - 1, by omega⟩
      rw [show (8 * ((k + 1 : Nat) : Int) - 8) = 8 * (k : Int) by omega]
      obtain ⟨v, hv, hrow, hp⟩ := hW
      obtain ⟨b, cap, rfl⟩ := ownsRow_at hrow hpos
      have hc0 := hv.c0
      have hk8 : (k : Int) ≤ 7 := by omega
      obtain ⟨bv, hbv⟩ : ∃ bv, n / 256 ^ k % 256 = bv := ⟨_, rfl⟩
      have hwr : IntKind.u8.wrap (n / 2 ^ (8 * (k : Int)).toNat) = bv := by
        rw [← hbv, show (8 * (k : Int)).toNat = 8 * k by omega, Int.pow_mul]
        exact u8_wrap _
      have hys2 : ys ++ [bv] ++ numBytes k n = ys ++ numBytes (k + 1) n := by
        rw [List.append_assoc, ← hbv]; rfl
      have HX := Lib.hid (hys2.trans hys.out)
      have HR := Lib.hid (hrow.alloc (.cells #[.int .u8 bv] 5)).drew
      have HN := Lib.hid (fun j u hj => (cells_one wr bv j u hj))
      have HB := Lib.hid (Nat.le_trans hb hB.size)
      clear hys hys2 hbv hrow
      have hcF : ∀ ob, (wr.alloc ob).cell? ⟨p, 0, none⟩ = some (.slice (some ⟨b, 0, none⟩) ys.length cap) := fun ob => (hv.alloc ob).c0
      obtain ⟨i0, hi, hz0, hz1, hz2⟩ := info_parts info5
      go_wp2_with fail
      go_region_law (refine step_append_lies _ rfl (.tmp 30) (.tmp 35) 26 rfl base 5 i0 (.int .u8 0) 1 1 Tryz.underlying26 hi hz0 hz1 hz2 rfl (by decide) (.slice (some ⟨b, 0, none⟩) ys.length cap) ys.length (ys.map (Value.int .u8)) (by simp [Act.eval]) HR.out ⟨wr.heap.size, 0, none⟩ 1 1 (List.map (Value.int .u8) [bv]) (by simp [Act.eval]) rfl (by intro j u hj; have e : (⟨wr.heap.size, 0, none⟩ : Addr).add j = ⟨wr.heap.size, j, none⟩ := (by unfold Addr.add; split <;> simp_all); rw [e]; exact HN.out j u hj) (one_u8 _) (by decide) (by unfold maxLen; omega) (by omega) (by have := HB.out; simp; omega) _ rfl ?_; intro g2 cap2 w2 hown2 hgrow2 _ _; have hA := Wb.appended (ys := [bv]) (hv.alloc _).drew' (((Wrote.refl base p wr).alloc HB.out _).drew) HR.out (by have := HB.out; simp; omega) hp (by rw [List.map_append]; exact hown2) hgrow2; have hca := hA.1.c0; have hfa := hA.1.fz 0)
      all_goals
        go_wp2
        go_roundw
        case rel => exact ⟨k, ys ++ [bv], rfl, by omega, HX, by simp, by rw [List.length_append]; simp; omega, hA.2.1, hB.trans hA.2.2⟩
        case measure => simp [intOf]; omega
set_option maxRecDepth 100000 in
set_option maxHeartbeats 4000000 in
theorem bits26 (base p : Nat) (op : Bool) (xs : List Int) (n : Int) (h0 : 0 ≤ n) (h1 : n < 18446744073709551616) (w : World) (h : WrIs w base p op xs) (hb : base ≤ w.heap.size) (hl : xs.length ≤ 140737488350000) :
    Calls Tryz.prog 37 #[.pointer (some ⟨p, 0, none⟩), .int .u8 26, .int .u64 n] w (WrPost base p op (xs ++ 250 :: numBytes 4 n) w) := by
  obtain ⟨v, hv, hrow, hp⟩ := h
  have hc0 := hv.c0
  have o1 : Go.bits .or .u8 224 26 = 250 := by decide +kernel
  obtain ⟨zs, hzs⟩ : ∃ zs, xs ++ 250 :: numBytes 4 n = zs := ⟨_, rfl⟩
  rw [hzs]
  have HZ := Lib.hid hzs
  clear hzs
  go_enter Tryz.func37, Tryz.ntmps37
  go_wp2_with (at_builtin; (refine wpList_append_bytes rfl (.tmp 11) (.tmp 14) rfl base v _ xs [250] 1 rfl w.heap.size rfl (cells_one w _) (hrow.alloc _) (show xs.length + 1 ≤ 140737488355328 by omega) (by simp; omega) ?_); intro v' n' w' hn' hown' hgrow; obtain ⟨b1, cap1, rfl⟩ := ownsRow_at hown' (by rw [hn']; simp); have hA := Wb.appended (hv.alloc _) ((Wrote.refl _ _ _).alloc hb _) (hrow.alloc _) (by simp; omega) hp hown' hgrow; have k0 := hA.1.c0; have kf := hA.1.fz 0; subst hn')
  obtain ⟨W1, hW1⟩ : ∃ W1, w'.setCell ⟨p, 0, none⟩ (.slice (some ⟨b1, 0, none⟩) (xs.length + 1) cap1) = W1 := ⟨_, rfl⟩
  simp only [List.length_cons, List.length_nil, Nat.zero_add] at hA
  rw [hW1] at hA ⊢
  clear hW1 k0 kf hown' hgrow hc0 hv hrow o1
  obtain ⟨_, hA1, hA2⟩ := hA
  go_loopw [6] (fun i wr => ∃ (k : Nat) (ys : List Int), i = .int .i64 (8 * (k : Int) - 8) ∧ k ≤ 4 ∧ Hid (ys ++ numBytes k n = zs) ∧ 0 < ys.length ∧ ys.length + k ≤ xs.length + 9 ∧ WrIs wr base p op ys ∧ Wrote base p w wr) (fun i _ => (intOf i + 8).toNat)
  case atStart => exact ⟨4, xs ++ [250], rfl, by omega, Lib.hid (by rw [List.append_assoc]; exact HZ.out), by simp, by simp, hA1, hA2⟩
  case round =>
    obtain ⟨k, ys, rfl, hk, hys, hpos, hyl, hW, hB⟩ := hrel
    by_cases hk0 : k = 0
    · subst hk0
      go_wp2
      go_end0
      refine ⟨rfl, ?_, hB⟩
      have := hys.out
      rw [show numBytes 0 n = [] from rfl, List.append_nil] at this
      rw [← this]; exact hW
    · obtain ⟨k, rfl⟩ : ∃ j, k = j + 1 := ⟨k - 1, by omega⟩
      rw [show (8 * ((k + 1 : Nat) : Int) - 8) = 8 * (k : Int) by omega]
      obtain ⟨v, hv, hrow, hp⟩ := hW
      obtain ⟨b, cap, rfl⟩ := ownsRow_at hrow hpos
      have hc0 := hv.c0
      have hk8 : (k : Int) ≤ 7 := by omega
      obtain ⟨bv, hbv⟩ : ∃ bv, n / 256 ^ k % 256 = bv := ⟨_, rfl⟩
      have hwr : IntKind.u8.wrap (n / 2 ^ (8 * (k : Int)).toNat) = bv := by
        rw [← hbv, show (8 * (k : Int)).toNat = 8 * k by omega, Int.pow_mul]
        exact u8_wrap _
      have hys2 : ys ++ [bv] ++ numBytes k n = ys ++ numBytes (k + 1) n := by
        rw [List.append_assoc, ← hbv]; rfl
      have HX := Lib.hid (hys2.trans hys.out)
      have HR := Lib.hid (hrow.alloc (.cells #[.int .u8 bv] 5)).drew
      have HN := Lib.hid (fun j u hj => (cells_one wr bv j u hj))
      have HB := Lib.hid (Nat.le_trans hb hB.size)
      clear hys hys2 hbv hrow
      have hcF : ∀ ob, (wr.alloc ob).cell? ⟨p, 0, none⟩ = some (.slice (some ⟨b, 0, none⟩) ys.length cap) := fun ob => (hv.alloc ob).c0
      obtain ⟨i0, hi, hz0, hz1, hz2⟩ := info_parts info5
      go_wp2_with fail
      go_region_law (refine step_append_lies _ rfl (.tmp 30) (.tmp 35) 26 rfl base 5 i0 (.int .u8 0) 1 1 Tryz.underlying26 hi hz0 hz1 hz2 rfl (by decide) (.slice (some ⟨b, 0, none⟩) ys.length cap) ys.length (ys.map (Value.int .u8)) (by simp [Act.eval]) HR.out ⟨wr.heap.size, 0, none⟩ 1 1 (List.map (Value.int .u8) [bv]) (by simp [Act.eval]) rfl (by intro j u hj; have e : (⟨wr.heap.size, 0, none⟩ : Addr).add j = ⟨wr.heap.size, j, none⟩ := (by unfold Addr.add; split <;> simp_all); rw [e]; exact HN.out j u hj) (one_u8 _) (by decide) (by unfold maxLen; omega) (by omega) (by have := HB.out; simp; omega) _ rfl ?_; intro g2 cap2 w2 hown2 hgrow2 _ _; have hA := Wb.appended (ys := [bv]) (hv.alloc _).drew' (((Wrote.refl base p wr).alloc HB.out _).drew) HR.out (by have := HB.out; simp; omega) hp (by rw [List.map_append]; exact hown2) hgrow2; have hca := hA.1.c0; have hfa := hA.1.fz 0)
      all_goals
        go_wp2
        go_roundw
        case rel => exact ⟨k, ys ++ [bv], rfl, by omega, HX, by simp, by rw [List.length_append]; simp; omega, hA.2.1, hB.trans hA.2.2⟩
        case measure => simp [intOf]; omega
set_option maxRecDepth 100000 in
set_option maxHeartbeats 4000000 in
theorem bits27 (base p : Nat) (op : Bool) (xs : List Int) (n : Int) (h0 : 0 ≤ n) (h1 : n < 18446744073709551616) (w : World) (h : WrIs w base p op xs) (hb : base ≤ w.heap.size) (hl : xs.length ≤ 140737488350000) :
    Calls Tryz.prog 37 #[.pointer (some ⟨p, 0, none⟩), .int .u8 27, .int .u64 n] w (WrPost base p op (xs ++ 251 :: numBytes 8 n) w) := by
  obtain ⟨v, hv, hrow, hp⟩ := h
  have hc0 := hv.c0
  have o1 : Go.bits .or .u8 224 27 = 251 := by decide +kernel
  obtain ⟨zs, hzs⟩ : ∃ zs, xs ++ 251 :: numBytes 8 n = zs := ⟨_, rfl⟩
  rw [hzs]
  have HZ := Lib.hid hzs
  clear hzs
  go_enter Tryz.func37, Tryz.ntmps37
  go_wp2_with (at_builtin; (refine wpList_append_bytes rfl (.tmp 11) (.tmp 14) rfl base v _ xs [251] 1 rfl w.heap.size rfl (cells_one w _) (hrow.alloc _) (show xs.length + 1 ≤ 140737488355328 by omega) (by simp; omega) ?_); intro v' n' w' hn' hown' hgrow; obtain ⟨b1, cap1, rfl⟩ := ownsRow_at hown' (by rw [hn']; simp); have hA := Wb.appended (hv.alloc _) ((Wrote.refl _ _ _).alloc hb _) (hrow.alloc _) (by simp; omega) hp hown' hgrow; have k0 := hA.1.c0; have kf := hA.1.fz 0; subst hn')
  obtain ⟨W1, hW1⟩ : ∃ W1, w'.setCell ⟨p, 0, none⟩ (.slice (some ⟨b1, 0, none⟩) (xs.length + 1) cap1) = W1 := ⟨_, rfl⟩
  simp only [List.length_cons, List.length_nil, Nat.zero_add] at hA
  rw [hW1] at hA ⊢
  clear hW1 k0 kf hown' hgrow hc0 hv hrow o1
  obtain ⟨_, hA1, hA2⟩ := hA
  go_loopw [6] (fun i wr => ∃ (k : Nat) (ys : List Int), i = .int .i64 (8 * (k : Int) - 8) ∧ k ≤ 8 ∧ Hid (ys ++ numBytes k n = zs) ∧ 0 < ys.length ∧ ys.length + k ≤ xs.length + 9 ∧ WrIs wr base p op ys ∧ Wrote base p w wr) (fun i _ => (intOf i + 8).toNat)
  case atStart => exact ⟨8, xs ++ [251], rfl, by omega, Lib.hid (by rw [List.append_assoc]; exact HZ.out), by simp, by simp, hA1, hA2⟩
  case round =>
    obtain ⟨k, ys, rfl, hk, hys, hpos, hyl, hW, hB⟩ := hrel
    by_cases hk0 : k = 0
    · subst hk0
      go_wp2
      go_end0
      refine ⟨rfl, ?_, hB⟩
      have := hys.out
      rw [show numBytes 0 n = [] from rfl, List.append_nil] at this
      rw [← this]; exact hW
    · obtain ⟨k, rfl⟩ : ∃ j, k = j + 1 := ⟨k - 1, by omega⟩
      rw [show (8 * ((k + 1 : Nat) : Int) - 8) = 8 * (k : Int) by omega]
      obtain ⟨v, hv, hrow, hp⟩ := hW
      obtain ⟨b, cap, rfl⟩ := ownsRow_at hrow hpos
      have hc0 := hv.c0
      have hk8 : (k : Int) ≤ 7 := by omega
      obtain ⟨bv, hbv⟩ : ∃ bv, n / 256 ^ k % 256 = bv := ⟨_, rfl⟩
      have hwr : IntKind.u8.wrap (n / 2 ^ (8 * (k : Int)).toNat) = bv := by
        rw [← hbv, show (8 * (k : Int)).toNat = 8 * k by omega, Int.pow_mul]
        exact u8_wrap _
      have hys2 : ys ++ [bv] ++ numBytes k n = ys ++ numBytes (k + 1) n := by
        rw [List.append_assoc, ← hbv]; rfl
      have HX := Lib.hid (hys2.trans hys.out)
      have HR := Lib.hid (hrow.alloc (.cells #[.int .u8 bv] 5)).drew
      have HN := Lib.hid (fun j u hj => (cells_one wr bv j u hj))
      have HB := Lib.hid (Nat.le_trans hb hB.size)
      clear hys hys2 hbv hrow
      have hcF : ∀ ob, (wr.alloc ob).cell? ⟨p, 0, none⟩ = some (.slice (some ⟨b, 0, none⟩) ys.length cap) := fun ob => (hv.alloc ob).c0
      obtain ⟨i0, hi, hz0, hz1, hz2⟩ := info_parts info5
      go_wp2_with fail
      go_region_law (refine step_append_lies _ rfl (.tmp 30) (.tmp 35) 26 rfl base 5 i0 (.int .u8 0) 1 1 Tryz.underlying26 hi hz0 hz1 hz2 rfl (by decide) (.slice (some ⟨b, 0, none⟩) ys.length cap) ys.length (ys.map (Value.int .u8)) (by simp [Act.eval]) HR.out ⟨wr.heap.size, 0, none⟩ 1 1 (List.map (Value.int .u8) [bv]) (by simp [Act.eval]) rfl (by intro j u hj; have e : (⟨wr.heap.size, 0, none⟩ : Addr).add j = ⟨wr.heap.size, j, none⟩ := (by unfold Addr.add; split <;> simp_all); rw [e]; exact HN.out j u hj) (one_u8 _) (by decide) (by unfold maxLen; omega) (by omega) (by have := HB.out; simp; omega) _ rfl ?_; intro g2 cap2 w2 hown2 hgrow2 _ _; have hA := Wb.appended (ys := [bv]) (hv.alloc _).drew' (((Wrote.refl base p wr).alloc HB.out _).drew) HR.out (by have := HB.out; simp; omega) hp (by rw [List.map_append]; exact hown2) hgrow2; have hca := hA.1.c0; have hfa := hA.1.fz 0)
      all_goals
        go_wp2
        go_roundw
        case rel => exact ⟨k, ys ++ [bv], rfl, by omega, HX, by simp, by rw [List.length_append]; simp; omega, hA.2.1, hB.trans hA.2.2⟩
        case measure => simp [intOf]; omega
end Go.Proofs.YtfmceonbejlhlaaGreatDoor

/-
  cbor's says: what it computes of a tree.
-/
namespace Go.Proofs.YtfmceonbejlhlaaGreatDoor
open Go.RowKit Go.Proofs.YtfmceonbejlhlaaGreatDoorW.PrintWords Go.Proofs.YtfmceonbejlhlaaGreatDoorW.PrintLast Go.Proofs.YtfmceonbejlhlaaGreatDoorW.PrintMore
set_option linter.unusedVariables false

mutual
/-- No extension within. -/
def saysF : T → Bool | ⟨k, _, _, _, l⟩ => saysL l && (k != 14)
def saysL : List T → Bool | [] => true | t :: r => saysF t && saysL r
end
theorem saysL_get : ∀ {l : List T} {i : Nat} {t : T}, l[i]? = some t → saysF t = false → saysL l = false
  | x :: r, 0, t, e, h => by
    simp only [List.getElem?_cons_zero, Option.some.injEq] at e
    subst e
    simp [saysL, h]
  | x :: r, i + 1, t, e, h => by
    simp only [List.getElem?_cons_succ] at e
    simp [saysL, saysL_get e h]
theorem saysL_all : ∀ {l : List T}, (∀ (i : Nat) (t : T), l[i]? = some t → saysF t = true) → saysL l = true
  | [], _ => rfl
  | x :: r, h => by
    have h1 := h 0 x rfl
    have h2 := saysL_all (l := r) fun i t e => h (i + 1) t (by simpa using e)
    simp [saysL, h1, h2]

set_option maxHeartbeats 4000000 in
set_option maxRecDepth 100000 in
theorem says_any : ∀ (t : T) (a : Option Addr) (c : Nat) (W : World) (P : Nat → Prop), (∀ g, P g → g < W.heap.size) → Tree W P t a → bulk t ≤ 4294967296 →
    Calls Tryz.prog 17 #[.agg (five t a c)] W (Ret (.bool (saysF t)) W) := by
  intro t
  induction t using T.ind with
  | h k neg n s l ih =>
    intro a c w P hP hT hb
    have hlb := bulkL_len l
    simp only [bulk] at hb
    obtain ⟨h0, hT⟩ := tree_list hT
    dsimp only at hT h0
    unfold five
    dsimp only
    go_enter Tryz.func17, Tryz.ntmps17
    have R := Row5.new w (.int .i64 k) (.bool neg) (.int .u64 n) (.string s) (.slice a l.length c)
    have hB : Below w.heap.size w (w.alloc (.cells #[.int .i64 k, .bool neg, .int .u64 n, .string s, .slice a l.length c] 25)) := (Below.refl _ w).alloc (Nat.le_refl _) _
    have hc0 := R.c0
    have hc4 := R.c4
    go_wp2
    obtain ⟨w1, hw1⟩ : ∃ w1, w.alloc (.cells #[.int .i64 k, .bool neg, .int .u64 n, .string s, .slice a l.length c] 25) = w1 := ⟨_, rfl⟩
    rw [hw1] at R hB hc0 hc4 ⊢
    clear hw1
    go_loopw [8] (fun i wr => ∃ k' : Nat, k' ≤ l.length ∧ i = .int .i64 k' ∧ Hid (∀ (i : Nat) (t : T), i < k' → l[i]? = some t → saysF t = true) ∧ Below w1.heap.size w1 wr) (fun i _ => l.length - (intOf i).toNat)
    case atStart => exact ⟨0, by omega, rfl, (fun i t h => absurd h (Nat.not_lt_zero i)), Below.refl _ _⟩
    case round =>
      obtain ⟨j, hj, rfl, hA, hb2⟩ := hrel
      have hB2 : Below w.heap.size w wr := hB.trans (hb2.mono hB.size)
      by_cases hlt : j < l.length
      · rcases hT with rfl | ⟨g, off, rfl, hg, hTL⟩
        · simp at hlt
        obtain ⟨x, xa, xc, hx, e0, e1, e2, e3, e4, hxc, hxT⟩ := treeL_cells hTL hlt
        have hgw := hP g hg
        have K0 := (hB2.cell (p := ⟨g, off + j * 5, none⟩) hgw).trans e0
        have K1 := (hB2.cell (p := ⟨g, off + j * 5 + 1, none⟩) hgw).trans e1
        have K2 := (hB2.cell (p := ⟨g, off + j * 5 + 2, none⟩) hgw).trans e2
        have K3 := (hB2.cell (p := ⟨g, off + j * 5 + 3, none⟩) hgw).trans e3
        have K4 := (hB2.cell (p := ⟨g, off + j * 5 + 4, none⟩) hgw).trans e4
        have hxb := bulkL_mem (List.mem_of_getElem? hx)
        have hC : ∀ o, Calls Tryz.prog 17 #[.agg #[.int .i64 x.f0, .bool x.f1, .int .u64 x.f2, .string x.f3, .slice xa x.f4.length xc]] (wr.alloc o) (Ret (.bool (saysF x)) (wr.alloc o)) := fun o => by
          have hb' : Below w.heap.size w (wr.alloc o) := hB2.alloc hB2.size o
          exact ih x (List.mem_of_getElem? hx) xa xc _ P (fun g hg => Nat.lt_of_lt_of_le (hP g hg) hb'.size) (tree_keep (fun _ h => h) (fun g hg => hb'.block g (hP g hg)) hxT) (by omega)
        have hX := Lib.hid hx
        have hT := Lib.hid hTL
        clear hB hc0 hc4 R e0 e1 e2 e3 e4 hTL hxT ih hx
        cases hs : saysF x
        · rw [hs] at hC
          have hf : saysF ⟨k, neg, n, s, l⟩ = false := by simp [saysF, saysL_get hX.out hs]
          go_wp2_with (go_at_call 17; refine (hC _).mono ?_; rintro e w2 ⟨rfl, hb3⟩)
          go_ret
          exact ⟨by rw [hf]; rfl, (hB2.alloc hB2.size _).trans (hb3.mono (by have := hB2.size; simp; omega))⟩
        · rw [hs] at hC
          have HS := Lib.hid hs
          clear hs
          go_wp2_with (go_at_call 17; refine (hC _).mono ?_; rintro e w2 ⟨rfl, hb3⟩)
          go_roundw
          case rel =>
            refine ⟨j + 1, by omega, by go_num, ?_, (hb2.alloc hb2.size _).trans (hb3.mono (by have := hb2.size; simp; omega))⟩
            intro i t hi e
            rcases Nat.lt_succ_iff_lt_or_eq.1 hi with h | rfl
            · exact hA i t h e
            · rw [hX.out] at e; cases e; exact HS.out
          case measure => simp [intOf]; omega
      · obtain rfl : j = l.length := by omega
        have c0 := (R.below hb2).c0
        have hS : saysL l = true := saysL_all fun i t e => hA i t (List.getElem?_eq_some_iff.1 e).1 e
        clear hB hc0 hc4 ih hT hA
        go_wp2
        go_ret
        exact ⟨by rw [show saysF ⟨k, neg, n, s, l⟩ = (k != 14) from by simp [saysF, hS]]; rfl, hB2⟩
end Go.Proofs.YtfmceonbejlhlaaGreatDoor

-- Written by a program of this session (joint.sh) out of the translation. Not trusted: Lean checks it.
namespace Go.Proofs.YtfmceonbejlhlaaGreatDoor.P
open Go.RowKit Go.Proofs.YtfmceonbejlhlaaGreatDoorW.PrintWords Go.Proofs.YtfmceonbejlhlaaGreatDoorW.PrintLast Go.Proofs.YtfmceonbejlhlaaGreatDoorW.PrintMore
attribute [local go_sem] max2_int min2_int max_two min_two max_three min_three max_four min_four   -- for this text's walks alone
set_option linter.unusedVariables false
set_option linter.unusedSimpArgs false

/-! ### value_bits: function 62 -/
def value_bits.j0 : Nat → Int → Bool → Option (Int)
  | 0, _, _ => none
  | k + 1, x3, x10 => if x10 = true then (some 64) else (if x3 = 3 then (some 8) else (if x3 = 14 then (some 8) else (some 0)))
def value_bits.f (k : Nat) (a0 : Int) : Option (Int) := if a0 = 1 then (some 1) else (if a0 = 6 then (some 16) else (if a0 = 7 then (some 32) else (if a0 = 4 then (value_bits.j0 k a0 (a0 == 4)) else (if a0 = 8 then (value_bits.j0 k a0 (a0 == 8)) else (value_bits.j0 k a0 (a0 == 13))))))
theorem value_bits.mono_l : ∀ k, (∀ y0 y1, LeO (value_bits.j0 k y0 y1) (value_bits.j0 (k + 1) y0 y1))
  | 0 => fun _ _ r h => by simp [value_bits.j0] at h
  | k + 1 => by
    have ih0 := value_bits.mono_l k
    · intro y0 y1
      unfold value_bits.j0
      repeat' first
      | (with_reducible exact ih0 _ _)
      | (with_reducible exact LeO.refl _)
      | (with_reducible exact LeO.none _)
      | (with_reducible refine LeO.ite ?_ ?_)
      | (with_reducible refine LeO.bind ?_ (fun _ => ?_))
      | exact ih0 _ _
      | exact LeO.none _
      | refine LeO.ite ?_ ?_
      | refine LeO.bind ?_ (fun _ => ?_)
theorem value_bits.mono : ∀ a0 k, LeO (value_bits.f k a0) (value_bits.f (k + 1) a0) := by
  intro a0 k
  have ih0 := value_bits.mono_l k
  unfold value_bits.f
  repeat' first
      | (with_reducible exact ih0 _ _)
      | (with_reducible exact LeO.refl _)
      | (with_reducible exact LeO.none _)
      | (with_reducible refine LeO.ite ?_ ?_)
      | (with_reducible refine LeO.bind ?_ (fun _ => ?_))
      | exact ih0 _ _
      | exact LeO.none _
      | refine LeO.ite ?_ ?_
      | refine LeO.bind ?_ (fun _ => ?_)
set_option maxHeartbeats 8000000 in
set_option maxRecDepth 100000 in
theorem value_bits.calls (k : Nat) (a0 : Int) (r : Int) (w : World) (h : value_bits.f k a0 = some r) :
    Calls Tryz.prog 62 #[.int .i64 a0] w fun e w' => e = .returned (.int .i64 r) ∧ Drawn0 w w' := by
  have H : (if a0 = 1 then (some 1) else (if a0 = 6 then (some 16) else (if a0 = 7 then (some 32) else (if a0 = 4 then (value_bits.j0 k a0 (a0 == 4)) else (if a0 = 8 then (value_bits.j0 k a0 (a0 == 8)) else (value_bits.j0 k a0 (a0 == 13))))))) = some r := h
  clear h
  by_cases c2 : a0 = 1
  · rw [if_pos c2] at H
    have c2b0 : (a0 == 1) = true := beq_iff_eq.mpr c2
    have c2b1 : (a0 != 1) = false := bne_eq_false_iff_eq.mpr c2
    clear c2
    obtain rfl := Option.some.inj H
    go_enter Tryz.func62, Tryz.ntmps62
    go_wp2
    go_ret
    exact ⟨by first | rfl | (simp; done) | (simp [*]; done), by repeat (first | exact Drawn0.refl _ | apply Drawn0.step)⟩
  · rw [if_neg c2] at H
    have c2b0 : (a0 == 1) = false := beq_eq_false_iff_ne.mpr c2
    have c2b1 : (a0 != 1) = true := bne_iff_ne.mpr c2
    by_cases c3 : a0 = 6
    · rw [if_pos c3] at H
      have c3b0 : (a0 == 6) = true := beq_iff_eq.mpr c3
      have c3b1 : (a0 != 6) = false := bne_eq_false_iff_eq.mpr c3
      clear c3
      obtain rfl := Option.some.inj H
      go_enter Tryz.func62, Tryz.ntmps62
      go_wp2
      go_ret
      exact ⟨by first | rfl | (simp; done) | (simp [*]; done), by repeat (first | exact Drawn0.refl _ | apply Drawn0.step)⟩
    · rw [if_neg c3] at H
      have c3b0 : (a0 == 6) = false := beq_eq_false_iff_ne.mpr c3
      have c3b1 : (a0 != 6) = true := bne_iff_ne.mpr c3
      by_cases c4 : a0 = 7
      · rw [if_pos c4] at H
        have c4b0 : (a0 == 7) = true := beq_iff_eq.mpr c4
        have c4b1 : (a0 != 7) = false := bne_eq_false_iff_eq.mpr c4
        clear c4
        obtain rfl := Option.some.inj H
        go_enter Tryz.func62, Tryz.ntmps62
        go_wp2
        go_ret
        exact ⟨by first | rfl | (simp; done) | (simp [*]; done), by repeat (first | exact Drawn0.refl _ | apply Drawn0.step)⟩
      · rw [if_neg c4] at H
        have c4b0 : (a0 == 7) = false := beq_eq_false_iff_ne.mpr c4
        have c4b1 : (a0 != 7) = true := bne_iff_ne.mpr c4
        have HC5 := Aside0.mk H
        clear H
        go_enter Tryz.func62, Tryz.ntmps62
        go_upto_if 10 with (fail)
        go_cut [10] (fun v10 wc => ∃ (kq : Nat) (x10_4 : Bool), v10 = .bool x10_4 ∧ Aside0 (value_bits.j0 kq a0 x10_4 = some r) ∧ Aside0 (kq ≤ k) ∧ Drawn0 w wc)
        case first =>
          have H := HC5.out
          clear HC5
          by_cases c6 : a0 = 4
          · rw [if_pos c6] at H
            have c6b0 : (a0 == 4) = true := beq_iff_eq.mpr c6
            have c6b1 : (a0 != 4) = false := bne_eq_false_iff_eq.mpr c6
            clear c6
            (first | rw [c6b0] | (simp only [i64_w, i32_w]; rw [c6b0]) | skip)
            have H' := Aside0.mk H
            clear H
            go_wp2
            go_meet
            case rel => exact ⟨_, ((a0 == 4)), (by first | rfl | (simp; done) | (simp [*]; done)), H', ⟨by first | omega | exact Nat.le_refl _⟩, by repeat (first | exact Drawn0.refl _ | apply Drawn0.step)⟩
          · rw [if_neg c6] at H
            have c6b0 : (a0 == 4) = false := beq_eq_false_iff_ne.mpr c6
            have c6b1 : (a0 != 4) = true := bne_iff_ne.mpr c6
            (first | rw [c6b0] | (simp only [i64_w, i32_w]; rw [c6b0]) | skip)
            by_cases c7 : a0 = 8
            · rw [if_pos c7] at H
              have c7b0 : (a0 == 8) = true := beq_iff_eq.mpr c7
              have c7b1 : (a0 != 8) = false := bne_eq_false_iff_eq.mpr c7
              clear c7
              have H' := Aside0.mk H
              clear H
              go_wp2
              go_meet
              case rel => exact ⟨_, ((a0 == 8)), (by first | rfl | (simp; done) | (simp [*]; done)), H', ⟨by first | omega | exact Nat.le_refl _⟩, by repeat (first | exact Drawn0.refl _ | apply Drawn0.step)⟩
            · rw [if_neg c7] at H
              have c7b0 : (a0 == 8) = false := beq_eq_false_iff_ne.mpr c7
              have c7b1 : (a0 != 8) = true := bne_iff_ne.mpr c7
              have H' := Aside0.mk H
              clear H
              go_wp2
              go_meet
              case rel => exact ⟨_, ((a0 == 13)), (by first | rfl | (simp; done) | (simp [*]; done)), H', ⟨by first | omega | exact Nat.le_refl _⟩, by repeat (first | exact Drawn0.refl _ | apply Drawn0.step)⟩
        case rest =>
          clear HC5
          try clear c2
          try clear c2b0
          try clear c2b1
          try clear p2
          try clear c3
          try clear c3b0
          try clear c3b1
          try clear c4
          try clear c4b0
          try clear c4b1
          try clear c6
          try clear c6b0
          try clear c6b1
          try clear c7
          try clear c7b0
          try clear c7b1
          obtain ⟨kq, x10_4, rfl, HA, HJ4, ⟨mc4, rfl⟩⟩ := hcut
          cases kq with
          | zero => exact absurd HA.out (by simp [value_bits.j0])
          | succ kj4 =>
            have H := HA.out
            clear HA
            simp only [value_bits.j0] at H
            by_cases c8 : x10_4 = true
            · subst c8
              have H1 : (some 64) = some r := by rw [if_pos rfl] at H; exact H
              clear H
              have H := H1
              clear H1
              obtain rfl := Option.some.inj H
              go_wp2
              go_ret
              exact ⟨by first | rfl | (simp; done) | (simp [*]; done), by repeat (first | exact Drawn0.refl _ | apply Drawn0.step)⟩
            · replace c8 := Bool.eq_false_iff.mpr c8
              subst c8
              have H1 : (if a0 = 3 then (some 8) else (if a0 = 14 then (some 8) else (some 0))) = some r := by rw [if_neg (show ¬ (false = true) by decide)] at H; exact H
              clear H
              have H := H1
              clear H1
              by_cases c9 : a0 = 3
              · rw [if_pos c9] at H
                have c9b0 : (a0 == 3) = true := beq_iff_eq.mpr c9
                have c9b1 : (a0 != 3) = false := bne_eq_false_iff_eq.mpr c9
                clear c9
                obtain rfl := Option.some.inj H
                go_wp2
                go_ret
                exact ⟨by first | rfl | (simp; done) | (simp [*]; done), by repeat (first | exact Drawn0.refl _ | apply Drawn0.step)⟩
              · rw [if_neg c9] at H
                have c9b0 : (a0 == 3) = false := beq_eq_false_iff_ne.mpr c9
                have c9b1 : (a0 != 3) = true := bne_iff_ne.mpr c9
                by_cases c10 : a0 = 14
                · rw [if_pos c10] at H
                  have c10b0 : (a0 == 14) = true := beq_iff_eq.mpr c10
                  have c10b1 : (a0 != 14) = false := bne_eq_false_iff_eq.mpr c10
                  clear c10
                  obtain rfl := Option.some.inj H
                  go_wp2
                  go_ret
                  exact ⟨by first | rfl | (simp; done) | (simp [*]; done), by repeat (first | exact Drawn0.refl _ | apply Drawn0.step)⟩
                · rw [if_neg c10] at H
                  have c10b0 : (a0 == 14) = false := beq_eq_false_iff_ne.mpr c10
                  have c10b1 : (a0 != 14) = true := bne_iff_ne.mpr c10
                  obtain rfl := Option.some.inj H
                  go_wp2
                  go_ret
                  exact ⟨by first | rfl | (simp; done) | (simp [*]; done), by repeat (first | exact Drawn0.refl _ | apply Drawn0.step)⟩

end Go.Proofs.YtfmceonbejlhlaaGreatDoor.P

-- Written by a program of this session (joint.sh) out of the translation. Not trusted: Lean checks it.
namespace Go.Proofs.YtfmceonbejlhlaaGreatDoor.P
open Go.RowKit Go.Proofs.YtfmceonbejlhlaaGreatDoorW.PrintWords Go.Proofs.YtfmceonbejlhlaaGreatDoorW.PrintLast Go.Proofs.YtfmceonbejlhlaaGreatDoorW.PrintMore
attribute [local go_sem] max2_int min2_int max_two min_two max_three min_three max_four min_four   -- for this text's walks alone
set_option linter.unusedVariables false
set_option linter.unusedSimpArgs false

/-! ### utf_Check: function 63 -/
def utf_Check.f (a0 : ByteArray) : Option (Int × Int) := if a0.size ≤ 9223372036854775807 then some (chk a0) else none
theorem utf_Check.calls (a0 : ByteArray) (r1 r2 : Int) (w : World) (h : utf_Check.f a0 = some (r1, r2)) :
    Calls Tryz.prog 63 #[.string a0] w fun e w' => e = .returned (.tuple #[.int .i64 r1, .int .i64 r2]) ∧ Below w.heap.size w w' := by
  unfold utf_Check.f at h
  split at h
  · rename_i hs
    have h' := Option.some.inj h
    refine (check_any a0 w hs).mono ?_
    rintro e w' ⟨he, hw⟩
    rw [h'] at he
    exact ⟨he, hw⟩
  · cases h

end Go.Proofs.YtfmceonbejlhlaaGreatDoor.P

-- Written by a program of this session (joint.sh) out of the translation. Not trusted: Lean checks it.
namespace Go.Proofs.YtfmceonbejlhlaaGreatDoor.P
open Go.RowKit Go.Proofs.YtfmceonbejlhlaaGreatDoorW.PrintWords Go.Proofs.YtfmceonbejlhlaaGreatDoorW.PrintLast Go.Proofs.YtfmceonbejlhlaaGreatDoorW.PrintMore
attribute [local go_sem] max2_int min2_int max_two min_two max_three min_three max_four min_four   -- for this text's walks alone
set_option linter.unusedVariables false
set_option linter.unusedSimpArgs false

/-! ### value_big: function 64 -/
def value_big.f (a0 : ByteArray) : Option (Bool) := if (a0.size : Int) > 8 then (if (a0.size : Int) ≤ 512 then (if 0 < (a0.size : Int) then (some ((bt a0 0) != 0)) else (none)) else (some false)) else (some false)
set_option maxHeartbeats 8000000 in
set_option maxRecDepth 100000 in
theorem value_big.calls (a0 : ByteArray) (r : Bool) (w : World) (h : value_big.f a0 = some r) :
    Calls Tryz.prog 64 #[.string a0] w fun e w' => e = .returned (.bool r) ∧ Drawn0 w w' := by
  have H : (if (a0.size : Int) > 8 then (if (a0.size : Int) ≤ 512 then (if 0 < (a0.size : Int) then (some ((bt a0 0) != 0)) else (none)) else (some false)) else (some false)) = some r := h
  clear h
  by_cases c2 : (a0.size : Int) > 8
  · rw [if_pos c2] at H
    have c2b0 : decide (8 < (a0.size : Int)) = true := decide_eq_true c2
    have c2b1 : decide (8 < a0.size) = true := decide_eq_true (by omega)
    clear c2
    by_cases c3 : (a0.size : Int) ≤ 512
    · rw [if_pos c3] at H
      have c3b0 : decide ((a0.size : Int) ≤ 512) = true := decide_eq_true c3
      have c3b1 : decide (a0.size ≤ 512) = true := decide_eq_true (by omega)
      clear c3
      by_cases c4 : 0 < (a0.size : Int)
      · rw [if_pos c4] at H
        have c4b0 : decide (0 < (a0.size : Int)) = true := decide_eq_true c4
        have c4b1 : decide (0 < a0.size) = true := decide_eq_true (by omega)
        clear c4
        obtain rfl := Option.some.inj H
        have p5 : 0 ≤ (0 : Int) := (by omega)
        have q5 : 0 < a0.size := (by have : (0 : Int) < (a0.size : Int) := of_decide_eq_true (by first | (with_reducible assumption) | assumption); omega)
        have hx5 : ∀ h : 0 < a0.size, ((a0[0]'h).toNat : Int) = bt a0 0 := bt_at a0 0
        clear p5
        have qi5 : (0 < (a0.size : Int)) = True := eq_true (of_decide_eq_true (by first | (with_reducible assumption) | assumption))
        replace q5 := eq_true q5
        go_enter Tryz.func64, Tryz.ntmps64
        go_wp2
        go_ret
        exact ⟨by first | rfl | (simp; done) | (simp [*]; done), by repeat (first | exact Drawn0.refl _ | apply Drawn0.step)⟩
      · rw [if_neg c4] at H
        exact absurd H (by simp)
    · rw [if_neg c3] at H
      have c3b0 : decide ((a0.size : Int) ≤ 512) = false := decide_eq_false c3
      have c3b1 : decide (a0.size ≤ 512) = false := decide_eq_false (by omega)
      clear c3
      obtain rfl := Option.some.inj H
      go_enter Tryz.func64, Tryz.ntmps64
      go_wp2
      go_ret
      exact ⟨by first | rfl | (simp; done) | (simp [*]; done), by repeat (first | exact Drawn0.refl _ | apply Drawn0.step)⟩
  · rw [if_neg c2] at H
    have c2b0 : decide (8 < (a0.size : Int)) = false := decide_eq_false c2
    have c2b1 : decide (8 < a0.size) = false := decide_eq_false (by omega)
    clear c2
    obtain rfl := Option.some.inj H
    go_enter Tryz.func64, Tryz.ntmps64
    go_wp2
    go_ret
    exact ⟨by first | rfl | (simp; done) | (simp [*]; done), by repeat (first | exact Drawn0.refl _ | apply Drawn0.step)⟩

end Go.Proofs.YtfmceonbejlhlaaGreatDoor.P
