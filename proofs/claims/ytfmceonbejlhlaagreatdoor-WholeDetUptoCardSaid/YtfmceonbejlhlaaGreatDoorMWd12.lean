import Derived.Deep.RegionWith
import Derived.Deep.RegionLawGrows
import Derived.Test.YtfmceonbejlhlaaGreatDoorMWd11
/-
  cbor's NewReader, Read, Finish, Decode.
-/
namespace Go.Proofs.YtfmceonbejlhlaaGreatDoor
open Go.RowKit Go.Proofs.YtfmceonbejlhlaaGreatDoorW.PrintWords Go.Proofs.YtfmceonbejlhlaaGreatDoorW.PrintLast Go.Proofs.YtfmceonbejlhlaaGreatDoorW.PrintMore
set_option linter.unusedVariables false

/-- A new reader. -/
def NewPost (bg n cap : Nat) (w : World) (e : Ending) (w' : World) : Prop := ∃ rp bp, e = .returned (.pointer (some ⟨rp, 0, none⟩)) ∧ Rb w' rp bp bg n cap 0 ∧ Bb w' bp (.slice none 0 0) false (.int .i64 0) (.bool false) (.int .u64 0) (.string ⟨#[]⟩) (.slice none 0 0) 0 ∧ w.heap.size ≤ rp ∧ w.heap.size ≤ bp ∧ Below w.heap.size w w'
/-- Behind New. -/
def NewAt (q : Nat) (w : World) (W : World) (e : Ending) (w2 : World) : Prop := ∃ bp, e = .returned (.pointer (some ⟨bp, 0, none⟩)) ∧ w2.cell? ⟨q, 0, none⟩ = some (.int .i64 64) ∧ w2.cell? ⟨q, 1, none⟩ = some (.int .i64 1048576) ∧ w2.cell? ⟨q, 2, none⟩ = some (.bool false) ∧ Hid (Bb w2 bp (.slice none 0 0) false (.int .i64 0) (.bool false) (.int .u64 0) (.string ⟨#[]⟩) (.slice none 0 0) 0 ∧ w.heap.size ≤ bp ∧ Below w.heap.size w w2)
theorem new_at (w W : World) (q : Nat) (hq : w.heap.size = q) (hb : Below w.heap.size w W) (R : Blk W q 36 #[.int .i64 64, .int .i64 1048576, .bool false]) : Calls Tryz.prog 41 #[.int .i64 64] W (NewAt q w W) := by
  refine (new_any W).mono ?_
  rintro e w2 ⟨rfl, rfl⟩
  have R2 := Blk.alloc R (.cells #[.bool true, .slice none 0 0, .bool false, .int .i64 0, .bool false, .int .u64 0, .string ⟨#[]⟩, .slice none 0 0, .int .i64 0, .int .i64 64] 122)
  exact ⟨_, rfl, R2.cell (i := 0) rfl, R2.cell (i := 1) rfl, R2.cell (i := 2) rfl, Lib.hid ⟨Blk.new W 122 _, hb.size, hb.alloc hb.size _⟩⟩
set_option maxRecDepth 100000 in
set_option maxHeartbeats 4000000 in
theorem newreader_any (bg n cap : Nat) (w : World) : Calls Tryz.prog 20 #[.slice (some ⟨bg, 0, none⟩) n cap, .agg #[.int .i64 64, .int .i64 1048576, .bool false], .bool false] w (NewPost bg n cap w) := by
  have R := Blk.new w 36 #[.int .i64 64, .int .i64 1048576, .bool false]
  have hb := (Below.refl w.heap.size w).alloc (Nat.le_refl _) (.cells #[.int .i64 64, .int .i64 1048576, .bool false] 36)
  obtain ⟨W1, hW⟩ : ∃ W1, w.alloc (.cells #[.int .i64 64, .int .i64 1048576, .bool false] 36) = W1 := ⟨_, rfl⟩
  obtain ⟨q, hq⟩ : ∃ q, w.heap.size = q := ⟨_, rfl⟩
  rw [hW] at R hb
  rw [hq] at R hb
  have HL : ∀ k, ∀ i v, (#[Value.int .i64 64, Value.int .i64 1048576, Value.bool false] : Array Value)[i]? = some v → (W1.drewN k).cell? ⟨q, i, none⟩ = some v := fun k i v h => R.cell h
  have c0 := R.cell (i := 0) rfl
  have c1 := R.cell (i := 1) rfl
  have c2 := R.cell (i := 2) rfl
  simp only [List.getElem_toArray, List.getElem_cons_zero, List.getElem_cons_succ] at c0 c1 c2
  have HR := Lib.hid R
  have HB := Lib.hid hb
  clear R hb HL
  go_enter Tryz.func20, Tryz.ntmps20
  go_wp2_with fail
  have HN : Hid (∀ k, Calls Tryz.prog 41 #[.int .i64 64] (W1.drewN k) (NewAt q w (W1.drewN k))) := Lib.hid (fun k => new_at w (W1.drewN k) q hq (by rw [hq]; exact HB.out.trans (below_drewN _ _ _)) (show Blk (W1.drewN k) q 36 _ from HR.out))
  go_region_with ((go_at_call 41; refine (HN.out _).mono ?_; rintro e w2 ⟨bp, rfl, e0, e1, e2, h2⟩))
  all_goals
    go_wp2
    go_ret
    exact ⟨w2.heap.size, bp, rfl, Blk.new w2 85 _, h2.out.1.alloc _, h2.out.2.2.size, h2.out.2.1, h2.out.2.2.alloc h2.out.2.2.size _⟩
section
variable {base rp bp bg n cap : Nat} {bs : List Int}
set_option maxRecDepth 100000 in
set_option maxHeartbeats 4000000 in
theorem read_any (t : T) (count : Nat) (w : World) (hsz : base ≤ w.heap.size) (h : Rs base rp bp bg n cap w.heap.size bs 0 [] none 0 (w.alloc (.cells #[.pointer none] 58)))
    (hI : ∀ W, Rs base rp bp bg n cap w.heap.size bs 0 [] none 0 W → Calls Tryz.prog 46 #[.pointer (some ⟨rp, 0, none⟩)] W (ReadPost base rp bp bg n cap w.heap.size bs (.tuple #[]) n [] (some t) count W)) :
    Calls Tryz.prog 22 #[.pointer (some ⟨rp, 0, none⟩)] w fun e w' => e = .returned (.pointer none) ∧ Rs base rp bp bg n cap w.heap.size bs n [] (some t) count w' ∧ Below base w w' := by
  have hmf : ∀ (fn : Fn) (first cap : Array Value) (w : World), (Instr.makeFunc fn first cap).run Tryz.prog w = .ok (.func fn first cap) w := fun _ _ _ _ => rfl
  have HI := Lib.hid (run_any t count w hsz h hI)
  clear h hI
  go_enter Tryz.func22, Tryz.ntmps22
  go_wp2_with (go_at_call 45; refine HI.out.mono ?_; rintro e w2 ⟨rfl, h2, hb2⟩)
  go_ret
  exact ⟨rfl, h2, hb2⟩
/-- What comes of a reading. -/
def FinPost (base n : Nat) (t : T) (w : World) (e : Ending) (w' : World) : Prop := ∃ a c, e = .returned (.tuple #[treeV t a c, .int .i64 n, .int .i64 0]) ∧ RowOk w' (fun g => base ≤ g ∧ g < w'.heap.size) (t, a, c) ∧ Below w.heap.size w w'
set_option maxRecDepth 100000 in
set_option maxHeartbeats 8000000 in
theorem finish_any (qb count : Nat) (t : T) (w : World) (h : Rs base rp bp bg n cap qb bs n [] (some t) count w) : Calls Tryz.prog 21 #[.pointer (some ⟨rp, 0, none⟩), .pointer none] w (FinPost base n t w) := by
  have hb1 := (Below.refl w.heap.size w).alloc (Nat.le_refl _) (.cells #[.int .i64 0, .bool false, .int .u64 0, .string ⟨#[]⟩, .slice none 0 0] 25)
  have hb2 := hb1.alloc hb1.size (.cells #[.pointer none] 58)
  have hN : Row5 ((w.alloc (.cells #[.int .i64 0, .bool false, .int .u64 0, .string ⟨#[]⟩, .slice none 0 0] 25)).alloc (.cells #[.pointer none] 58)) w.heap.size (.int .i64 0) (.bool false) (.int .u64 0) (.string ⟨#[]⟩) (.slice none 0 0) := Blk.alloc (Blk.new w 25 #[.int .i64 0, .bool false, .int .u64 0, .string ⟨#[]⟩, .slice none 0 0]) _
  obtain ⟨W2, hW⟩ : ∃ W2, (w.alloc (.cells #[.int .i64 0, .bool false, .int .u64 0, .string ⟨#[]⟩, .slice none 0 0] 25)).alloc (.cells #[.pointer none] 58) = W2 := ⟨_, rfl⟩
  rw [hW] at hb2 hN
  have h2 := h.below hb2
  obtain ⟨ov, a, c, hBb, hrow⟩ := build_whole h.build
  have HV := Lib.hid (value_bb bp count t ov a c W2 (hBb.below hb2))
  have c0 := h2.rb.c0
  have H2 := Lib.hid h2
  have HN := Lib.hid hN
  have HB := Lib.hid hb2
  obtain ⟨k, neg, v, s, l⟩ := t
  unfold treeV at HV
  obtain ⟨q, hq⟩ : ∃ q, w.heap.size = q := ⟨_, rfl⟩
  have HR := Lib.hid hrow
  rw [hq] at HN HB HR
  have hmi : ∀ (v : Value) (w : World), (Instr.makeInterface 90 v).run Tryz.prog w = .ok (.iface 90 v) w := fun _ _ => rfl
  clear h h2 hb1 hb2 hN hBb hrow
  go_enter Tryz.func21, Tryz.ntmps21
  go_wp2_with (first
    | (go_at_call 43; refine (fault_none _).mono ?_; rintro e w1 ⟨rfl, rfl⟩)
    | (go_at_call 42; refine (as_none _ _).mono ?_; rintro e w1 ⟨rfl, rfl⟩)
    | (go_at_call 44; refine HV.out.mono ?_; rintro e w3 ⟨rfl, hb3⟩; have HB3 := Lib.hid hb3; clear hb3))
  have H3 := H2.out.below HB3.out
  have hr3 : Row5 w3 q (.int .i64 0) (.bool false) (.int .u64 0) (.string ⟨#[]⟩) (.slice none 0 0) := (HB3.out.block q (Blk.lt HN.out)).trans HN.out
  have hq3 : q < w3.heap.size := Blk.lt hr3
  have hx := (Below.refl w3.heap.size w3).alloc (Nat.le_refl _) (.cells #[.int .i64 k, .bool neg, .int .u64 v, .string s, .slice a l.length c] 25)
  have hn5 : Row5 (w3.alloc (.cells #[.int .i64 k, .bool neg, .int .u64 v, .string s, .slice a l.length c] 25)) w3.heap.size (.int .i64 k) (.bool neg) (.int .u64 v) (.string s) (.slice a l.length c) := Blk.new w3 25 #[.int .i64 k, .bool neg, .int .u64 v, .string s, .slice a l.length c]
  have hr5 : Row5 (w3.alloc (.cells #[.int .i64 k, .bool neg, .int .u64 v, .string s, .slice a l.length c] 25)) q (.int .i64 0) (.bool false) (.int .u64 0) (.string ⟨#[]⟩) (.slice none 0 0) := Blk.alloc hr3 _
  have hrb5 := H3.rb.below hx
  have hB2 := (HB.out.trans (HB3.out.mono (by have := HB.out.size; rw [hq] at this; exact this))).trans (hx.mono (by omega))
  have hne1 : ¬ rp = q := ty_ne (s := 85) (t := 25) H3.rb.ty ⟨_, _, hr3⟩ (by decide)
  have hne2 : ¬ w3.heap.size = q := by omega
  obtain ⟨q8, hq8⟩ : ∃ q8, w3.heap.size = q8 := ⟨_, rfl⟩
  rw [hq8] at hn5 hne2
  generalize w3.alloc (.cells #[.int .i64 k, .bool neg, .int .u64 v, .string s, .slice a l.length c] 25) = W5 at hn5 hr5 hrb5 hB2 hx ⊢
  have c1 := hrb5.c1
  have n0 := hn5.c0
  have d0 := hr5.c0
  have f0 := Blk.frozen hr5 0
  have n1 := hn5.c1
  have d1 := hr5.c1
  have f1 := Blk.frozen hr5 1
  have n2 := hn5.c2
  have d2 := hr5.c2
  have f2 := Blk.frozen hr5 2
  have n3 := hn5.c3
  have d3 := hr5.c3
  have f3 := Blk.frozen hr5 3
  have n4 := hn5.c4
  have d4 := hr5.c4
  have f4 := Blk.frozen hr5 4
  have HR5 := Lib.hid hr5
  have HB5 := Lib.hid hB2
  clear hn5 hr5 hrb5 hB2 hx H3 hr3 hq3
  rw [hq8]
  go_region
  all_goals
    go_wp2
    have hr6 : Row5 (((((W5.drew.setCell ⟨q, 0, none⟩ (.int .i64 k)).setCell ⟨q, 1, none⟩ (.bool neg)).setCell ⟨q, 2, none⟩ (.int .u64 v)).setCell ⟨q, 3, none⟩ (.string s)).setCell ⟨q, 4, none⟩ (.slice a l.length c)) q (.int .i64 k) (.bool neg) (.int .u64 v) (.string s) (.slice a l.length c) := ((((Row5.s0 (show Row5 W5.drew q _ _ _ _ _ from HR5.out) (.int .i64 k)).s1 (.bool neg)).s2 (.int .u64 v)).s3 (.string s)).s4 (.slice a l.length c)
    have hb6 := (((((HB5.out.drew).setCell (p := ⟨q, 0, none⟩) (Nat.le_refl _) (.int .i64 k)).setCell (p := ⟨q, 1, none⟩) (Nat.le_refl _) (.bool neg)).setCell (p := ⟨q, 2, none⟩) (Nat.le_refl _) (.int .u64 v)).setCell (p := ⟨q, 3, none⟩) (Nat.le_refl _) (.string s)).setCell (p := ⟨q, 4, none⟩) (Nat.le_refl _) (.slice a l.length c)
    have hW6 : ∃ W6, (((((W5.setCell ⟨q, 0, none⟩ (.int .i64 k)).setCell ⟨q, 1, none⟩ (.bool neg)).setCell ⟨q, 2, none⟩ (.int .u64 v)).setCell ⟨q, 3, none⟩ (.string s)).setCell ⟨q, 4, none⟩ (.slice a l.length c)).drew = W6 := ⟨_, rfl⟩
    obtain ⟨W6, hW6⟩ := hW6
    have hr7 : Row5 W6 q (.int .i64 k) (.bool neg) (.int .u64 v) (.string s) (.slice a l.length c) := by rw [← hW6]; exact hr6
    have hb7 : Below q w W6 := by rw [← hW6]; exact hb6
    first | rw [hW6] | (change bodyPost _ _ _ _ _ (((((W5.setCell ⟨q, 0, none⟩ (.int .i64 k)).setCell ⟨q, 1, none⟩ (.bool neg)).setCell ⟨q, 2, none⟩ (.int .u64 v)).setCell ⟨q, 3, none⟩ (.string s)).setCell ⟨q, 4, none⟩ (.slice a l.length c)).drew; rw [hW6])
    have e0 := hr7.c0
    have e1 := hr7.c1
    have e2 := hr7.c2
    have e3 := hr7.c3
    have e4 := hr7.c4
    have hrow7 : RowOk W6 (fun g => base ≤ g ∧ g < W6.heap.size) (⟨k, neg, v, s, l⟩, a, c) := HR.out.keep (fun g hg => ⟨hg.1, Nat.lt_of_lt_of_le hg.2 (by have := hb7.size; rw [hq] at this; exact this)⟩) (fun g hg => hb7.block g hg.2)
    subst hq
    exact bodyPost_ret (v := .tuple #[treeV ⟨k, neg, v, s, l⟩ a c, .int .i64 n, .int .i64 0]) (by simp [results, Tryz.results21, go_sem, e0, e1, e2, e3, e4, treeV]) rfl ⟨a, c, rfl, hrow7, hb7⟩
end
end Go.Proofs.YtfmceonbejlhlaaGreatDoor

/-
  cbor.Decode of the bytes of a right tree.
-/
namespace Go.Proofs.YtfmceonbejlhlaaGreatDoor
open Go.RowKit Go.Proofs.YtfmceonbejlhlaaGreatDoorW.PrintWords Go.Proofs.YtfmceonbejlhlaaGreatDoorW.PrintLast Go.Proofs.YtfmceonbejlhlaaGreatDoorW.PrintMore
set_option linter.unusedVariables false

/-- All of a right value's bytes are read. -/
theorem item_whole (base rp bp bg n cap qb : Nat) (op : Bool) (t : T) (hR : Rt t) (hW : Wf t) (hS : saysF t = true) (hbk : bulk t ≤ 1073741824) (hd : depthF t ≤ 64) (hc : (preF t).length ≤ 65536) (hn : (itemF op t).length = n) (W : World) (h : Rs base rp bp bg n cap qb (itemF op t) 0 [] none 0 W) :
    Calls Tryz.prog 46 #[.pointer (some ⟨rp, 0, none⟩)] W (ReadPost base rp bp bg n cap qb (itemF op t) (.tuple #[]) n [] (some t) (0 + (preF t).length) W) := by
  have := reads_any (base := base) (rp := rp) (bp := bp) (bg := bg) (n := n) (cap := cap) (qb := qb) (bs := itemF op t) op t hR hW hS hbk 0 0 [] [] W h (by rw [List.drop_zero, List.append_nil]) (by rw [List.length_nil]; omega) (by omega) ⟨by simp, fun p hp => absurd hp (by simp)⟩ (fun p rest e => absurd e (by simp))
  rw [hn, Nat.zero_add, addC] at this
  rw [Nat.zero_add] at this ⊢
  exact this
theorem nil_open (W : World) (base : Nat) : OpenIs W base (Lo base) (.slice none 0 0) [] := by
  exact ⟨World.ownsRow_nil W _ 220 5, fun r hr => absurd hr (by simp), List.Pairwise.nil⟩
/-- What Read leaves of a new reader. -/
def ReadNew (rp bp bg n cap : Nat) (bs : List Int) (t : T) (w3 w4 : World) (e : Ending) (w5 : World) : Prop := e = .returned (.pointer none) ∧ (∃ qb count, Rs w3.heap.size rp bp bg n cap qb bs n [] (some t) count w5) ∧ Below w3.heap.size w4 w5
/-- What Decode hands back: a tree whose lists are all new. -/
def DecPost (n : Nat) (t : T) (w : World) (e : Ending) (w' : World) : Prop := ∃ a c, e = .returned (.tuple #[treeV t a c, .int .i64 n, .int .i64 0]) ∧ RowOk w' (fun g => w.heap.size ≤ g ∧ g < w'.heap.size) (t, a, c) ∧ Below w.heap.size w w'
theorem read_new (op : Bool) (t : T) (bg n cap rp bp : Nat) (w3 w4 : World) (hR : Rt t) (hW : Wf t) (hS : saysF t = true) (hbk : bulk t ≤ 1073741824) (hd : depthF t ≤ 64) (hc : (preF t).length ≤ 65536) (hn : (itemF op t).length = n) (hncap : n ≤ cap) (hsm : n ≤ 1048576) (hlt : bg < w3.heap.size) (hb : BytesAt w4 bg 0 (itemF op t))
    (hrb : Rb w4 rp bp bg n cap 0) (hBb : Bb w4 bp (.slice none 0 0) false (.int .i64 0) (.bool false) (.int .u64 0) (.string ⟨#[]⟩) (.slice none 0 0) 0) (h1 : w3.heap.size ≤ rp) (h2 : w3.heap.size ≤ bp) (h3 : Below w3.heap.size w3 w4) :
    Calls Tryz.prog 22 #[.pointer (some ⟨rp, 0, none⟩)] w4 (ReadNew rp bp bg n cap (itemF op t) t w3 w4) := by
  have hbuild : BuildIs w4 w3.heap.size bp [] none 0 := ⟨_, [], nil_open _ _, rfl, h2, hBb⟩
  refine (read_any t (0 + (preF t).length) w4 h3.size (Rs.newBlock hrb hbuild hb hn hncap hsm hlt h1 h3.size (Nat.zero_le _)) (fun W h => item_whole w3.heap.size rp bp bg n cap w4.heap.size op t hR hW hS hbk hd hc hn W h)).mono ?_
  rintro e w5 ⟨rfl, h5, hb5⟩
  exact ⟨rfl, ⟨_, _, h5⟩, hb5⟩
set_option maxRecDepth 100000 in
set_option maxHeartbeats 8000000 in
theorem decode_any (op : Bool) (t : T) (bg n cap : Nat) (w : World) (hR : Rt t) (hW : Wf t) (hS : saysF t = true) (hbk : bulk t ≤ 1073741824) (hd : depthF t ≤ 64) (hc : (preF t).length ≤ 65536) (hn : (itemF op t).length = n) (hncap : n ≤ cap) (hsm : n ≤ 1048576) (hlt : bg < w.heap.size) (hb : BytesAt w bg 0 (itemF op t)) :
    Calls Tryz.prog 7 #[.slice (some ⟨bg, 0, none⟩) n cap, .agg #[.int .i64 64, .int .i64 1048576, .bool false]] w (DecPost n t w) := by
  have RL := Blk.alloc (Blk.new w 36 #[.int .i64 64, .int .i64 1048576, .bool false]) (.cells #[.int .i64 0, .bool false, .int .u64 0, .string ⟨#[]⟩, .slice none 0 0] 25)
  have hb1 := (Below.refl w.heap.size w).alloc (Nat.le_refl _) (.cells #[.int .i64 64, .int .i64 1048576, .bool false] 36)
  have hb2 := hb1.alloc hb1.size (.cells #[.int .i64 0, .bool false, .int .u64 0, .string ⟨#[]⟩, .slice none 0 0] 25)
  have hN : Row5 _ (w.alloc (.cells #[.int .i64 64, .int .i64 1048576, .bool false] 36)).heap.size (.int .i64 0) (.bool false) (.int .u64 0) (.string ⟨#[]⟩) (.slice none 0 0) := Blk.new (w.alloc (.cells #[.int .i64 64, .int .i64 1048576, .bool false] 36)) 25 #[.int .i64 0, .bool false, .int .u64 0, .string ⟨#[]⟩, .slice none 0 0]
  rw [show (w.alloc (.cells #[.int .i64 64, .int .i64 1048576, .bool false] 36)).heap.size = w.heap.size + 1 by simp] at hN
  obtain ⟨W2, hW2⟩ : ∃ W2, (w.alloc (.cells #[.int .i64 64, .int .i64 1048576, .bool false] 36)).alloc (.cells #[.int .i64 0, .bool false, .int .u64 0, .string ⟨#[]⟩, .slice none 0 0] 25) = W2 := ⟨_, rfl⟩
  obtain ⟨q, hq⟩ : ∃ q, w.heap.size = q := ⟨_, rfl⟩
  rw [hW2] at RL hb2 hN
  rw [hq] at RL hb2 hN hlt
  have c0 := RL.cell (i := 0) rfl
  have c1 := RL.cell (i := 1) rfl
  have c2 := RL.cell (i := 2) rfl
  simp only [List.getElem_toArray, List.getElem_cons_zero, List.getElem_cons_succ] at c0 c1 c2
  have hcell : ∀ (W : World) (i : Nat) (v : Value), Below W2.heap.size W2 W → W2.cell? ⟨q, i, none⟩ = some v → W.cell? ⟨q, i, none⟩ = some v := fun W i v h hv => (h.cell (p := ⟨q, i, none⟩) (Blk.lt RL)).trans hv
  have HC := Lib.hid hcell
  have HN := Lib.hid hN
  have HB2 := Lib.hid hb2
  have HBy := Lib.hid hb
  have HLt := Lib.hid hlt
  have HRead : Hid (∀ (rp : Nat) (w3 w4 : World), q < w3.heap.size → Below q w w3 → NewPost bg n cap w3 (.returned (.pointer (some ⟨rp, 0, none⟩))) w4 → ∃ bp, Calls Tryz.prog 22 #[.pointer (some ⟨rp, 0, none⟩)] w4 (ReadNew rp bp bg n cap (itemF op t) t w3 w4)) := Lib.hid (fun rp w3 w4 hq3 hb3 ⟨rp', bp', he, h1, h2, h3, h4, h5⟩ => by
    injection he with he
    injection he with he
    injection he with he
    injection he with he _ _
    subst he
    refine ⟨bp', read_new op t bg n cap rp bp' w3 w4 hR hW hS hbk hd hc hn hncap hsm (by omega) (fun j b hj => ?_) h1 h2 h3 h4 h5⟩
    exact (h5.cell (p := ⟨bg, 0 + j, none⟩) (by show bg < _; omega)).trans ((hb3.cell (p := ⟨bg, 0 + j, none⟩) hlt).trans (hb j b hj)))
  have HLen := Lib.hid (show (itemF op t).length = n ∧ n ≤ cap ∧ n ≤ 1048576 from ⟨hn, hncap, hsm⟩)
  clear hcell hN hb2 hb hb1 RL hR hW hS hbk hd hc hn hncap hsm
  go_enter Tryz.func7, Tryz.ntmps7
  go_wp2_with (first
    | (go_at_call 19; refine (right_64 _ _).mono ?_; rintro e w3 ⟨rfl, hb3⟩; have HB3 := Lib.hid hb3; have d0 := HC.out w3 0 _ hb3 c0; have d1 := HC.out w3 1 _ hb3 c1; have d2 := HC.out w3 2 _ hb3 c2; clear hb3)
    | (go_at_call 20; refine (newreader_any _ _ _ _).mono ?_; rintro e w4 ⟨rp, bp0, rfl, h4⟩; have H4 := Lib.hid h4; clear h4)
    | (go_at_call 22; obtain ⟨bp, hRd⟩ := HRead.out rp w3 w4 (by have := Blk.lt HN.out; have := HB3.out.size; omega) (HB2.out.trans (HB3.out.mono (by have := Blk.lt HN.out; omega))) ⟨rp, bp0, rfl, H4.out⟩; refine hRd.mono ?_; rintro e w5 ⟨rfl, ⟨qb, count, h5⟩, hb5⟩; have H5 := Lib.hid h5; have HB5 := Lib.hid hb5; clear h5 hb5 hRd)
    | (go_at_call 21; refine (finish_any qb count t w5 H5.out).mono ?_; rintro e w6 ⟨a, c, he, hrow, hb6⟩; unfold treeV at he; subst he; have HR6 := Lib.hid hrow; have HB6 := Lib.hid hb6;
       (have hr6 : Row5 w6 (q + 1) (.int .i64 0) (.bool false) (.int .u64 0) (.string ⟨#[]⟩) (.slice none 0 0) := by
          have l2 := Blk.lt HN.out
          have l3 := HB3.out.size
          have l4 := H4.out.2.2.2.2.size
          have l5 := HB5.out.size
          exact (HB6.out.block (q + 1) (by omega)).trans ((HB5.out.block (q + 1) (by omega)).trans ((H4.out.2.2.2.2.block (q + 1) (by omega)).trans ((HB3.out.block (q + 1) l2).trans HN.out)))); have HR5 := Lib.hid hr6;
       have x0 := hr6.c0; have x1 := hr6.c1; have x2 := hr6.c2; have x3 := hr6.c3; have x4 := hr6.c4; have y0 := Blk.frozen hr6 0; have y1 := Blk.frozen hr6 1; have y2 := Blk.frozen hr6 2; have y3 := Blk.frozen hr6 3; have y4 := Blk.frozen hr6 4; clear hr6 hrow hb6))
  have hr6 := HR5.out
  have l2 : q + 1 < W2.heap.size := Blk.lt HN.out
  have l3 : W2.heap.size ≤ w3.heap.size := HB3.out.size
  have l4 : w3.heap.size ≤ w4.heap.size := H4.out.2.2.2.2.size
  have l5 : w4.heap.size ≤ w5.heap.size := HB5.out.size
  have l6 : w5.heap.size ≤ w6.heap.size := HB6.out.size
  have hr7 := ((((hr6.s0 (.int .i64 t.f0)).s1 (.bool t.f1)).s2 (.int .u64 t.f2)).s3 (.string t.f3)).s4 (.slice a t.f4.length c)
  have hbq : Below q w w6 := (HB2.out.trans (HB3.out.mono (by omega))).trans ((H4.out.2.2.2.2.mono (by omega)).trans ((HB5.out.mono (by omega)).trans (HB6.out.mono (by omega))))
  have hb7 := ((((hbq.setCell (p := ⟨q + 1, 0, none⟩) (Nat.le_succ q) (.int .i64 t.f0)).setCell (p := ⟨q + 1, 1, none⟩) (Nat.le_succ q) (.bool t.f1)).setCell (p := ⟨q + 1, 2, none⟩) (Nat.le_succ q) (.int .u64 t.f2)).setCell (p := ⟨q + 1, 3, none⟩) (Nat.le_succ q) (.string t.f3)).setCell (p := ⟨q + 1, 4, none⟩) (Nat.le_succ q) (.slice a t.f4.length c)
  have hk : ∀ g, g ≠ q + 1 → (((((w6.setCell ⟨q + 1, 0, none⟩ (.int .i64 t.f0)).setCell ⟨q + 1, 1, none⟩ (.bool t.f1)).setCell ⟨q + 1, 2, none⟩ (.int .u64 t.f2)).setCell ⟨q + 1, 3, none⟩ (.string t.f3)).setCell ⟨q + 1, 4, none⟩ (.slice a t.f4.length c)).heap[g]? = w6.heap[g]? := fun g hg => by
    rw [Below.heap_setCell _ ⟨q + 1, 4, none⟩ _ g hg, Below.heap_setCell _ ⟨q + 1, 3, none⟩ _ g hg, Below.heap_setCell _ ⟨q + 1, 2, none⟩ _ g hg, Below.heap_setCell _ ⟨q + 1, 1, none⟩ _ g hg, Below.heap_setCell _ ⟨q + 1, 0, none⟩ _ g hg]
  have hs : w6.heap.size ≤ (((((w6.setCell ⟨q + 1, 0, none⟩ (.int .i64 t.f0)).setCell ⟨q + 1, 1, none⟩ (.bool t.f1)).setCell ⟨q + 1, 2, none⟩ (.int .u64 t.f2)).setCell ⟨q + 1, 3, none⟩ (.string t.f3)).setCell ⟨q + 1, 4, none⟩ (.slice a t.f4.length c)).heap.size := by simp
  generalize (((((w6.setCell ⟨q + 1, 0, none⟩ (.int .i64 t.f0)).setCell ⟨q + 1, 1, none⟩ (.bool t.f1)).setCell ⟨q + 1, 2, none⟩ (.int .u64 t.f2)).setCell ⟨q + 1, 3, none⟩ (.string t.f3)).setCell ⟨q + 1, 4, none⟩ (.slice a t.f4.length c)) = W7 at hr7 hb7 hk hs ⊢
  have e0 := hr7.c0
  have e1 := hr7.c1
  have e2 := hr7.c2
  have e3 := hr7.c3
  have e4 := hr7.c4
  have hrow7 : RowOk W7 (fun g => w.heap.size ≤ g ∧ g < W7.heap.size) (t, a, c) := HR6.out.keep (fun g hg => ⟨by omega, by omega⟩) (fun g hg => hk g (by omega))
  subst hq
  exact bodyPost_ret (v := .tuple #[treeV t a c, .int .i64 n, .int .i64 0]) (by simp [results, Tryz.results7, go_sem, e0, e1, e2, e3, e4, treeV]) rfl ⟨a, c, rfl, hrow7, hb7⟩
end Go.Proofs.YtfmceonbejlhlaaGreatDoor
