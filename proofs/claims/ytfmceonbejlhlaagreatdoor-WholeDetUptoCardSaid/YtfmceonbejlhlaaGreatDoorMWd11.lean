import Derived.Recover
import Derived.Defers
import Derived.Test.YtfmceonbejlhlaaGreatDoorMWd10
/-
  event's New, Value; cbor's NewReader.
-/
namespace Go.Proofs.YtfmceonbejlhlaaGreatDoor
open Go.RowKit Go.Proofs.YtfmceonbejlhlaaGreatDoorW.PrintWords Go.Proofs.YtfmceonbejlhlaaGreatDoorW.PrintLast Go.Proofs.YtfmceonbejlhlaaGreatDoorW.PrintMore
set_option linter.unusedVariables false

/-- A tree handed back, its cells. -/
def treeV (t : T) (a : Option Addr) (c : Nat) : Value := .agg #[.int .i64 t.f0, .bool t.f1, .int .u64 t.f2, .string t.f3, .slice a t.f4.length c]
set_option maxRecDepth 100000 in
set_option maxHeartbeats 4000000 in
theorem value_bb (bp count : Nat) (t : T) (ov : Value) (a : Option Addr) (c : Nat) (w : World) (hB : Bb w bp ov true (.int .i64 t.f0) (.bool t.f1) (.int .u64 t.f2) (.string t.f3) (.slice a t.f4.length c) count) :
    Calls Tryz.prog 44 #[.pointer (some ⟨bp, 0, none⟩)] w fun e w' => e = .returned (.tuple #[treeV t a c, .int .i64 0]) ∧ Below w.heap.size w w' := by
  have hlt : bp < w.heap.size := Blk.lt hB
  obtain ⟨k, neg, n, s, l⟩ := t
  have hb1 := (Below.refl w.heap.size w).alloc (Nat.le_refl _) (.cells #[.int .i64 0, .bool false, .int .u64 0, .string ⟨#[]⟩, .slice none 0 0] 25)
  have hB1 := hB.alloc (.cells #[.int .i64 0, .bool false, .int .u64 0, .string ⟨#[]⟩, .slice none 0 0] 25)
  have hN := Blk.new w 25 #[.int .i64 0, .bool false, .int .u64 0, .string ⟨#[]⟩, .slice none 0 0]
  have HN := Lib.hid (none_any bp _ hB1.c0)
  obtain ⟨W1, hW⟩ : ∃ W1, w.alloc (.cells #[.int .i64 0, .bool false, .int .u64 0, .string ⟨#[]⟩, .slice none 0 0] 25) = W1 := ⟨_, rfl⟩
  rw [hW] at hb1 hB1 HN hN
  have c0 := hB1.c0
  have c2 := hB1.c2
  have c3 := hB1.c3
  have c4 := hB1.c4
  have c5 := hB1.c5
  have c6 := hB1.c6
  have c7 := hB1.c7
  have f0 := Blk.frozen hN 0
  have d0 := hN.cell (i := 0) rfl
  have f1 := Blk.frozen hN 1
  have d1 := hN.cell (i := 1) rfl
  have f2 := Blk.frozen hN 2
  have d2 := hN.cell (i := 2) rfl
  have f3 := Blk.frozen hN 3
  have d3 := hN.cell (i := 3) rfl
  have f4 := Blk.frozen hN 4
  have d4 := hN.cell (i := 4) rfl
  obtain ⟨q, hq⟩ : ∃ q, w.heap.size = q := ⟨_, rfl⟩
  rw [hq] at hb1 hN f0 d0 f1 d1 f2 d2 f3 d3 f4 d4
  have RB := Lib.hid hb1
  have RN := Lib.hid hN
  clear hB hB1 hb1 hN
  simp only [List.getElem_toArray, List.getElem_cons_zero, List.getElem_cons_succ] at d0 d1 d2 d3 d4
  go_enter Tryz.func44, Tryz.ntmps44
  go_wp2_with (go_at_call 71; refine HN.out.mono ?_; rintro e w1 ⟨rfl, rfl⟩)
  have hr : Row5 w1 q (.int .i64 0) (.bool false) (.int .u64 0) (.string ⟨#[]⟩) (.slice none 0 0) := RN.out
  have hr5 := ((((hr.s0 (.int .i64 k)).s1 (.bool neg)).s2 (.int .u64 n)).s3 (.string s)).s4 (.slice a l.length c)
  have hb5 := ((((RB.out.setCell (p := ⟨q, 0, none⟩) (Nat.le_refl _) (.int .i64 k)).setCell (p := ⟨q, 1, none⟩) (Nat.le_refl _) (.bool neg)).setCell (p := ⟨q, 2, none⟩) (Nat.le_refl _) (.int .u64 n)).setCell (p := ⟨q, 3, none⟩) (Nat.le_refl _) (.string s)).setCell (p := ⟨q, 4, none⟩) (Nat.le_refl _) (.slice a l.length c)
  generalize (((((w1.setCell ⟨q, 0, none⟩ (.int .i64 k)).setCell ⟨q, 1, none⟩ (.bool neg)).setCell ⟨q, 2, none⟩ (.int .u64 n)).setCell ⟨q, 3, none⟩ (.string s)).setCell ⟨q, 4, none⟩ (.slice a l.length c)) = W5 at hr5 hb5 ⊢
  have e0 := hr5.c0
  have e1 := hr5.c1
  have e2 := hr5.c2
  have e3 := hr5.c3
  have e4 := hr5.c4
  subst hq
  exact bodyPost_ret (v := .tuple #[treeV ⟨k, neg, n, s, l⟩ a c, .int .i64 0]) (by simp [results, Tryz.results44, go_sem, e0, e1, e2, e3, e4, treeV]) rfl ⟨rfl, hb5⟩
theorem build_whole {base bp count : Nat} {t : T} {w : World} (h : BuildIs w base bp [] (some t) count) : ∃ ov a c, Bb w bp ov true (.int .i64 t.f0) (.bool t.f1) (.int .u64 t.f2) (.string t.f3) (.slice a t.f4.length c) count ∧ RowOk w (fun g => base ≤ g ∧ g < w.heap.size) (t, a, c) := by
  obtain ⟨ov, rs, hO, hst, hbp, a, c, hB, hrow⟩ := h
  exact ⟨ov, a, c, hB, hrow.mono fun g hg => ⟨Nat.not_lt.1 hg.2.2, hg.1.lt⟩⟩
set_option maxRecDepth 100000 in
theorem new_any (w : World) : Calls Tryz.prog 41 #[.int .i64 64] w fun e w' => e = .returned (.pointer (some ⟨w.heap.size, 0, none⟩)) ∧ w' = w.alloc (.cells #[.bool true, .slice none 0 0, .bool false, .int .i64 0, .bool false, .int .u64 0, .string ⟨#[]⟩, .slice none 0 0, .int .i64 0, .int .i64 64] 122) := by
  go_enter Tryz.func41, Tryz.ntmps41
  go_wp2
  go_ret
  exact ⟨rfl, rfl⟩
theorem right_64 (b : Value) (w : World) : Calls Tryz.prog 19 #[.agg #[.int .i64 64, .int .i64 1048576, b]] w (Ret (.bool true) w) := by
  have R := Blk.new w 36 #[.int .i64 64, .int .i64 1048576, b]
  have c0 := R.cell (i := 0) rfl
  have c1 := R.cell (i := 1) rfl
  clear R
  simp only [List.getElem_toArray, List.getElem_cons_zero, List.getElem_cons_succ] at c0 c1
  go_enter Tryz.func19, Tryz.ntmps19
  go_wp2
  go_ret
  exact ⟨rfl, (Below.refl _ _).alloc (Nat.le_refl _) _⟩
theorem fault_none (w : World) : Calls Tryz.prog 43 #[.pointer none] w fun e w' => e = .returned .nilIface ∧ w' = w := by
  go_enter Tryz.func43, Tryz.ntmps43
  go_wp2
  go_ret
  exact ⟨rfl, rfl⟩
theorem as_none (v : Value) (w : World) : Calls Tryz.prog 42 #[.nilIface, v] w fun e w' => e = .returned (.bool false) ∧ w' = w := by
  go_enter Tryz.func42, Tryz.ntmps42
  go_wp2
  go_ret
  exact ⟨rfl, rfl⟩
/-- The deferred closure, nothing to recover. -/
theorem run1_idle (p : Addr) (w : World) : CallsD Tryz.prog 72 #[.pointer (some p)] .returning w fun e u' w' => e = .returned (.tuple #[]) ∧ u' = .returning ∧ w' = w := by
  refine callsD_of_wpS Tryz.func72 rfl fun c₀ cs hu => ?_
  apply wpS_seq
  apply wpS_region
  simp [wpOpsS, go_sem, recoverD, hu, Tryz.ntmps72, Exit.thenS]
  have hq : ∀ w : World, (binOp BinOp.eql 20 .nilIface .nilIface).run Tryz.prog w = .ok (.bool true) w := fun _ => by kernel_rfl
  refine wpS_of_wp ?_
  go_wp2
  cases c₀
  simp_all [bodyPostS, results, Tryz.results72]
section
variable {base rp bp bg n cap : Nat} {bs : List Int}
theorem Rs.newBlock {pos count : Nat} {st : List PartC} {wh : Option T} {w : World} (hrb : Rb w rp bp bg n cap pos) (hbuild : BuildIs w base bp st wh count) (hbytes : BytesAt w bg 0 bs) (hlen : bs.length = n) (hcap : n ≤ cap) (hsm : n ≤ 1048576) (hold : bg < base) (hnew : base ≤ rp) (hsz : base ≤ w.heap.size) (hat : pos ≤ n) :
    Rs base rp bp bg n cap w.heap.size bs pos st wh count (w.alloc (.cells #[.pointer none] 58)) := by
  have hb := (Below.refl w.heap.size w).alloc (Nat.le_refl _) (.cells #[.pointer none] 58)
  exact ⟨hrb.below hb, hbuild.alike (fun g t ht _ => hb.block g ht.lt), fun j b hj => (hb.cell (p := ⟨bg, 0 + j, none⟩) (Nat.lt_of_lt_of_le hold hsz)).trans (hbytes j b hj), hlen, hcap, hsm, hold, hnew, Nat.le_trans hsz hb.size, hat, Blk.new w 58 #[.pointer none]⟩
theorem Rs.setKept {qb pos count : Nat} {st : List PartC} {wh : Option T} {W : World} (h : Rs base rp bp bg n cap qb bs pos st wh count W) (hq : base ≤ qb) :
    Rs base rp bp bg n cap qb bs pos st wh count (W.setCell ⟨qb, 0, none⟩ (.pointer none)) ∧ Below base W (W.setCell ⟨qb, 0, none⟩ (.pointer none)) := by
  have hb := (Below.refl base W).setCell (p := ⟨qb, 0, none⟩) hq (.pointer none)
  have hty : TyIs W qb 58 := ⟨_, _, h.kept⟩
  refine ⟨⟨Blk.far (show Blk W rp 85 _ from h.rb) (p := ⟨qb, 0, none⟩) (ty_ne (s := 85) (t := 58) h.rb.ty hty (by decide)) _, h.build.alike (fun g t ht hB => Below.heap_setCell _ ⟨qb, 0, none⟩ _ g (ty_ne ht hty (by rintro rfl; rcases hB with h | h | h <;> cases h))), fun j b hj => (hb.cell (p := ⟨bg, 0 + j, none⟩) h.old).trans (h.bytes j b hj), h.len, h.cap_, h.small, h.old, h.new, Nat.le_trans h.size hb.size, h.at_, Blk.set_ h.kept 0 (.pointer none)⟩, hb⟩
set_option maxRecDepth 100000 in
set_option maxHeartbeats 4000000 in
theorem run_any (t : T) (count : Nat) (w : World) (hsz : base ≤ w.heap.size) (h : Rs base rp bp bg n cap w.heap.size bs 0 [] none 0 (w.alloc (.cells #[.pointer none] 58)))
    (hI : ∀ W, Rs base rp bp bg n cap w.heap.size bs 0 [] none 0 W → Calls Tryz.prog 46 #[.pointer (some ⟨rp, 0, none⟩)] W (ReadPost base rp bp bg n cap w.heap.size bs (.tuple #[]) n [] (some t) count W)) :
    Calls Tryz.prog 45 #[.pointer (some ⟨rp, 0, none⟩), .func (.func 46) #[.pointer (some ⟨rp, 0, none⟩)] #[]] w fun e w' => e = .returned (.pointer none) ∧ Rs base rp bp bg n cap w.heap.size bs n [] (some t) count w' ∧ Below base w w' := by
  have hmf : ∀ (fn : Fn) (first cap : Array Value) (w : World), (Instr.makeFunc fn first cap).run Tryz.prog w = .ok (.func fn first cap) w := fun _ _ _ _ => rfl
  have hb0 := (Below.refl base w).alloc hsz (.cells #[.pointer none] 58)
  have HI := Lib.hid (hI _ h)
  obtain ⟨q, hq⟩ : ∃ q, w.heap.size = q := ⟨_, rfl⟩
  rw [hq] at HI
  clear h hI
  go_enter_defers Tryz.func45, Tryz.ntmps45
  go_wp2_with (go_at_call 46; refine HI.out.mono ?_; rintro e w2 ⟨rfl, h2, hb2⟩; have H2 := Lib.hid h2; clear h2)
  have c1 := H2.out.rb.c1
  have c5 := H2.out.rb.c5
  go_quiet ((go_at_call 73; exact Calls.quiet_of_same (fail_no _ _ _ _)))
  have k0 : ∀ k, (w2.drewN k).cell? ⟨q, 0, none⟩ = some (.pointer none) := fun k => H2.out.kept.cell (i := 0) rfl
  have kf : ∀ k, (w2.drewN k).frozen? ⟨q, 0, none⟩ = false := fun k => Blk.frozen H2.out.kept 0
  go_wp2
  have hS := (H2.out.below (below_drewN _ w2 nq)).setKept (by omega)
  refine leaves_cons (f := 72) (args := #[.pointer (some ⟨q, 0, none⟩)]) (by simp) (by simp [go_sem]) ?_
  refine (run1_idle ⟨q, 0, none⟩ _).mono ?_
  rintro e u' w'' ⟨rfl, rfl, rfl⟩
  have hc := hS.1.kept.cell (i := 0) rfl
  have hbb := hb0.trans (hb2.trans ((below_drewN _ _ _).trans hS.2))
  subst hq
  simp only [List.getElem_toArray, List.getElem_cons_zero] at hc
  generalize (w2.drewN nq).setCell ⟨w.heap.size, 0, none⟩ (.pointer none) = W5 at hS hc hbb ⊢
  have HS := Lib.hid hS.1
  have HB := Lib.hid hbb
  clear hS hbb
  simp [Leaves, settle, results, Tryz.results45, go_sem, hc]
  exact ⟨HS.out, HB.out⟩
end
end Go.Proofs.YtfmceonbejlhlaaGreatDoor
