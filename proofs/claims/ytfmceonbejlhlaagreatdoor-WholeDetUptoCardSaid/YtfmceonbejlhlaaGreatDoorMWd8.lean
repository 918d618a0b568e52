import Derived.BigQuiet
import Derived.Deep.QuietTactic
import Derived.BigRegion
import Derived.Test.YtfmceonbejlhlaaGreatDoorMWd7
/-
  cbor's Reader: its block, its small methods.
-/
namespace Go.Proofs.YtfmceonbejlhlaaGreatDoor
open Go.RowKit Go.Proofs.YtfmceonbejlhlaaGreatDoorW.PrintWords Go.Proofs.YtfmceonbejlhlaaGreatDoorW.PrintLast Go.Proofs.YtfmceonbejlhlaaGreatDoorW.PrintMore
set_option linter.unusedVariables false

/-- The reader's block. -/
def Rb (W : World) (rp bp bg n cap pos : Nat) : Prop := Blk W rp 85 #[.pointer (some ⟨bp, 0, none⟩), .slice (some ⟨bg, 0, none⟩) n cap, .int .i64 64, .int .i64 1048576, .bool false, .int .i64 pos, .bool false]
section
variable {W : World} {rp bp bg n cap pos : Nat} (h : Rb W rp bp bg n cap pos)
include h
theorem Rb.c0 : W.cell? ⟨rp, 0, none⟩ = some (.pointer (some ⟨bp, 0, none⟩)) := Blk.cell h rfl
theorem Rb.c1 : W.cell? ⟨rp, 1, none⟩ = some (.slice (some ⟨bg, 0, none⟩) n cap) := Blk.cell h rfl
theorem Rb.c3 : W.cell? ⟨rp, 3, none⟩ = some (.int .i64 1048576) := Blk.cell h rfl
theorem Rb.c5 : W.cell? ⟨rp, 5, none⟩ = some (.int .i64 pos) := Blk.cell h rfl
theorem Rb.fz (j : Nat) : W.frozen? ⟨rp, j, none⟩ = false := Blk.frozen h j
theorem Rb.lt : rp < W.heap.size := Blk.lt h
theorem Rb.ty : TyIs W rp 85 := ⟨_, _, h⟩
theorem Rb.below {W1 : World} (hb : Below W.heap.size W W1) : Rb W1 rp bp bg n cap pos := (hb.block rp h.lt).trans h
theorem Rb.set (p : Nat) : Rb (W.setCell ⟨rp, 5, none⟩ (.int .i64 p)) rp bp bg n cap p := Blk.set_ h 5 _
theorem Rb.keep {W1 : World} (hk : KeepT Bt W W1) : Rb W1 rp bp bg n cap pos := hk.blk h (by intro h; rcases h with h | h | h <;> cases h)
end
theorem fail_no (rp : Nat) (a e : Int) (w : World) : Calls Tryz.prog 73 #[.pointer (some ⟨rp, 0, none⟩), .bool false, .int .i64 a, .int .i64 e] w fun en w' => en = .returned (.tuple #[]) ∧ w' = w := by
  go_enter Tryz.func73, Tryz.ntmps73
  go_wp2
  go_end0
  exact ⟨rfl, rfl⟩
theorem below_drewN (B : Nat) (w : World) (k : Nat) : Below B w (w.drewN k) := ⟨rfl, rfl, rfl, Nat.le_refl _, fun _ _ => rfl⟩
/-- What may be looked at. -/
def RestPost (bg n cap pos : Nat) (w : World) (e : Ending) (w' : World) : Prop := ∃ o, e = .returned (.slice (some ⟨bg, o, none⟩) (n - pos) (cap - pos)) ∧ (pos < n → o = pos) ∧ ∃ k, w' = w.drewN k
set_option maxRecDepth 100000 in
set_option maxHeartbeats 4000000 in
theorem rest_any (rp bp bg n cap pos : Nat) (w : World) (h : Rb w rp bp bg n cap pos) (h1 : pos ≤ n) (h2 : n ≤ cap) (h3 : n ≤ 1048576) : Calls Tryz.prog 111 #[.pointer (some ⟨rp, 0, none⟩)] w (RestPost bg n cap pos w) := by
  have c1 := h.c1
  have c3 := h.c3
  have c5 := h.c5
  clear h
  have hn3 : (n : Int) ≤ 1048576 := by omega
  have hp3 : (pos : Int) ≤ n := by omega
  go_enter Tryz.func111, Tryz.ntmps111
  go_wp2_with fail
  go_quiet (fail)
  go_wp2
  · refine bodyPost_ret (v := .slice (some ⟨bg, 0, none⟩) (n - pos) 0) (by simp [results, Tryz.results111, go_sem]) rfl ⟨0, by rw [Nat.sub_self], (fun hlt => by omega), nq, rfl⟩
  · exact bodyPost_ret (v := .slice (some ⟨bg, pos, none⟩) (n - pos) (cap - pos)) (by simp [results, Tryz.results111, go_sem]) rfl ⟨pos, rfl, fun _ => rfl, nq, rfl⟩
end Go.Proofs.YtfmceonbejlhlaaGreatDoor
