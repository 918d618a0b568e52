/-
  Plain words for UTF-8: the machine's states, what a whole text is told, code points. No program in sight.
-/
import Derived.Test.YtlbokaekhjjabaaRowx
namespace Go.Proofs.Ytlbokaekhjjabaa

/-- How many bytes are left; the next between what. -/
abbrev St := Int × Int × Int
def st0 : St := (0, 0, 0)

/-- One byte; room: so many bytes may follow at most (below 0: any number). -/
def stp (st : St) (c room : Int) : Option St :=
  if st.1 > 0 then (if c < st.2.1 ∨ c > st.2.2 then none else some (st.1 - 1, 128, 191))
  else if (rowOf leadRows c).2.2.1 = 0 ∨ (0 ≤ room ∧ (rowOf leadRows c).2.2.1 - 1 > room) then none
  else some ((rowOf leadRows c).2.2.1 - 1, (rowOf leadRows c).2.2.2.1, (rowOf leadRows c).2.2.2.2)

theorem rowOf_n (c : Int) : 0 ≤ (rowOf leadRows c).2.2.1 ∧ (rowOf leadRows c).2.2.1 ≤ 4 := by
  simp only [leadRows, rowOf]
  repeat' split
  all_goals simp

theorem stp_left {st st' : St} {c room : Int} (h : stp st c room = some st') (h0 : 0 ≤ st.1 ∧ st.1 ≤ 3) : 0 ≤ st'.1 ∧ st'.1 ≤ 3 := by
  have hn := rowOf_n c
  unfold stp at h
  split at h
  · split at h
    · cases h
    · cases h; simp; omega
  · split at h
    · cases h
    · cases h; simp; omega

/-- All of a text from a state on, its place the one ahead: how many bytes, the error (0, 3, 4). -/
def chkL : List UInt8 → St → Int → Int × Int
  | [], st, i => if st.1 > 0 then (i, 3) else (i, 0)
  | c :: t, st, i => match stp st c.toNat (-1) with
    | none => (i, 4)
    | some st' => chkL t st' (i + 1)
def chk (s : ByteArray) : Int × Int := chkL s.data.toList st0 0

/-- Likewise within n bytes. -/
def wthL (n : Int) : List UInt8 → St → Int → Int × Int
  | [], _, i => if i < n then (i, 3) else (n, 0)
  | c :: t, st, i => if i < n then (match stp st c.toNat (n - 1 - i) with
    | none => (i, 4)
    | some st' => wthL n t st' (i + 1)) else (n, 0)
def wth (s : ByteArray) (n : Int) : Int × Int := wthL (max n 0) s.data.toList st0 0

end Go.Proofs.Ytlbokaekhjjabaa
