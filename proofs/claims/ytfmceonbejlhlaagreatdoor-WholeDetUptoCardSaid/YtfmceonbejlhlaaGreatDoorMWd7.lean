import Derived.IntWalk
import Derived.Test.YtfmceonbejlhlaaGreatDoorMWd6
/-
  event's Build: add.
-/
namespace Go.Proofs.YtfmceonbejlhlaaGreatDoor
open Go.RowKit Go.Proofs.YtfmceonbejlhlaaGreatDoorW.PrintWords Go.Proofs.YtfmceonbejlhlaaGreatDoorW.PrintLast Go.Proofs.YtfmceonbejlhlaaGreatDoorW.PrintMore
set_option linter.unusedVariables false

theorem open_len {W : World} {base : Nat} {X : Nat → Prop} {ov : Value} {rs : List Raw} (h : OpenIs W base X ov rs) : ∃ a c, ov = .slice a rs.length c := by
  rcases h.1.2 with ⟨e, h0⟩ | ⟨g, cap, cur, e, _⟩
  · exact ⟨none, 0, by rw [e, h0]⟩
  · exact ⟨_, _, e⟩
theorem open_ne {wr : World} {og g2 : Nat} {v : Value} {o : Obj} (h : ∀ g2, v.ownBlock = some g2 → og ≠ g2) (hlt : og < wr.heap.size) (hor : v.ownBlock = some g2 ∨ g2 = ((wr.alloc o).drew).heap.size) : og ≠ g2 := by
  rcases hor with h1 | h1
  · exact h g2 h1
  · intro e; simp at h1; omega
theorem open_start {w W : World} {base : Nat} {ov : Value} {rs : List Raw} (h : OpenIs w base (Lo base) ov rs) (hb : Below w.heap.size w W) : OpenIs W base (Qo base w.heap.size) ov rs := by
  have hs : ∀ g, Still w (Lo base) rs g → Still W (Qo base w.heap.size) rs g := fun g hg => ⟨(hg.below hb).1, hg.2.1, fun h => h.elim (Nat.ne_of_lt hg.1.lt) hg.2.2⟩
  exact ⟨own_move h.1 fun k hk => hb.block k (own_lt h.1 k hk), fun r hr => ⟨own_move (h.2.1 r hr).1 fun k hk => hb.block k (own_lt (h.2.1 r hr).1 k hk), fun x hx => ((h.2.1 r hr).2 x hx).keep hs (fun g hg => hg.same hb)⟩, h.2.2⟩
theorem row_start {w W : World} {base : Nat} {rs : List Raw} {x : RowT} (h : RowOk w (Still w (Lo base) rs) x) (hb : Below w.heap.size w W) : RowOk W (Still W (Qo base w.heap.size) rs) x :=
  h.keep (fun g hg => ⟨(hg.below hb).1, hg.2.1, fun h => h.elim (Nat.ne_of_lt hg.1.lt) hg.2.2⟩) (fun g hg => hg.same hb)
theorem news_zero (W : World) (j : Nat) (u : Value) (hu : zero5[j]? = some u) : ((W.alloc (.cells #[.int .i64 0, .bool false, .int .u64 0, .string ⟨#[]⟩, .slice none 0 0] 25)).drew).cell? ((⟨W.heap.size, 0, none⟩ : Addr).add j) = some u := by
  rw [WideShapes.add_plain, Nat.zero_add]
  exact (cell_of_row _ _ j _ _ _ (heap_alloc_new W _)).trans (by rw [← hu]; simp [zero5])

set_option maxRecDepth 100000 in
set_option maxHeartbeats 8000000 in
theorem add_any (base bp : Nat) (rs0 : List Raw) (ov : Value) (x0 : RowT) (count : Nat) (w : World) (hbase : base ≤ w.heap.size) (hbp : base ≤ bp) (hO : OpenIs w base (Lo base) ov rs0) (hB : Bb w bp ov false (.int .i64 0) (.bool false) (.int .u64 0) (.string ⟨#[]⟩) (.slice none 0 0) count) (hx : RowOk w (Still w (Lo base) rs0) x0)
    (hlen : rs0.length ≤ 4294967296) (hrows : ∀ r ∈ rs0, r.rows.length ≤ 4294967296) :
    Calls Tryz.prog 118 #[.pointer (some ⟨bp, 0, none⟩), .agg #[.int .i64 x0.1.f0, .bool x0.1.f1, .int .u64 x0.1.f2, .string x0.1.f3, .slice x0.2.1 x0.1.f4.length x0.2.2]] w (BuildPost base bp (.tuple #[]) (addC (rs0.map Raw.c) x0.1).1 (addC (rs0.map Raw.c) x0.1).2 count w) := by
  obtain ⟨oa, oc, hov⟩ := open_len hO
  have hbel := (Below.refl _ w).alloc (Nat.le_refl _) (.cells #[.int .i64 x0.1.f0, .bool x0.1.f1, .int .u64 x0.1.f2, .string x0.1.f3, .slice x0.2.1 x0.1.f4.length x0.2.2] 25)
  have R0 := Row5.new w (.int .i64 x0.1.f0) (.bool x0.1.f1) (.int .u64 x0.1.f2) (.string x0.1.f3) (.slice x0.2.1 x0.1.f4.length x0.2.2)
  have hO1 : OpenIs (w.alloc (.cells #[.int .i64 x0.1.f0, .bool x0.1.f1, .int .u64 x0.1.f2, .string x0.1.f3, .slice x0.2.1 x0.1.f4.length x0.2.2] 25)) base (Qo base w.heap.size) ov rs0 := open_start hO hbel
  have hx1 := row_start hx hbel
  have hB1 := hB.alloc (.cells #[.int .i64 x0.1.f0, .bool x0.1.f1, .int .u64 x0.1.f2, .string x0.1.f3, .slice x0.2.1 x0.1.f4.length x0.2.2] 25)
  have hI : AddInv base bp w.heap.size count (rs0.map Raw.c) x0.1 w (.int .i64 ((rs0.length : Int) - 1)) (w.alloc (.cells #[.int .i64 x0.1.f0, .bool x0.1.f1, .int .u64 x0.1.f2, .string x0.1.f3, .slice x0.2.1 x0.1.f4.length x0.2.2] 25)) :=
    ⟨rs0, x0, ov, rfl, hO1, hB1, R0, hx1, rfl, Built.of_below hbel hbase, hlen, hrows, fun g hg => Nat.ne_of_lt (lists_lt hO hg).2.lt⟩
  have HI := Lib.hid hI
  have c1 := hB1.c1
  rw [hov] at c1
  clear hI hO1 hx1 hO hB hx hrows hB1 R0 hbel
  have hlt : (rs0.length : Int) ≤ 4294967296 := by omega
  go_enter Tryz.func118, Tryz.ntmps118
  go_wp2
  go_loopw [4] (AddInv base bp w.heap.size count (rs0.map Raw.c) x0.1 w) (fun n _ => (intOf n + 1).toNat)
  case atStart => exact HI.out
  case round =>
    obtain ⟨rs, x, ov, rfl, hO, hB, hq, hx, hadd, hbt, hlen, hrows, hL⟩ := hrel
    have hbr := Nat.le_trans hbase hbt.size
    match rs, hO, hB, hq, hx, hadd, hlen, hrows, hL with
    | [], hO, hB, hq, hx, hadd, hlen, hrows, hL =>
      have q0 := hq.c0
      have q1 := hq.c1
      have q2 := hq.c2
      have q3 := hq.c3
      have q4 := hq.c4
      have k0 := hB.c3
      have kf := hB.fz 3
      have k1 := fun a => (hB.set3 a).c4
      have kf1 := fun a => (hB.set3 a).fz 4
      have k2 := fun a b => ((hB.set3 a).set4 b).c5
      have kf2 := fun a b => ((hB.set3 a).set4 b).fz 5
      have k3 := fun a b c => (((hB.set3 a).set4 b).set5 c).c6
      have kf3 := fun a b c => (((hB.set3 a).set4 b).set5 c).fz 6
      have k4 := fun a b c d => ((((hB.set3 a).set4 b).set5 c).set6 d).c7
      have kf4 := fun a b c d => ((((hB.set3 a).set4 b).set5 c).set6 d).fz 7
      have k5 := fun a b c d e => (((((hB.set3 a).set4 b).set5 c).set6 d).set7 e).c2
      have kf5 := fun a b c d e => (((((hB.set3 a).set4 b).set5 c).set6 d).set7 e).fz 2
      have HE := Lib.hid (add_done hO hB hq hx hbt hbp)
      have HA := Lib.hid hadd
      clear hO hB hq hx hadd hlen hrows hL
      go_wp2
      go_end0
      refine ⟨rfl, ?_⟩
      rw [← HA.out]
      exact HE.out _ rfl
    | p :: rest, hO, hB, hq, hx, hadd, hlen, hrows, hL =>
      obtain ⟨og, oc, rfl, hoc⟩ := hO.form
      obtain ⟨la, lc, hlv⟩ := hO.lvForm (List.mem_cons_self ..)
      obtain ⟨m, hm⟩ : ∃ m, p.rows.length = m := ⟨_, rfl⟩
      obtain ⟨n, hn⟩ : ∃ n, rest.length = n := ⟨_, rfl⟩
      have hm2 : m ≤ 4294967296 := by rw [← hm]; exact hrows p (List.mem_cons_self ..)
      have hn2 : n + 1 ≤ 4294967296 := by rw [← hn]; simpa using hlen
      rw [hm] at hlv
      obtain ⟨e0, e1, e2, e3, e4⟩ := hO.top hn
      rw [hlv] at e4
      have hlen1 : (((p :: rest).length : Int) - 1) = n := by rw [List.length_cons, hn]; omega
      have b1 := hB.c1
      rw [hn] at b1
      have q0 := hq.c0
      have q1 := hq.c1
      have q2 := hq.c2
      have q3 := hq.c3
      have q4 := hq.c4
      rw [hlen1]
      have hAl : ∀ o, Below wr.heap.size wr (wr.alloc o) := fun o => (Below.refl _ _).alloc (Nat.le_refl _) o
      have q0' := fun o => (hq.alloc o).c0
      have q1' := fun o => (hq.alloc o).c1
      have q2' := fun o => (hq.alloc o).c2
      have q3' := fun o => (hq.alloc o).c3
      have q4' := fun o => (hq.alloc o).c4
      have hpr := (hO.2.1 p (List.mem_cons_self ..)).1
      rw [hlv, hm] at hpr
      have HR := Lib.hid ((hpr.alloc (.cells #[.int .i64 0, .bool false, .int .u64 0, .string ⟨#[]⟩, .slice none 0 0] 25)).drew)
      have HO := Lib.hid hO
      have HB := Lib.hid hB
      have HQ := Lib.hid hq
      have HX := Lib.hid hx
      have HL := Lib.hid hL
      have HA := Lib.hid hadd
      have HM := Lib.hid hm
      have HLen : Hid (rest.length ≤ 4294967296 ∧ ∀ r ∈ rest, r.rows.length ≤ 4294967296) := Lib.hid ⟨by omega, fun r hr => hrows r (List.mem_cons_of_mem _ hr)⟩
      have HNO : Hid (n ≤ oc) := Lib.hid (by omega)
      have HN := Lib.hid hn
      have HLV := Lib.hid hlv
      have HZ := Lib.hid ((hAl (.cells #[.int .i64 0, .bool false, .int .u64 0, .string ⟨#[]⟩, .slice none 0 0] 25)).drew)
      have HBs : Hid (base ≤ ((wr.alloc (.cells #[.int .i64 0, .bool false, .int .u64 0, .string ⟨#[]⟩, .slice none 0 0] 25)).drew).heap.size) := Lib.hid (Nat.le_trans hbr (by simp))
      have hogT : TyIs wr og 220 := by obtain ⟨cs, hc⟩ := own_typed hO.1 og rfl; exact ⟨cs, _, hc⟩
      have HOG : Hid (og < wr.heap.size ∧ some og ≠ (Value.slice la m lc).ownBlock ∧ ∀ g2, (Value.slice la m lc).ownBlock = some g2 → og ≠ g2) := Lib.hid ⟨hogT.lt, (fun e => by
        rw [← hlv] at e
        obtain ⟨cs, hc⟩ := own_typed (hO.2.1 p (List.mem_cons_self ..)).1 og e.symm
        exact ty_ne hogT ⟨cs, _, hc⟩ (by decide) rfl), (fun g2 e => by
        rw [← hlv] at e
        obtain ⟨cs, hc⟩ := own_typed (hO.2.1 p (List.mem_cons_self ..)).1 g2 e
        exact ty_ne hogT ⟨cs, _, hc⟩ (by decide))⟩
      have e4' : ∀ o, (wr.alloc o).cell? ⟨og, n * 5 + 4, none⟩ = some (.slice la m lc) := fun o => ((hAl o).cell (p := ⟨og, n * 5 + 4, none⟩) hogT.lt).trans e4
      have HE4 : Hid (∀ o, ((wr.alloc o).drew).cell? ⟨og, n * 5 + 4, none⟩ = some (.slice la m lc)) := Lib.hid (fun o => ((hAl o).cell (p := ⟨og, n * 5 + 4, none⟩) hogT.lt).trans e4)
      have HF4 : Hid (∀ o, ((wr.alloc o).drew).frozen? ⟨og, n * 5 + 4, none⟩ = false) := Lib.hid (fun o => ((hAl o).frozen (p := ⟨og, n * 5 + 4, none⟩) hogT.lt).trans (hO.topFrozen (n := n) _))
      obtain ⟨i0, hi, hz0, hz1, hz2⟩ := info_parts info25
      clear hO hB hx hL hadd hm hn hlv hlen hrows hlen1 hAl hpr hogT
      have hmm : (m : Int) < (m : Int) + 1 := by omega
      go_wp2_with fail
      go_region_law (refine step_append_lies _ rfl (.tmp 26) (.tmp 29) 23 rfl base 25 i0 (.agg #[.int .i64 0, .bool false, .int .u64 0, .string ⟨#[]⟩, .slice none 0 0]) 5 64 Tryz.underlying23 hi hz0 hz1 hz2 rfl (by decide) (.slice la m lc) m (rowsCells p.rows) (by first | rfl | simp [Act.eval]) HR.out ⟨wr.heap.size, 0, none⟩ 1 1 zero5 (by first | rfl | simp [Act.eval]) rfl (fun j u hu => news_zero wr j u hu) zero5_one (by decide) (by unfold maxLen; omega) (by omega) HBs.out _ rfl ?_
                     intro g2 c2 w2 hown hgr hor hg2lt
                     obtain ⟨⟨z0, y0⟩, z1, z2, z3, z4⟩ := zero_chain (by rw [rowsCells_len, HM.out]) hown
                     have z1c := fun a => (z1 a).1
                     have z1f := fun a => (z1 a).2
                     have z2c := fun a b => (z2 a b).1
                     have z2f := fun a b => (z2 a b).2
                     have z3c := fun a b c => (z3 a b c).1
                     have z3f := fun a b c => (z3 a b c).2
                     have z4c := fun a b c d => (z4 a b c d).1
                     have z4f := fun a b c d => (z4 a b c d).2
                     have z5 := fun a b c d e => open_chain hgr (by have := HOG.out.1; simp; omega) HOG.out.2.1 (open_ne HOG.out.2.2 HOG.out.1 hor) (n * 5 + 4) (HE4.out _) (HF4.out _) m a b c d e
                     have z5c := fun a b c d e => (z5 a b c d e).1
                     have z5f := fun a b c d e => (z5 a b c d e).2
                     have hne2 := open_ne HOG.out.2.2 HOG.out.1 hor
                     have z6 := open_first hgr (by have := HOG.out.1; simp; omega) HOG.out.2.1 (n * 5 + 4) (HE4.out _) (HF4.out _)
                     have z6c := z6.1
                     have z6f := z6.2
                     obtain ⟨⟨xz, v0⟩, x1, x2, x3, x4⟩ := zero_chain (by rw [rowsCells_len, HM.out]) (own_far (og := og) (i := n * 5 + 4) (s := .slice (some ⟨g2, 0, none⟩) (m + 1) c2) hown hne2)
                     have x1c := fun a => (x1 a).1
                     have x1f := fun a => (x1 a).2
                     have x2c := fun a b => (x2 a b).1
                     have x2f := fun a b => (x2 a b).2
                     have x3c := fun a b c => (x3 a b c).1
                     have x3f := fun a b c => (x3 a b c).2
                     have x4c := fun a b c d => (x4 a b c d).1
                     have x4f := fun a b c d => (x4 a b c d).2
                     have HSW := Lib.hid (fun a b c d e => chain_swap w2 hne2 (n * 5 + 4) m (.slice (some ⟨g2, 0, none⟩) (m + 1) c2) a b c d e)
                     have HP := Lib.hid (fun W4 h => push_all HO.out HB.out HQ.out HX.out HL.out hbr HZ.out HM.out HN.out hown (by rw [HLV.out]; exact hgr) (by rw [HLV.out]; exact hor) W4 h)
                     clear z1 z2 z3 z4 z5 z6 x1 x2 x3 x4 hown hgr hor hne2)
      all_goals
        obtain ⟨W4, hW4⟩ : ∃ W4, (((((w2.setCell ⟨g2, m * 5, none⟩ (.int .i64 x.1.f0)).setCell ⟨g2, m * 5 + 1, none⟩ (.bool x.1.f1)).setCell ⟨g2, m * 5 + 2, none⟩ (.int .u64 x.1.f2)).setCell ⟨g2, m * 5 + 3, none⟩ (.string x.1.f3)).setCell ⟨g2, m * 5 + 4, none⟩ (.slice x.2.1 x.1.f4.length x.2.2)).setCell ⟨og, n * 5 + 4, none⟩ (.slice (some ⟨g2, 0, none⟩) (m + 1) c2) = W4 := ⟨_, rfl⟩
        try rw [HSW.out]
        rw [hW4]
        obtain ⟨hO4, hB4, hq4, hbt4, hL4⟩ := HP.out W4 hW4
        clear hW4 HP HSW z0 y0 z1c z1f z2c z2f z3c z3f z4c z4f z5c z5f z6c z6f xz v0 x1c x1f x2c x2f x3c x3f x4c x4f
        clear e0 e1 e2 e3 e4 e4' b1 q0 q1 q2 q3 q4 q0' q1' q2' q3' q4' HE4 HF4 HOG HZ HBs HR hi hz0 hz1 hz2 HO HB HQ HX HL
        obtain ⟨e0, e1, e2, e3, e4⟩ := hO4.top HN.out
        dsimp only [Raw.push] at e0 e1 e2 e3 e4
        have b1 := hB4.c1
        have bf := hB4.fz 1
        by_cases hk : p.k = 13
        · have bk : (p.k == 13) = true := by simpa using hk
          have bk2 : (p.k != 13) = false := by simpa using hk
          have hpp := hO4.pop (fun g hg hQ => (show ∀ (_ : Lists _ g), False from fun hg' => hQ.elim (hL4 g hg') (fun h => absurd h (Nat.not_lt.2 (lists_lt hO4 hg').1))) (by obtain ⟨r, hr, hl⟩ := hg; rw [List.mem_singleton] at hr; subst hr; exact ⟨_, List.mem_cons_self .., hl⟩))
          have k0 := hq4.c0
          have kf := hq4.fz
          have k1 := fun a => (hq4.s0 a).c1
          have kf1 := fun a => (hq4.s0 a).fz 1
          have k2 := fun a b => ((hq4.s0 a).s1 b).c2
          have kf2 := fun a b => ((hq4.s0 a).s1 b).fz 2
          have k3 := fun a b c => (((hq4.s0 a).s1 b).s2 c).c3
          have kf3 := fun a b c => (((hq4.s0 a).s1 b).s2 c).fz 3
          have k4 := fun a b c d => ((((hq4.s0 a).s1 b).s2 c).s3 d).c4
          have kf4 := fun a b c d => ((((hq4.s0 a).s1 b).s2 c).s3 d).fz 4
          have hb5 : ∀ a b c d e, Bb (((((W4.setCell ⟨w.heap.size, 0, none⟩ a).setCell ⟨w.heap.size, 1, none⟩ b).setCell ⟨w.heap.size, 2, none⟩ c).setCell ⟨w.heap.size, 3, none⟩ d).setCell ⟨w.heap.size, 4, none⟩ e) bp (.slice (some ⟨og, 0, none⟩) (rest.length + 1) oc) false (.int .i64 0) (.bool false) (.int .u64 0) (.string ⟨#[]⟩) (.slice none 0 0) count := fun a b c d e => by
            have hne : bp ≠ w.heap.size := ty_ne hB4.ty hq4.ty (by decide)
            exact Blk.far (Blk.far (Blk.far (Blk.far (Blk.far hB4 (p := ⟨w.heap.size, 0, none⟩) hne a) (p := ⟨w.heap.size, 1, none⟩) hne b) (p := ⟨w.heap.size, 2, none⟩) hne c) (p := ⟨w.heap.size, 3, none⟩) hne d) (p := ⟨w.heap.size, 4, none⟩) hne e
          have hb5c := fun a b c d e => (hb5 a b c d e).c1
          have hb5f := fun a b c d e => (hb5 a b c d e).fz 1
          rw [HN.out] at b1 hb5c
          have HH := Lib.hid hpp
          have HB5 := Lib.hid hb5
          clear hpp hb5
          have hno : n ≤ oc := HNO.out
          go_wp2_with fail
          refine ⟨?_, by simp [intOf]⟩
          exact add_next HA.out hk HM.out HN.out HH.out hB4 hq4 (hbt.trans hbt4) hbase hbp hL4 HLen.out.1 HLen.out.2 _ rfl
        · have bk : (p.k == 13) = false := by simpa using hk
          have bk2 : (p.k != 13) = true := by simpa using hk
          rw [HN.out] at b1
          go_wp2
          go_end0
          have hadd : addC (rs0.map Raw.c) x0.1 = (⟨p.k, p.n, p.rows.map (·.1) ++ [x.1]⟩ :: rest.map Raw.c, none) := by
            rw [← HA.out, addC_cons, if_neg hk]
          rw [hadd]
          refine ⟨rfl, ⟨_, _, hO4.mono (fun g _ h => lo_qo g h), ?_, hbp, hB4⟩, hbt.trans hbt4⟩
          simp [Raw.push, Raw.c]
end Go.Proofs.YtfmceonbejlhlaaGreatDoor

/-
  event's Build: May (where an event may go on).
-/
namespace Go.Proofs.YtfmceonbejlhlaaGreatDoor
open Go.RowKit Go.Proofs.YtfmceonbejlhlaaGreatDoorW.PrintWords Go.Proofs.YtfmceonbejlhlaaGreatDoorW.PrintLast Go.Proofs.YtfmceonbejlhlaaGreatDoorW.PrintMore
set_option linter.unusedVariables false

theorem tree_row {W : World} {g : Nat} {k n : Int} {neg : Bool} {s : ByteArray} (h : Row5 W g (.int .i64 k) (.bool neg) (.int .u64 n) (.string s) (.slice none 0 0)) : Tree W (fun _ => True) ⟨13, false, 2, ⟨#[]⟩, [⟨k, neg, n, s, []⟩]⟩ (some ⟨g, 0, none⟩) := by
  simp only [Tree]
  refine ⟨by simp, .inr ⟨g, 0, rfl, trivial, ?_⟩⟩
  refine ⟨⟨none, 0, fun j v hv => ?_, by simp, by simp [Tree]⟩, trivial⟩
  rw [Nat.zero_add]
  have h1 := cell_of_row W g j _ _ _ h
  rw [h1]
  exact hv
set_option maxRecDepth 100000 in
set_option maxHeartbeats 8000000 in
theorem may_root (base bp : Nat) (ov : Value) (rs : List Raw) (count : Nat) (k : Int) (neg : Bool) (n : Int) (s : ByteArray) (w : World) (hs : s.size ≤ 1073741824) (hO : OpenIs w base (Lo base) ov rs) (hB : Bb w bp ov false (.int .i64 0) (.bool false) (.int .u64 0) (.string ⟨#[]⟩) (.slice none 0 0) count)
    (hr : rightF k neg n s = true) (hd : rs.length + depthF ⟨k, neg, n, s, []⟩ ≤ 64) (hc : count < 65536) (h0 : rs = []) :
    Calls Tryz.prog 146 #[.pointer (some ⟨bp, 0, none⟩), .agg #[.int .i64 k, .bool neg, .int .u64 n, .string s]] w (Ret (.int .i64 0) w) := by
  have hR := right_any k neg n s
  unfold RightPost at hR
  rw [hr] at hR
  have HR := Lib.hid (fun W => hR W (by omega))
  obtain ⟨d, hdd⟩ : ∃ d, depthF ⟨k, neg, n, s, []⟩ = d := ⟨_, rfl⟩
  have hDp : ∀ W, Calls Tryz.prog 15 #[.agg #[.int .i64 k, .bool neg, .int .u64 n, .string s, .slice none 0 0]] W (Ret (.int .i64 d) W) := fun W => by
    have := depth_any ⟨k, neg, n, s, []⟩ none 0 W (fun _ => False) (fun g h => h.elim) (by simp [Tree]) (by simp [bulk, bulkL]; omega)
    rw [hdd] at this
    exact this
  have HD := Lib.hid hDp
  rw [hdd] at hd
  clear hR hr hdd hDp
  have RE := Blk.new w 141 #[.int .i64 k, .bool neg, .int .u64 n, .string s]
  have e0 := RE.cell (i := 0) rfl
  have e1 := RE.cell (i := 1) rfl
  have e2 := RE.cell (i := 2) rfl
  have e3 := RE.cell (i := 3) rfl
  have hbE := (Below.refl _ w).alloc (Nat.le_refl _) (.cells #[.int .i64 k, .bool neg, .int .u64 n, .string s] 141)
  subst h0
  obtain ⟨oa, oc, rfl⟩ := open_len hO
  simp only [List.length_nil] at hd hB ⊢
  have qw : IntKind.i64.wrap (d : Int) = d := IntWalk.i64_in _ (by omega)
  have q1 : decide ((64 : Int) < (d : Int)) = false := by simp; omega
  have q2 : decide ((65536 : Int) ≤ (count : Int)) = false := by simp; omega
  have q3 : ((65536 : Int) ≤ (count : Int)) = False := by simp; omega
  have q4 : ((64 : Int) < (d : Int)) = False := by simp; omega
  go_enter Tryz.func146, Tryz.ntmps146
  go_wp2_with (first | (go_at_call 147; refine (HR.out _).mono ?_; rintro e w1 ⟨rfl, hb1⟩; have hB1 := (hB.alloc (.cells #[.int .i64 k, .bool neg, .int .u64 n, .string s] 141)).below hb1; have b1 := (hB1.alloc (.cells #[.int .i64 k, .bool neg, .int .u64 n, .string s, .slice none 0 0] 25)).c1; have RV := Row5.new w1 (.int .i64 k) (.bool neg) (.int .u64 n) (.string s) (.slice none 0 0); have hbw := (hbE.trans (hb1.mono hbE.size)).alloc (hbE.trans (hb1.mono hbE.size)).size (.cells #[.int .i64 k, .bool neg, .int .u64 n, .string s, .slice none 0 0] 25); have v0 := RV.c0; have v1 := RV.c1; have v2 := RV.c2; have v3 := RV.c3; have v4 := RV.c4; have b8 := (hB1.alloc (.cells #[.int .i64 k, .bool neg, .int .u64 n, .string s, .slice none 0 0] 25)).c8; have b9 := (hB1.alloc (.cells #[.int .i64 k, .bool neg, .int .u64 n, .string s, .slice none 0 0] 25)).c9))
  go_region_law (go_simp; go_at_call 15; refine (HD.out _).mono ?_; rintro e w3 ⟨rfl, hb3⟩; have hB3 := (show Bb (w1.alloc (.cells #[.int .i64 k, .bool neg, .int .u64 n, .string s, .slice none 0 0] 25)).drew bp _ _ _ _ _ _ _ _ from hB1.alloc (.cells #[.int .i64 k, .bool neg, .int .u64 n, .string s, .slice none 0 0] 25)).below (W1 := w3) hb3; have c8 := hB3.c8; have c9 := hB3.c9)
  all_goals
    go_wp2
    go_ret
    exact ⟨rfl, hbw.drew.trans (hb3.mono hbw.size)⟩
set_option maxRecDepth 100000 in
set_option maxHeartbeats 8000000 in
theorem may_plain (base bp : Nat) (ov : Value) (p : Raw) (rest : List Raw) (count : Nat) (k : Int) (neg : Bool) (n : Int) (s : ByteArray) (w : World) (hs : s.size ≤ 1073741824) (hO : OpenIs w base (Lo base) ov (p :: rest)) (hB : Bb w bp ov false (.int .i64 0) (.bool false) (.int .u64 0) (.string ⟨#[]⟩) (.slice none 0 0) count)
    (hr : rightF k neg n s = true) (hd : (p :: rest).length + depthF ⟨k, neg, n, s, []⟩ ≤ 64) (hc : count < 65536) (hk : ¬ (p.k = 13 ∧ p.n / 2 = 1)) :
    Calls Tryz.prog 146 #[.pointer (some ⟨bp, 0, none⟩), .agg #[.int .i64 k, .bool neg, .int .u64 n, .string s]] w (Ret (.int .i64 0) w) := by
  have hR := right_any k neg n s
  unfold RightPost at hR
  rw [hr] at hR
  have HR := Lib.hid (fun W => hR W (by omega))
  obtain ⟨d, hdd⟩ : ∃ d, depthF ⟨k, neg, n, s, []⟩ = d := ⟨_, rfl⟩
  have hDp : ∀ W, Calls Tryz.prog 15 #[.agg #[.int .i64 k, .bool neg, .int .u64 n, .string s, .slice none 0 0]] W (Ret (.int .i64 d) W) := fun W => by
    have := depth_any ⟨k, neg, n, s, []⟩ none 0 W (fun _ => False) (fun g h => h.elim) (by simp [Tree]) (by simp [bulk, bulkL]; omega)
    rw [hdd] at this
    exact this
  have HD := Lib.hid hDp
  rw [hdd] at hd
  clear hR hr hdd hDp
  have RE := Blk.new w 141 #[.int .i64 k, .bool neg, .int .u64 n, .string s]
  have e0 := RE.cell (i := 0) rfl
  have e1 := RE.cell (i := 1) rfl
  have e2 := RE.cell (i := 2) rfl
  have e3 := RE.cell (i := 3) rfl
  have hbE := (Below.refl _ w).alloc (Nat.le_refl _) (.cells #[.int .i64 k, .bool neg, .int .u64 n, .string s] 141)
  obtain ⟨og, oc, rfl, hoc⟩ := hO.form
  obtain ⟨la, lc, hlv⟩ := hO.lvForm (List.mem_cons_self ..)
  obtain ⟨N, hn⟩ : ∃ N, rest.length = N := ⟨_, rfl⟩
  have HN := Lib.hid hn
  have HLV := Lib.hid hlv
  simp only [List.length_cons, hn] at hd hB ⊢
  have qw : IntKind.i64.wrap ((N : Int) + 1 + (d : Int)) = (N : Int) + 1 + d := IntWalk.i64_in _ (by omega)
  have q1 : decide ((64 : Int) < (N : Int) + 1 + (d : Int)) = false := by simp; omega
  have q2 : decide ((65536 : Int) ≤ (count : Int)) = false := by simp; omega
  have q3 : ((65536 : Int) ≤ (count : Int)) = False := by simp; omega
  have q5 : decide ((0 : Int) < (N : Int) + 1) = true := decide_eq_true (by omega)
  have hN63 : (N : Int) ≤ 64 := by omega
  have hNlt : (N : Int) < (N : Int) + 1 := by omega
  clear hlv hn
  have HNm := Lib.hid (fun b s' l W => number_false p.k p.n b s' l W hk)
  clear hk
  go_enter Tryz.func146, Tryz.ntmps146
  go_wp2_with (first
    | (go_at_call 147; refine (HR.out _).mono ?_; rintro e w1 ⟨rfl, hb1⟩; have hB1 := (hB.alloc (.cells #[.int .i64 k, .bool neg, .int .u64 n, .string s] 141)).below hb1; have b1 := (hB1.alloc (.cells #[.int .i64 k, .bool neg, .int .u64 n, .string s, .slice none 0 0] 25)).c1; have RV := Row5.new w1 (.int .i64 k) (.bool neg) (.int .u64 n) (.string s) (.slice none 0 0); have hbw := (hbE.trans (hb1.mono hbE.size)).alloc (hbE.trans (hb1.mono hbE.size)).size (.cells #[.int .i64 k, .bool neg, .int .u64 n, .string s, .slice none 0 0] 25); have v0 := RV.c0; have v1 := RV.c1; have v2 := RV.c2; have v3 := RV.c3; have v4 := RV.c4; have b8 := (hB1.alloc (.cells #[.int .i64 k, .bool neg, .int .u64 n, .string s, .slice none 0 0] 25)).c8; have b9 := (hB1.alloc (.cells #[.int .i64 k, .bool neg, .int .u64 n, .string s, .slice none 0 0] 25)).c9; have hO1 := (hO.below hbE).below hb1; have hO2 := hO1.below ((Below.refl _ w1).alloc (Nat.le_refl _) (.cells #[.int .i64 k, .bool neg, .int .u64 n, .string s, .slice none 0 0] 25)); obtain ⟨t0, t1, t2, t3, t4⟩ := hO2.top HN.out; rw [HLV.out] at t4)
    | (go_at_call 117; refine (HNm.out _ _ _ _).mono ?_; rintro e w2 ⟨rfl, hb2⟩; have hb12 := (show Below (w1.alloc (.cells #[.int .i64 k, .bool neg, .int .u64 n, .string s, .slice none 0 0] 25)).heap.size (w1.alloc (.cells #[.int .i64 k, .bool neg, .int .u64 n, .string s, .slice none 0 0] 25)) w2 from hb2); have hB2 := (hB1.alloc (.cells #[.int .i64 k, .bool neg, .int .u64 n, .string s, .slice none 0 0] 25)).below hb12; have b1' := hB2.c1; have RV2 := (show Row5 w2 w1.heap.size _ _ _ _ _ from (hb12.block _ RV.lt).trans RV); have v0 := RV2.c0; have v1 := RV2.c1; have v2 := RV2.c2; have v3 := RV2.c3; have v4 := RV2.c4; have b8' := hB2.c8; have b9' := hB2.c9; have HBW := hbw.trans (hb2.mono hbw.size)))
  go_region_law (go_simp; go_at_call 15; refine (HD.out _).mono ?_; rintro e w3 ⟨rfl, hb3⟩; have hB3 := (show Bb w2.drew bp _ _ _ _ _ _ _ _ from hB2).below (W1 := w3) hb3; have c8 := hB3.c8; have c9 := hB3.c9)
  all_goals
    go_wp2
    go_ret
    exact ⟨rfl, HBW.drew.trans (hb3.mono HBW.size)⟩
set_option maxRecDepth 100000 in
set_option maxHeartbeats 8000000 in
theorem may_number (base bp : Nat) (ov : Value) (p : Raw) (rest : List Raw) (count : Nat) (k : Int) (neg : Bool) (n : Int) (s : ByteArray) (w : World) (hs : s.size ≤ 1073741824) (hO : OpenIs w base (Lo base) ov (p :: rest)) (hB : Bb w bp ov false (.int .i64 0) (.bool false) (.int .u64 0) (.string ⟨#[]⟩) (.slice none 0 0) count)
    (hr : rightF k neg n s = true) (hd : (p :: rest).length + depthF ⟨k, neg, n, s, []⟩ ≤ 64) (hc : count < 65536) (hk : p.k = 13) (hpn : p.n / 2 = 1) (h1 : oneF 13 false 2 ⟨#[]⟩ [⟨k, neg, n, s, []⟩] = true) :
    Calls Tryz.prog 146 #[.pointer (some ⟨bp, 0, none⟩), .agg #[.int .i64 k, .bool neg, .int .u64 n, .string s]] w (Ret (.int .i64 0) w) := by
  have hR := right_any k neg n s
  unfold RightPost at hR
  rw [hr] at hR
  have HR := Lib.hid (fun W => hR W (by omega))
  obtain ⟨d, hdd⟩ : ∃ d, depthF ⟨k, neg, n, s, []⟩ = d := ⟨_, rfl⟩
  have hDp : ∀ W, Calls Tryz.prog 15 #[.agg #[.int .i64 k, .bool neg, .int .u64 n, .string s, .slice none 0 0]] W (Ret (.int .i64 d) W) := fun W => by
    have := depth_any ⟨k, neg, n, s, []⟩ none 0 W (fun _ => False) (fun g h => h.elim) (by simp [Tree]) (by simp [bulk, bulkL]; omega)
    rw [hdd] at this
    exact this
  have HD := Lib.hid hDp
  rw [hdd] at hd
  clear hR hr hdd hDp
  have RE := Blk.new w 141 #[.int .i64 k, .bool neg, .int .u64 n, .string s]
  have e0 := RE.cell (i := 0) rfl
  have e1 := RE.cell (i := 1) rfl
  have e2 := RE.cell (i := 2) rfl
  have e3 := RE.cell (i := 3) rfl
  have hbE := (Below.refl _ w).alloc (Nat.le_refl _) (.cells #[.int .i64 k, .bool neg, .int .u64 n, .string s] 141)
  obtain ⟨og, oc, rfl, hoc⟩ := hO.form
  obtain ⟨la, lc, hlv⟩ := hO.lvForm (List.mem_cons_self ..)
  obtain ⟨N, hn⟩ : ∃ N, rest.length = N := ⟨_, rfl⟩
  have HN := Lib.hid hn
  have HLV := Lib.hid hlv
  simp only [List.length_cons, hn] at hd hB ⊢
  have qw : IntKind.i64.wrap ((N : Int) + 1 + (d : Int)) = (N : Int) + 1 + d := IntWalk.i64_in _ (by omega)
  have q1 : decide ((64 : Int) < (N : Int) + 1 + (d : Int)) = false := by simp; omega
  have q2 : decide ((65536 : Int) ≤ (count : Int)) = false := by simp; omega
  have q3 : ((65536 : Int) ≤ (count : Int)) = False := by simp; omega
  have q5 : decide ((0 : Int) < (N : Int) + 1) = true := decide_eq_true (by omega)
  have hN63 : (N : Int) ≤ 64 := by omega
  have hNlt : (N : Int) < (N : Int) + 1 := by omega
  clear hlv hn
  have HNm := Lib.hid (fun b s' l W => hk ▸ number_true p.n b s' l W hpn)
  have H1 : Hid (∀ (W : World) (g : Nat), Row5 W g (.int .i64 k) (.bool neg) (.int .u64 n) (.string s) (.slice none 0 0) → Calls Tryz.prog 34 #[.agg #[.int .i64 13, .bool false, .int .u64 2, .string ⟨#[]⟩, .slice (some ⟨g, 0, none⟩) 1 1]] W (Ret (.bool true) W)) := Lib.hid (fun W g h => by
    have := one_any ⟨13, false, 2, ⟨#[]⟩, [⟨k, neg, n, s, []⟩]⟩ (some ⟨g, 0, none⟩) 1 W (fun _ => True) (tree_row h) (Nat.le_refl _) (Nat.zero_le _)
    dsimp only at this
    rw [h1] at this
    exact this)
  clear hk hpn h1
  go_enter Tryz.func146, Tryz.ntmps146
  go_wp2_with (first
    | (go_at_call 147; refine (HR.out _).mono ?_; rintro e w1 ⟨rfl, hb1⟩; have hB1 := (hB.alloc (.cells #[.int .i64 k, .bool neg, .int .u64 n, .string s] 141)).below hb1; have b1 := (hB1.alloc (.cells #[.int .i64 k, .bool neg, .int .u64 n, .string s, .slice none 0 0] 25)).c1; have RV := Row5.new w1 (.int .i64 k) (.bool neg) (.int .u64 n) (.string s) (.slice none 0 0); have hbw := (hbE.trans (hb1.mono hbE.size)).alloc (hbE.trans (hb1.mono hbE.size)).size (.cells #[.int .i64 k, .bool neg, .int .u64 n, .string s, .slice none 0 0] 25); have v0 := RV.c0; have v1 := RV.c1; have v2 := RV.c2; have v3 := RV.c3; have v4 := RV.c4; have b8 := (hB1.alloc (.cells #[.int .i64 k, .bool neg, .int .u64 n, .string s, .slice none 0 0] 25)).c8; have b9 := (hB1.alloc (.cells #[.int .i64 k, .bool neg, .int .u64 n, .string s, .slice none 0 0] 25)).c9; have hO1 := (hO.below hbE).below hb1; have hO2 := hO1.below ((Below.refl _ w1).alloc (Nat.le_refl _) (.cells #[.int .i64 k, .bool neg, .int .u64 n, .string s, .slice none 0 0] 25)); obtain ⟨t0, t1, t2, t3, t4⟩ := hO2.top HN.out; rw [HLV.out] at t4)
    | (go_at_call 117; refine (HNm.out _ _ _ _).mono ?_; rintro e w2 ⟨rfl, hb2⟩; have hb12 := (show Below (w1.alloc (.cells #[.int .i64 k, .bool neg, .int .u64 n, .string s, .slice none 0 0] 25)).heap.size (w1.alloc (.cells #[.int .i64 k, .bool neg, .int .u64 n, .string s, .slice none 0 0] 25)) w2 from hb2); have hB2 := (hB1.alloc (.cells #[.int .i64 k, .bool neg, .int .u64 n, .string s, .slice none 0 0] 25)).below hb12; have b1' := hB2.c1; have RV2 := (show Row5 w2 w1.heap.size _ _ _ _ _ from (hb12.block _ RV.lt).trans RV); have v0 := RV2.c0; have v1 := RV2.c1; have v2 := RV2.c2; have v3 := RV2.c3; have v4 := RV2.c4; have HBW2 := (hbw.trans (hb2.mono hbw.size)).alloc (hbw.trans (hb2.mono hbw.size)).size (.cells #[.int .i64 k, .bool neg, .int .u64 n, .string s, .slice none 0 0] 25); have HNew := Row5.new w2 (.int .i64 k) (.bool neg) (.int .u64 n) (.string s) (.slice none 0 0))
    | (go_at_call 34; refine (H1.out _ _ HNew).mono ?_; rintro e w4 ⟨rfl, hb4⟩; have hB4 := (hB2.alloc (.cells #[.int .i64 k, .bool neg, .int .u64 n, .string s, .slice none 0 0] 25)).below hb4; have RV4 := (show Row5 w4 w1.heap.size _ _ _ _ _ from (hb4.block _ (RV2.alloc (.cells #[.int .i64 k, .bool neg, .int .u64 n, .string s, .slice none 0 0] 25)).lt).trans (RV2.alloc (.cells #[.int .i64 k, .bool neg, .int .u64 n, .string s, .slice none 0 0] 25))); have v0 := RV4.c0; have v1 := RV4.c1; have v2 := RV4.c2; have v3 := RV4.c3; have v4 := RV4.c4; have b8' := hB4.c8; have b9' := hB4.c9; have HBW := HBW2.trans (hb4.mono HBW2.size)))
  go_region_law (go_simp; go_at_call 15; refine (HD.out _).mono ?_; rintro e w3 ⟨rfl, hb3⟩; have hB3 := (show Bb w4.drew bp _ _ _ _ _ _ _ _ from hB4).below (W1 := w3) hb3; have c8 := hB3.c8; have c9 := hB3.c9)
  all_goals
    go_wp2
    go_ret
    exact ⟨rfl, HBW.drew.trans (hb3.mono HBW.size)⟩
end Go.Proofs.YtfmceonbejlhlaaGreatDoor

/-
  event's Build: a value is opened.
-/
namespace Go.Proofs.YtfmceonbejlhlaaGreatDoor
open Go.RowKit Go.Proofs.YtfmceonbejlhlaaGreatDoorW.PrintWords Go.Proofs.YtfmceonbejlhlaaGreatDoorW.PrintLast Go.Proofs.YtfmceonbejlhlaaGreatDoorW.PrintMore
set_option linter.unusedVariables false

theorem info220 : (Tryz.prog.info? 220).map (fun i => (i.zero, i.size, i.bytes)) = some (some (.agg #[.int .i64 0, .bool false, .int .u64 0, .string ⟨#[]⟩, .slice none 0 0]), 5, 64) := by kernel_rfl
/-- Behind the append and the store. -/
theorem opened_all {wr wa w2 : World} {base bp og oc count : Nat} {ov : Value} {k n : Int} {rs : List Raw} (hO : OpenIs wr base (Lo base) ov rs) (hB : Bb wr bp ov false (.int .i64 0) (.bool false) (.int .u64 0) (.string ⟨#[]⟩) (.slice none 0 0) count) (hbase : base ≤ wr.heap.size) (hbp : base ≤ bp) (hwa : Below wr.heap.size wr wa)
    (hown : w2.ownsRow base 220 5 (.slice (some ⟨og, 0, none⟩) (rs.length + 1) oc) (rs.length + 1) (rs.reverse.flatMap Raw.cells ++ [.int .i64 k, .bool false, .int .u64 n, .string ⟨#[]⟩, .slice none 0 0])) (hgr : wa.grownBy w2 ov.ownBlock) :
    BuildIs (w2.setCell ⟨bp, 1, none⟩ (.slice (some ⟨og, 0, none⟩) (rs.length + 1) oc)) base bp (⟨k, n, []⟩ :: rs.map Raw.c) none count ∧ Built base wr (w2.setCell ⟨bp, 1, none⟩ (.slice (some ⟨og, 0, none⟩) (rs.length + 1) oc)) := by
  have hOa := hO.below hwa
  have hBa := hB.below hwa
  have hba : base ≤ wa.heap.size := Nat.le_trans hbase hwa.size
  have hb2 : Bb w2 bp ov false (.int .i64 0) (.bool false) (.int .u64 0) (.string ⟨#[]⟩) (.slice none 0 0) count := (hgr.block bp hBa.lt (fun e => by
    obtain ⟨cs, hc⟩ := own_typed hOa.1 bp e.symm
    exact ty_ne hBa.ty ⟨cs, _, hc⟩ (by decide) rfl)).trans hBa
  have hs : ∀ g, TyIs wa g 25 → (w2.setCell ⟨bp, 1, none⟩ (.slice (some ⟨og, 0, none⟩) (rs.length + 1) oc)).heap[g]? = wa.heap[g]? := fun g hg => by
    rw [Below.heap_setCell _ ⟨bp, 1, none⟩ _ g (ty_ne hg hBa.ty (by decide))]
    exact hgr.block g hg.lt (fun e => by
      obtain ⟨cs, hc⟩ := own_typed hOa.1 g e.symm
      exact ty_ne hg ⟨cs, _, hc⟩ (by decide) rfl)
  have still : ∀ g, Still wa (Lo base) rs g → Still (w2.setCell ⟨bp, 1, none⟩ (.slice (some ⟨og, 0, none⟩) (rs.length + 1) oc)) (Lo base) (⟨k, n, .slice none 0 0, []⟩ :: rs) g := fun g hg => by
    refine ⟨?_, fun ⟨r, hr, hl⟩ => ?_, hg.2.2⟩
    · have h1 := hs g hg.1
      obtain ⟨cs, fr, hc⟩ := hg.1
      exact ⟨cs, fr, h1.trans hc⟩
    · rcases List.mem_cons.1 hr with rfl | hr
      · cases hl
      · exact hg.2.1 ⟨r, hr, hl⟩
  refine ⟨⟨_, ⟨k, n, .slice none 0 0, []⟩ :: rs, ⟨?_, fun r hr => ?_, ?_⟩, rfl, hbp, hb2.set1 _⟩, ?_⟩
  · have := own_move hown (w1 := w2.setCell ⟨bp, 1, none⟩ (.slice (some ⟨og, 0, none⟩) (rs.length + 1) oc)) fun j hj => by
      have e : j = og := by injection hj with hj; exact hj.symm
      subst e
      refine Below.heap_setCell _ _ _ _ (fun e => ?_)
      obtain ⟨cs, hc⟩ := own_typed hown j rfl
      exact ty_ne hb2.ty ⟨cs, _, hc⟩ (by decide) e.symm
    rw [List.reverse_cons, List.flatMap_append]
    simpa [Raw.cells] using this
  · rcases List.mem_cons.1 hr with rfl | hr
    · exact ⟨World.ownsRow_nil _ _ _ _, fun x hx => by cases hx⟩
    · have h1 := hOa.2.1 r hr
      exact ⟨own_move h1.1 fun j hj => by
        obtain ⟨cs, hc⟩ := own_typed h1.1 j hj
        exact hs j ⟨cs, _, hc⟩, fun x hx => (h1.2 x hx).keep still (fun g hg => hs g hg.1)⟩
  · exact List.pairwise_cons.2 ⟨(fun r hr g hg => by cases hg), hOa.2.2⟩
  · exact ((Built.of_below hwa hbase).trans (Built.grown hgr hOa.1 (Nat.le_refl _) (.inr (.inl rfl)) hba)).trans (Built.setCell hb2.ty (.inr (.inr rfl)) hbp 1 _)
theorem open_len' {W : World} {base : Nat} {X : Nat → Prop} {ov : Value} {rs : List Raw} (h : OpenIs W base X ov rs) : ∃ a c, ov = .slice a rs.length c := by
  rcases h.1.2 with ⟨e, h0⟩ | ⟨g, cap, cur, e, _⟩
  · exact ⟨none, 0, by rw [e, h0]⟩
  · exact ⟨_, _, e⟩
theorem open_bp {wr wa w2 : World} {base bp count : Nat} {ov : Value} {rs : List Raw} (hO : OpenIs wr base (Lo base) ov rs) (hB : Bb wr bp ov false (.int .i64 0) (.bool false) (.int .u64 0) (.string ⟨#[]⟩) (.slice none 0 0) count) (hwa : Below wr.heap.size wr wa) (hgr : wa.grownBy w2 ov.ownBlock) : Bb w2 bp ov false (.int .i64 0) (.bool false) (.int .u64 0) (.string ⟨#[]⟩) (.slice none 0 0) count :=
  (hgr.block bp (hB.below hwa).lt (fun e => by
    obtain ⟨cs, hc⟩ := own_typed (hO.below hwa).1 bp e.symm
    exact ty_ne (hB.below hwa).ty ⟨cs, _, hc⟩ (by decide) rfl)).trans (hB.below hwa)
theorem news_open (W : World) (k n : Int) (j : Nat) (u : Value) (hu : ([.int .i64 k, .bool false, .int .u64 n, .string ⟨#[]⟩, .slice none 0 0] : List Value)[j]? = some u) : ((W.alloc (.cells #[.int .i64 k, .bool false, .int .u64 n, .string ⟨#[]⟩, .slice none 0 0] 220)).drew).cell? ((⟨W.heap.size, 0, none⟩ : Addr).add j) = some u := by
  rw [WideShapes.add_plain, Nat.zero_add]
  exact (cell_of_row _ _ j _ _ _ (heap_alloc_new W _)).trans (by rw [← hu]; simp)
theorem open_one (k n : Int) : ∀ u ∈ ([.int .i64 k, .bool false, .int .u64 n, .string ⟨#[]⟩, .slice none 0 0] : List Value), u.oneCell' = true := by
  intro u hu
  simp only [List.mem_cons, List.not_mem_nil, or_false] at hu
  rcases hu with rfl | rfl | rfl | rfl | rfl <;> rfl
set_option maxRecDepth 100000 in
set_option maxHeartbeats 8000000 in
theorem put1_any (base bp bx : Nat) (rs : List Raw) (ov : Value) (k n : Int) (count : Nat) (w : World) (hbase : base ≤ w.heap.size) (hbp : base ≤ bp) (hO : OpenIs w base (Lo base) ov rs) (hB : Bb w bp ov false (.int .i64 0) (.bool false) (.int .u64 0) (.string ⟨#[]⟩) (.slice none 0 0) count) (hx : Boxed w bx 82 (.pointer (some ⟨bp, 0, none⟩))) (hlen : rs.length ≤ 4294967296) :
    Calls Tryz.prog 148 #[.agg #[.int .i64 k, .bool false, .int .u64 n, .string ⟨#[]⟩, .slice none 0 0], .pointer (some ⟨bx, 0, none⟩)] w (BuildPost base bp (.tuple #[]) (⟨k, n, []⟩ :: rs.map Raw.c) none count w) := by
  have hbel := (Below.refl _ w).alloc (Nat.le_refl _) (.cells #[.int .i64 k, .bool false, .int .u64 n, .string ⟨#[]⟩, .slice none 0 0] 25)
  have RV := Row5.new w (.int .i64 k) (.bool false) (.int .u64 n) (.string ⟨#[]⟩) (.slice none 0 0)
  have hO1 := hO.below hbel
  have hB1 := hB.alloc (.cells #[.int .i64 k, .bool false, .int .u64 n, .string ⟨#[]⟩, .slice none 0 0] 25)
  have hx1 := hx.alloc (.cells #[.int .i64 k, .bool false, .int .u64 n, .string ⟨#[]⟩, .slice none 0 0] 25)
  obtain ⟨w1, hw1⟩ : ∃ w1, w.alloc (.cells #[.int .i64 k, .bool false, .int .u64 n, .string ⟨#[]⟩, .slice none 0 0] 25) = w1 := ⟨_, rfl⟩
  obtain ⟨oa, oc0, hov⟩ := open_len' hO
  rw [hw1] at RV hbel hO1 hB1 hx1
  have hb1 := Nat.le_trans hbase hbel.size
  have v0 := RV.c0
  have v1 := RV.c1
  have v2 := RV.c2
  have v3 := RV.c3
  have v4 := RV.c4
  have x0 := hx1.cell
  have b1 := hB1.c1
  have v0' := fun o => (RV.alloc o).c0
  have v1' := fun o => (RV.alloc o).c1
  have v2' := fun o => (RV.alloc o).c2
  have v3' := fun o => (RV.alloc o).c3
  have v4' := fun o => (RV.alloc o).c4
  have x0' := fun o => (hx1.alloc o).cell
  have b1' := fun o => (hB1.alloc o).c1
  subst hov
  have HR := Lib.hid ((hO1.1.alloc (.cells #[.int .i64 k, .bool false, .int .u64 n, .string ⟨#[]⟩, .slice none 0 0] 220)).drew)
  have HZ := Lib.hid (((Below.refl _ w1).alloc (Nat.le_refl _) (.cells #[.int .i64 k, .bool false, .int .u64 n, .string ⟨#[]⟩, .slice none 0 0] 220)).drew)
  have HBs : Hid (base ≤ ((w1.alloc (.cells #[.int .i64 k, .bool false, .int .u64 n, .string ⟨#[]⟩, .slice none 0 0] 220)).drew).heap.size) := Lib.hid (Nat.le_trans hb1 (by simp))
  have HO1 := Lib.hid hO1
  have HB1 := Lib.hid hB1
  have HXB := Lib.hid hx1
  obtain ⟨i0, hi, hz0, hz1, hz2⟩ := info_parts info220
  clear hO hB hx hO1 RV hB1 hx1
  go_enter Tryz.func148, Tryz.ntmps148
  go_wp2_with fail
  try rw [hw1]
  go_region_law (refine step_append_lies _ rfl (.tmp 7) (.tmp 10) 120 rfl base 220 i0 (.agg #[.int .i64 0, .bool false, .int .u64 0, .string ⟨#[]⟩, .slice none 0 0]) 5 64 Tryz.underlying120 hi hz0 hz1 hz2 rfl (by decide) (.slice oa rs.length oc0) rs.length (rs.reverse.flatMap Raw.cells) (by first | rfl | simp [Act.eval]) HR.out ⟨w1.heap.size, 0, none⟩ 1 1 [.int .i64 k, .bool false, .int .u64 n, .string ⟨#[]⟩, .slice none 0 0] (by first | rfl | simp [Act.eval]) rfl (fun j u hu => news_open w1 k n j u hu) (open_one k n) (by decide) (by unfold maxLen; omega) (by omega) HBs.out _ rfl ?_
                 intro g2 c2 w2 hown hgr hor hg2lt
                 have hP := opened_all HO1.out HB1.out hb1 hbp HZ.out hown hgr
                 have hB2 := Lib.hid hP
                 have bq := open_bp HO1.out HB1.out HZ.out hgr
                 have xw := (show Boxed ((w1.alloc (.cells #[.int .i64 k, .bool false, .int .u64 n, .string ⟨#[]⟩, .slice none 0 0] 220)).drew) bx 82 (.pointer (some ⟨bp, 0, none⟩)) from HXB.out.alloc (.cells #[.int .i64 k, .bool false, .int .u64 n, .string ⟨#[]⟩, .slice none 0 0] 220))
                 have x2 := (xw.kept hgr (xw.not_row (by decide) HR.out)).cell
                 have b2 := bq.c1
                 have f2 := bq.fz 1
                 clear hP hown hgr hor xw)
  all_goals
    go_wp2
    go_end0
    exact ⟨rfl, hB2.out.1, (Built.of_below hbel hbase).trans hB2.out.2⟩
end Go.Proofs.YtfmceonbejlhlaaGreatDoor

/-
  event's Build: a value is closed.
-/
namespace Go.Proofs.YtfmceonbejlhlaaGreatDoor
open Go.RowKit Go.Proofs.YtfmceonbejlhlaaGreatDoorW.PrintWords Go.Proofs.YtfmceonbejlhlaaGreatDoorW.PrintLast Go.Proofs.YtfmceonbejlhlaaGreatDoorW.PrintMore
set_option linter.unusedVariables false

theorem OpenIs.noLo {W : World} {base : Nat} {X : Nat → Prop} {ov : Value} {rs : List Raw} (h : OpenIs W base X ov rs) : ∀ g, Lists rs g → ¬ Lo base g := fun g hg hl => Nat.not_lt.2 (lists_lt h hg).1 hl
theorem lists_one {p : Raw} {rest : List Raw} {g : Nat} (h : Lists [p] g) : Lists (p :: rest) g := by
  obtain ⟨r, hr, hg⟩ := h
  rw [List.mem_singleton] at hr
  exact ⟨p, List.mem_cons_self .., hr ▸ hg⟩
/-- The innermost open value is taken off the open ones. -/
theorem popped {W : World} {base bp og oc N count : Nat} {p : Raw} {rest : List Raw} (hO : OpenIs W base (Lo base) (.slice (some ⟨og, 0, none⟩) (rest.length + 1) oc) (p :: rest)) (hB : Bb W bp (.slice (some ⟨og, 0, none⟩) (rest.length + 1) oc) false (.int .i64 0) (.bool false) (.int .u64 0) (.string ⟨#[]⟩) (.slice none 0 0) count) (hN : rest.length = N) (hbp : base ≤ bp) :
    ∀ W', W.setCell ⟨bp, 1, none⟩ (.slice (some ⟨og, 0, none⟩) N oc) = W' → OpenIs W' base (Lo base) (.slice (some ⟨og, 0, none⟩) N oc) rest ∧ Bb W' bp (.slice (some ⟨og, 0, none⟩) N oc) false (.int .i64 0) (.bool false) (.int .u64 0) (.string ⟨#[]⟩) (.slice none 0 0) count ∧ (∃ a c, p.lv = .slice a p.rows.length c ∧ RowOk W' (Still W' (Lo base) rest) (p.t, a, c)) ∧ Built base W W' := by
  intro W' hW
  subst hN
  obtain ⟨h1, a, c, hlv, hx⟩ := hO.pop (fun g hg => hO.noLo g (lists_one hg))
  have hs : ∀ g, TyIs W g 220 ∨ (TyIs W g 25 ∧ ¬ (Lo base) g) → W'.heap[g]? = W.heap[g]? := fun g hg => by
    rw [← hW]
    refine Below.heap_setCell _ ⟨bp, 1, none⟩ _ g ?_
    rcases hg with h | h
    · exact ty_ne h hB.ty (by decide)
    · exact ty_ne h.1 hB.ty (by decide)
  exact ⟨h1.alike hs h1.noLo, hW ▸ hB.set1 _, ⟨a, c, hlv, hx.alike hs⟩, hW ▸ Built.setCell hB.ty (.inr (.inr rfl)) hbp 1 _⟩
set_option maxRecDepth 100000 in
set_option maxHeartbeats 8000000 in
theorem close_any (base bp : Nat) (p : Raw) (rest : List Raw) (ov : Value) (count : Nat) (w : World) (hbase : base ≤ w.heap.size) (hbp : base ≤ bp) (hO : OpenIs w base (Lo base) ov (p :: rest)) (hB : Bb w bp ov false (.int .i64 0) (.bool false) (.int .u64 0) (.string ⟨#[]⟩) (.slice none 0 0) count) (hlen : rest.length ≤ 4294967295) (hrows : ∀ r ∈ rest, r.rows.length ≤ 4294967296)
    (hk : p.k ≠ 13) (hkey : ¬ (p.k = 12 ∧ p.rows.length % 2 = 1)) :
    Calls Tryz.prog 145 #[.pointer (some ⟨bp, 0, none⟩), .agg #[.int .i64 15, .bool false, .int .u64 0, .string ⟨#[]⟩]] w (BuildPost base bp (.int .i64 0) (addC (rest.map Raw.c) p.t).1 (addC (rest.map Raw.c) p.t).2 count w) := by
  obtain ⟨og, oc, rfl, hoc⟩ := hO.form
  obtain ⟨la, lc, hlv⟩ := hO.lvForm (List.mem_cons_self ..)
  obtain ⟨m, hm⟩ : ∃ m, p.rows.length = m := ⟨_, rfl⟩
  obtain ⟨N, hN⟩ : ∃ N, rest.length = N := ⟨_, rfl⟩
  have hbk : (p.k == 13) = false := by simpa using hk
  have hKy := fun b s a c W => keyed_false p.k p.n b s a m c W (by rw [← hm]; exact hkey)
  rw [hm] at hlv
  have HKy := Lib.hid hKy
  have hbel := (Below.refl _ w).alloc (Nat.le_refl _) (.cells #[.int .i64 15, .bool false, .int .u64 0, .string ⟨#[]⟩] 141)
  have RE := Blk.new w 141 #[.int .i64 15, .bool false, .int .u64 0, .string ⟨#[]⟩]
  have x0 := RE.cell (i := 0) rfl
  have x1 := RE.cell (i := 1) rfl
  have x2 := RE.cell (i := 2) rfl
  have x3 := RE.cell (i := 3) rfl
  have hO1 := hO.below hbel
  have hB1 := hB.alloc (.cells #[.int .i64 15, .bool false, .int .u64 0, .string ⟨#[]⟩] 141)
  obtain ⟨e0, e1, e2, e3, e4⟩ := hO1.top hN
  rw [hlv] at e4
  have b1 := hB1.c1
  rw [hN] at b1
  have HO1 := Lib.hid hO1
  have HB1 := Lib.hid hB1
  have HN := Lib.hid hN
  have HM := Lib.hid hm
  have HLV := Lib.hid hlv
  have hNlt : (N : Int) < (N : Int) + 1 := by omega
  have hNle : (N : Int) ≤ 4294967295 := by omega
  have hNo : N ≤ oc := by omega
  have q1 : decide ((N : Int) < 0) = false := decide_eq_false (by omega)
  clear hO hB hO1 hB1 hN hm hlv hKy hk hkey RE hoc
  go_enter Tryz.func145, Tryz.ntmps145
  go_wp2_with (first
    | (go_at_call 172; refine (HKy.out _ _ _ _ _).mono ?_; rintro e w2 ⟨rfl, hb2⟩; have hO2 := HO1.out.below hb2; have hB2 := HB1.out.below hb2; (obtain ⟨f0, f1, f2, f3, f4⟩ := hO2.top HN.out); rw [HLV.out] at f4; have c1 := hB2.c1; rw [HN.out] at c1; have hO3 := hO2.below ((Below.refl _ w2).alloc (Nat.le_refl _) (.cells #[.int .i64 p.k, .bool false, .int .u64 p.n, .string ⟨#[]⟩, .slice la m lc] 25)); have hB3 := hB2.alloc (.cells #[.int .i64 p.k, .bool false, .int .u64 p.n, .string ⟨#[]⟩, .slice la m lc] 25); have c1' := hB3.c1; rw [HN.out] at c1'; have cf := hB3.fz 1; have RP := Row5.new w2 (.int .i64 p.k) (.bool false) (.int .u64 p.n) (.string ⟨#[]⟩) (.slice la m lc); have hne : w2.heap.size ≠ bp := (by have := hB2.lt; omega); have RP2 := RP.far (p := ⟨bp, 1, none⟩) hne (.slice (some ⟨og, 0, none⟩) N oc); have g0 := RP2.c0; have g1 := RP2.c1; have g2 := RP2.c2; have g3 := RP2.c3; have g4 := RP2.c4; have HO3 := Lib.hid hO3; have HB3 := Lib.hid hB3; clear hO2 hB2 hO3 hB3))
  obtain ⟨W5, hW5⟩ : ∃ W5, (w2.alloc (.cells #[.int .i64 p.k, .bool false, .int .u64 p.n, .string ⟨#[]⟩, .slice la m lc] 25)).setCell ⟨bp, 1, none⟩ (.slice (some ⟨og, 0, none⟩) N oc) = W5 := ⟨_, rfl⟩
  obtain ⟨hO5, hB5, ⟨a, c, hlv, hx5⟩, hbt5⟩ := popped HO3.out HB3.out HN.out hbp W5 hW5
  rw [HLV.out, HM.out] at hlv
  injection hlv with hl1 _ hl3
  subst hl1 hl3
  have hbb : Built base w W5 := ((Built.of_below hbel hbase).trans ((Built.of_below hb2 (Nat.le_trans hbase hbel.size)).trans (Built.of_below ((Below.refl _ w2).alloc (Nat.le_refl _) (.cells #[.int .i64 p.k, .bool false, .int .u64 p.n, .string ⟨#[]⟩, .slice la m lc] 25)) (Nat.le_trans hbase (Nat.le_trans hbel.size hb2.size))))).trans hbt5
  have hA := add_any base bp rest _ (p.t, la, lc) count W5 (Nat.le_trans hbase hbb.size) hbp hO5 hB5 hx5 (by have := HN.out; omega) hrows
  have ht : p.t.f4.length = m := by show (p.rows.map (·.1)).length = m; rw [List.length_map, HM.out]
  dsimp only at hA
  rw [ht] at hA
  have hA' : Calls Tryz.prog 118 #[.pointer (some ⟨bp, 0, none⟩), .agg #[.int .i64 p.k, .bool false, .int .u64 p.n, .string ⟨#[]⟩, .slice la m lc]] W5 (BuildPost base bp (.tuple #[]) (addC (rest.map Raw.c) p.t).1 (addC (rest.map Raw.c) p.t).2 count W5) := hA
  rw [hW5]
  clear hW5 hO5 hB5 hx5 hA ht hbt5
  go_wp2_with (go_at_call 118; refine hA'.mono ?_; rintro e w6 ⟨rfl, hbi, hbt6⟩)
  go_ret
  exact ⟨rfl, hbi, hbb.trans hbt6⟩
end Go.Proofs.YtfmceonbejlhlaaGreatDoor

/-
  event's Build: a great number.
-/
namespace Go.Proofs.YtfmceonbejlhlaaGreatDoor
open Go.RowKit Go.Proofs.YtfmceonbejlhlaaGreatDoorW.PrintWords Go.Proofs.YtfmceonbejlhlaaGreatDoorW.PrintLast Go.Proofs.YtfmceonbejlhlaaGreatDoorW.PrintMore
set_option linter.unusedVariables false

theorem one_tag_bytes (s : ByteArray) : oneF 13 false 2 ⟨#[]⟩ [⟨9, false, 0, s, []⟩] = !bigF s := by
  unfold oneF tailF
  rw [if_neg (by decide), if_neg (by decide), if_neg (by decide), if_neg (by decide), if_neg (by decide), if_neg (by simp), if_neg (by simp)]
  cases h : bigF s
  · rw [if_neg (fun h' => by rcases h'.2 with h2 | h2; simp at h2; have := h2.2.2; simp [P.rd_T25, h] at this), ByteArray.toList_eq]; rfl
  · rw [if_pos ⟨rfl, .inr ⟨by decide, rfl, by simpa [P.rd_T25] using h⟩⟩]; rfl
theorem tag_bytes_any (s : ByteArray) (W : World) (g : Nat) (h : Row5 W g (.int .i64 9) (.bool false) (.int .u64 0) (.string s) (.slice none 0 0)) : Calls Tryz.prog 34 #[.agg #[.int .i64 13, .bool false, .int .u64 2, .string ⟨#[]⟩, .slice (some ⟨g, 0, none⟩) 1 1]] W (Ret (.bool (!bigF s)) W) := by
  have := one_any ⟨13, false, 2, ⟨#[]⟩, [⟨9, false, 0, s, []⟩]⟩ (some ⟨g, 0, none⟩) 1 W (fun _ => True) (tree_row h) (Nat.le_refl _) (Nat.zero_le _)
  dsimp only at this
  rw [one_tag_bytes] at this
  exact this
set_option maxHeartbeats 2000000 in
theorem big_root (base bp : Nat) (ov : Value) (count : Nat) (s : ByteArray) (w : World) (hO : OpenIs w base (Lo base) ov []) (hB : Bb w bp ov false (.int .i64 0) (.bool false) (.int .u64 0) (.string ⟨#[]⟩) (.slice none 0 0) count) : Calls Tryz.prog 78 #[.pointer (some ⟨bp, 0, none⟩), .string s] w (Ret (.bool false) w) := by
  obtain ⟨oa, oc, rfl⟩ := open_len hO
  have b1 := hB.c1
  clear hO
  go_enter Tryz.func78, Tryz.ntmps78
  go_wp2
  go_ret
  exact ⟨rfl, Below.refl _ _⟩
set_option maxRecDepth 100000 in
set_option maxHeartbeats 4000000 in
theorem big_plain (base bp : Nat) (ov : Value) (p : Raw) (rest : List Raw) (count : Nat) (s : ByteArray) (w : World) (hO : OpenIs w base (Lo base) ov (p :: rest)) (hB : Bb w bp ov false (.int .i64 0) (.bool false) (.int .u64 0) (.string ⟨#[]⟩) (.slice none 0 0) count) (hlen : rest.length ≤ 4294967295) (hk : ¬ (p.k = 13 ∧ p.n / 2 = 1)) : Calls Tryz.prog 78 #[.pointer (some ⟨bp, 0, none⟩), .string s] w (Ret (.bool false) w) := by
  obtain ⟨og, oc, rfl, hoc⟩ := hO.form
  obtain ⟨la, lc, hlv⟩ := hO.lvForm (List.mem_cons_self ..)
  obtain ⟨N, hN⟩ : ∃ N, rest.length = N := ⟨_, rfl⟩
  obtain ⟨e0, e1, e2, e3, e4⟩ := hO.top hN
  rw [hlv] at e4
  have b1 := hB.c1
  rw [hN] at b1
  have hNlt : (N : Int) < (N : Int) + 1 := by omega
  have hNle : (N : Int) ≤ 4294967295 := by omega
  have q1 : decide ((N : Int) < 0) = false := decide_eq_false (by omega)
  have HNm := Lib.hid (fun b s' l W => number_false p.k p.n b s' l W hk)
  clear hO hB hN hlv hk hoc
  go_enter Tryz.func78, Tryz.ntmps78
  go_wp2_with (go_at_call 117; refine (HNm.out _ _ _ _).mono ?_; rintro e w2 ⟨rfl, hb2⟩)
  go_ret
  exact ⟨rfl, hb2⟩
set_option maxRecDepth 100000 in
set_option maxHeartbeats 4000000 in
theorem big_small (base bp : Nat) (ov : Value) (p : Raw) (rest : List Raw) (count : Nat) (s : ByteArray) (w : World) (hO : OpenIs w base (Lo base) ov (p :: rest)) (hB : Bb w bp ov false (.int .i64 0) (.bool false) (.int .u64 0) (.string ⟨#[]⟩) (.slice none 0 0) count) (hlen : rest.length ≤ 4294967295) (hk : p.k = 13) (hn : p.n / 2 = 1) (hs : bigF s = false) : Calls Tryz.prog 78 #[.pointer (some ⟨bp, 0, none⟩), .string s] w (Ret (.bool false) w) := by
  obtain ⟨og, oc, rfl, hoc⟩ := hO.form
  obtain ⟨la, lc, hlv⟩ := hO.lvForm (List.mem_cons_self ..)
  obtain ⟨N, hN⟩ : ∃ N, rest.length = N := ⟨_, rfl⟩
  obtain ⟨e0, e1, e2, e3, e4⟩ := hO.top hN
  rw [hlv] at e4
  have b1 := hB.c1
  rw [hN] at b1
  have hNlt : (N : Int) < (N : Int) + 1 := by omega
  have hNle : (N : Int) ≤ 4294967295 := by omega
  have q1 : decide ((N : Int) < 0) = false := decide_eq_false (by omega)
  have HNm := Lib.hid (fun b s' l W => hk ▸ number_true p.n b s' l W hn)
  have HT := tag_bytes_any s
  rw [hs] at HT
  have HT2 := Lib.hid HT
  clear hO hB hN hlv hk hoc hn HT hs
  go_enter Tryz.func78, Tryz.ntmps78
  go_wp2_with (first
    | (go_at_call 117; refine (HNm.out _ _ _ _).mono ?_; rintro e w2 ⟨rfl, hb2⟩; have HR := Lib.hid (Row5.new w2 (.int .i64 9) (.bool false) (.int .u64 0) (.string s) (.slice none 0 0)))
    | (go_at_call 34; refine (HT2.out _ _ HR.out).mono ?_; rintro e w3 ⟨rfl, hb3⟩))
  go_ret
  exact ⟨rfl, hb2.trans (((Below.refl _ w2).alloc (Nat.le_refl _) (.cells #[.int .i64 9, .bool false, .int .u64 0, .string s, .slice none 0 0] 25)).trans (hb3.mono (by simp)) |>.mono hb2.size)⟩
set_option maxRecDepth 100000 in
set_option maxHeartbeats 8000000 in
theorem big_yes (base bp : Nat) (p : Raw) (rest : List Raw) (ov : Value) (count : Nat) (s : ByteArray) (w : World) (hbase : base ≤ w.heap.size) (hbp : base ≤ bp) (hO : OpenIs w base (Lo base) ov (p :: rest)) (hB : Bb w bp ov false (.int .i64 0) (.bool false) (.int .u64 0) (.string ⟨#[]⟩) (.slice none 0 0) count) (hlen : rest.length ≤ 4294967295) (hrows : ∀ r ∈ rest, r.rows.length ≤ 4294967296)
    (hk : p.k = 13) (hn : p.n / 2 = 1) (hs : bigF s = true) :
    Calls Tryz.prog 78 #[.pointer (some ⟨bp, 0, none⟩), .string s] w (BuildPost base bp (.bool true) (addC (rest.map Raw.c) ⟨5, p.n == 3, 0, s, []⟩).1 (addC (rest.map Raw.c) ⟨5, p.n == 3, 0, s, []⟩).2 count w) := by
  obtain ⟨og, oc, rfl, hoc⟩ := hO.form
  obtain ⟨la, lc, hlv⟩ := hO.lvForm (List.mem_cons_self ..)
  obtain ⟨N, hN⟩ : ∃ N, rest.length = N := ⟨_, rfl⟩
  obtain ⟨e0, e1, e2, e3, e4⟩ := hO.top hN
  rw [hlv] at e4
  have b1 := hB.c1
  rw [hN] at b1
  have hNlt : (N : Int) < (N : Int) + 1 := by omega
  have hNle : (N : Int) ≤ 4294967295 := by omega
  have hNo : N ≤ oc := by omega
  have q1 : decide ((N : Int) < 0) = false := decide_eq_false (by omega)
  have HNm := Lib.hid (fun b s' l W => hk ▸ number_true p.n b s' l W hn)
  have HT := tag_bytes_any s
  rw [hs] at HT
  have HT2 := Lib.hid HT
  have HN := Lib.hid hN
  have HLV := Lib.hid hlv
  have HO := Lib.hid hO
  have HB := Lib.hid hB
  clear hO hB hN hlv hk hoc hn HT hs
  go_enter Tryz.func78, Tryz.ntmps78
  go_wp2_with (first
    | (go_at_call 117; refine (HNm.out _ _ _ _).mono ?_; rintro e w2 ⟨rfl, hb2⟩; have HR := Lib.hid (Row5.new w2 (.int .i64 9) (.bool false) (.int .u64 0) (.string s) (.slice none 0 0)))
    | (go_at_call 34; refine (HT2.out _ _ HR.out).mono ?_; rintro e w3 ⟨rfl, hb3⟩; have hbx := hb2.trans (((Below.refl _ w2).alloc (Nat.le_refl _) (.cells #[.int .i64 9, .bool false, .int .u64 0, .string s, .slice none 0 0] 25)).trans (hb3.mono (by simp)) |>.mono hb2.size); have hO3 := HO.out.below hbx; have hB4 := HB.out.below hbx; (obtain ⟨f0, f1, f2, f3, f4⟩ := hO3.top HN.out); have c1 := hB4.c1; rw [HN.out] at c1; have cf := hB4.fz 1; have HB4 := Lib.hid hB4; have HO3 := Lib.hid hO3; have HBX := Lib.hid hbx; clear hO3 hB4 hbx))
  obtain ⟨W5, hW5⟩ : ∃ W5, w3.setCell ⟨bp, 1, none⟩ (.slice (some ⟨og, 0, none⟩) N oc) = W5 := ⟨_, rfl⟩
  obtain ⟨hO5, hB5, _, hbt5⟩ := popped HO3.out HB4.out HN.out hbp W5 hW5
  have hbb : Built base w W5 := (Built.of_below HBX.out hbase).trans hbt5
  have hA := add_any base bp rest _ (⟨5, p.n == 3, 0, s, []⟩, none, 0) count W5 (Nat.le_trans hbase hbb.size) hbp hO5 hB5 ⟨Nat.le_refl _, by simp [Tree]⟩ (by have := HN.out; omega) hrows
  rw [hW5]
  clear hW5 hO5 hB5 hbt5
  go_wp2_with (go_at_call 118; refine hA.mono ?_; rintro e w6 ⟨rfl, hbi, hbt6⟩)
  go_ret
  exact ⟨rfl, hbi, hbb.trans hbt6⟩
end Go.Proofs.YtfmceonbejlhlaaGreatDoor

/-
  event's Build: Put.
-/
namespace Go.Proofs.YtfmceonbejlhlaaGreatDoor
open Go.RowKit Go.Proofs.YtfmceonbejlhlaaGreatDoorW.PrintWords Go.Proofs.YtfmceonbejlhlaaGreatDoorW.PrintLast Go.Proofs.YtfmceonbejlhlaaGreatDoorW.PrintMore
set_option linter.unusedVariables false

/-- An event may go on: what is asked. -/
def MayOk (rs : List Raw) (count : Nat) (k : Int) (neg : Bool) (n : Int) (s : ByteArray) : Prop := rightF k neg n s = true ∧ rs.length + depthF ⟨k, neg, n, s, []⟩ ≤ 64 ∧ count < 65536 ∧ ∀ p rest, rs = p :: rest → p.k = 13 → p.n / 2 = 1 → oneF 13 false 2 ⟨#[]⟩ [⟨k, neg, n, s, []⟩] = true
theorem may_any (base bp : Nat) (ov : Value) (rs : List Raw) (count : Nat) (k : Int) (neg : Bool) (n : Int) (s : ByteArray) (w : World) (hs : s.size ≤ 1073741824) (hO : OpenIs w base (Lo base) ov rs) (hB : Bb w bp ov false (.int .i64 0) (.bool false) (.int .u64 0) (.string ⟨#[]⟩) (.slice none 0 0) count) (h : MayOk rs count k neg n s) :
    Calls Tryz.prog 146 #[.pointer (some ⟨bp, 0, none⟩), .agg #[.int .i64 k, .bool neg, .int .u64 n, .string s]] w (Ret (.int .i64 0) w) := by
  obtain ⟨hr, hd, hc, ht⟩ := h
  match rs, hO, hd, ht with
  | [], hO, hd, ht => exact may_root base bp ov [] count k neg n s w hs hO hB hr hd hc rfl
  | p :: rest, hO, hd, ht =>
    by_cases hp : p.k = 13 ∧ p.n / 2 = 1
    · exact may_number base bp ov p rest count k neg n s w hs hO hB hr hd hc hp.1 hp.2 (ht p rest rfl hp.1 hp.2)
    · exact may_plain base bp ov p rest count k neg n s w hs hO hB hr hd hc hp
/-- The count goes up. -/
theorem counted {W : World} {base bp count : Nat} {ov : Value} {rs : List Raw} (hO : OpenIs W base (Lo base) ov rs) (hB : Bb W bp ov false (.int .i64 0) (.bool false) (.int .u64 0) (.string ⟨#[]⟩) (.slice none 0 0) count) (hbp : base ≤ bp) :
    ∀ W', W.setCell ⟨bp, 8, none⟩ (.int .i64 ((count : Int) + 1)) = W' → OpenIs W' base (Lo base) ov rs ∧ Bb W' bp ov false (.int .i64 0) (.bool false) (.int .u64 0) (.string ⟨#[]⟩) (.slice none 0 0) (count + 1) ∧ Built base W W' := by
  intro W' hW
  have hs : ∀ g, TyIs W g 220 ∨ (TyIs W g 25 ∧ ¬ (Lo base) g) → W'.heap[g]? = W.heap[g]? := fun g hg => by
    rw [← hW]
    refine Below.heap_setCell _ ⟨bp, 8, none⟩ _ g ?_
    rcases hg with h | h
    · exact ty_ne h hB.ty (by decide)
    · exact ty_ne h.1 hB.ty (by decide)
  exact ⟨hO.alike hs hO.noLo, hW ▸ (hB.set8 (count + 1) : Bb (W.setCell ⟨bp, 8, none⟩ (.int .i64 ((count + 1 : Nat) : Int))) bp ov false (.int .i64 0) (.bool false) (.int .u64 0) (.string ⟨#[]⟩) (.slice none 0 0) (count + 1)), hW ▸ Built.setCell hB.ty (.inr (.inr rfl)) hbp 8 _⟩
theorem far_two {W : World} {bp q r count : Nat} {ov u : Value} {cs : Array Value} (hB : Bb W bp ov false (.int .i64 0) (.bool false) (.int .u64 0) (.string ⟨#[]⟩) (.slice none 0 0) count) (hx : Boxed W q 82 u) (hr : Blk W r 141 cs) (v : Value) : Boxed (W.setCell ⟨bp, 8, none⟩ v) q 82 u ∧ Blk (W.setCell ⟨bp, 8, none⟩ v) r 141 cs :=
  ⟨Blk.far (show Blk W q 82 #[u] from hx) (p := ⟨bp, 8, none⟩) (ty_ne (s := 82) (t := 122) ⟨_, _, hx⟩ hB.ty (by decide)) v, hr.far (p := ⟨bp, 8, none⟩) (ty_ne (s := 141) (t := 122) ⟨_, _, hr⟩ hB.ty (by decide)) v⟩
set_option maxRecDepth 100000 in
set_option maxHeartbeats 8000000 in
theorem put_end (base bp : Nat) (p : Raw) (rest : List Raw) (ov : Value) (count : Nat) (w : World) (hbase : base ≤ w.heap.size) (hbp : base ≤ bp) (hO : OpenIs w base (Lo base) ov (p :: rest)) (hB : Bb w bp ov false (.int .i64 0) (.bool false) (.int .u64 0) (.string ⟨#[]⟩) (.slice none 0 0) count) (hlen : rest.length ≤ 4294967295) (hrows : ∀ r ∈ rest, r.rows.length ≤ 4294967296)
    (hk : p.k ≠ 13) (hkey : ¬ (p.k = 12 ∧ p.rows.length % 2 = 1)) :
    Calls Tryz.prog 113 #[.pointer (some ⟨bp, 0, none⟩), .agg #[.int .i64 15, .bool false, .int .u64 0, .string ⟨#[]⟩]] w (BuildPost base bp (.int .i64 0) (addC (rest.map Raw.c) p.t).1 (addC (rest.map Raw.c) p.t).2 count w) := by
  have hbel := ((Below.refl _ w).alloc (Nat.le_refl _) (.cells #[.pointer (some ⟨bp, 0, none⟩)] 82)).alloc (by simp) (.cells #[.int .i64 15, .bool false, .int .u64 0, .string ⟨#[]⟩] 141)
  have xb := (Boxed.new w 82 (.pointer (some ⟨bp, 0, none⟩))).alloc (.cells #[.int .i64 15, .bool false, .int .u64 0, .string ⟨#[]⟩] 141)
  have RE := Blk.new (w.alloc (.cells #[.pointer (some ⟨bp, 0, none⟩)] 82)) 141 #[.int .i64 15, .bool false, .int .u64 0, .string ⟨#[]⟩]
  rw [World.size_alloc] at RE
  have x0 := RE.cell (i := 0) rfl
  have x1 := RE.cell (i := 1) rfl
  have x2 := RE.cell (i := 2) rfl
  have x3 := RE.cell (i := 3) rfl
  have x4 := xb.cell
  have hO1 := hO.below hbel
  have hB1 := (hB.alloc (.cells #[.pointer (some ⟨bp, 0, none⟩)] 82)).alloc (.cells #[.int .i64 15, .bool false, .int .u64 0, .string ⟨#[]⟩] 141)
  have b0 := hB1.c0
  have b2 := hB1.c2
  have hN := none_any bp _ b0
  have hC := close_any base bp p rest ov count _ (Nat.le_trans hbase hbel.size) hbp hO1 hB1 hlen hrows hk hkey
  have HC := Lib.hid hC
  have HN := Lib.hid hN
  clear hC hN hO hB hO1 hB1 hk hkey hrows
  go_enter Tryz.func113, Tryz.ntmps113
  go_wp2_with (first
    | (go_at_call 71; refine HN.out.mono ?_; rintro e w1 ⟨rfl, rfl⟩)
    | (go_at_call 145; refine HC.out.mono ?_; rintro e w2 ⟨rfl, hbi, hbt⟩))
  go_ret
  exact ⟨rfl, hbi, (Built.of_below hbel hbase).trans hbt⟩
set_option maxRecDepth 100000 in
set_option maxHeartbeats 8000000 in
theorem put_leaf (base bp : Nat) (rs : List Raw) (ov : Value) (count : Nat) (k : Int) (neg : Bool) (n : Int) (s : ByteArray) (w : World) (hs : s.size ≤ 1073741824) (hbase : base ≤ w.heap.size) (hbp : base ≤ bp) (hO : OpenIs w base (Lo base) ov rs) (hB : Bb w bp ov false (.int .i64 0) (.bool false) (.int .u64 0) (.string ⟨#[]⟩) (.slice none 0 0) count) (hlen : rs.length ≤ 4294967295) (hrows : ∀ r ∈ rs, r.rows.length ≤ 4294967296)
    (hm : MayOk rs count k neg n s) (hk15 : k ≠ 15) (hlf : leafF k = true) :
    Calls Tryz.prog 113 #[.pointer (some ⟨bp, 0, none⟩), .agg #[.int .i64 k, .bool neg, .int .u64 n, .string s]] w (BuildPost base bp (.int .i64 0) (addC (rs.map Raw.c) ⟨k, neg, n, s, []⟩).1 (addC (rs.map Raw.c) ⟨k, neg, n, s, []⟩).2 (count + 1) w) := by
  have hcl := hm.2.2.1
  have hbel := ((Below.refl _ w).alloc (Nat.le_refl _) (.cells #[.pointer (some ⟨bp, 0, none⟩)] 82)).alloc (by simp) (.cells #[.int .i64 k, .bool neg, .int .u64 n, .string s] 141)
  have xb := (Boxed.new w 82 (.pointer (some ⟨bp, 0, none⟩))).alloc (.cells #[.int .i64 k, .bool neg, .int .u64 n, .string s] 141)
  have RE := Blk.new (w.alloc (.cells #[.pointer (some ⟨bp, 0, none⟩)] 82)) 141 #[.int .i64 k, .bool neg, .int .u64 n, .string s]
  rw [World.size_alloc] at RE
  have x0 := RE.cell (i := 0) rfl
  have x1 := RE.cell (i := 1) rfl
  have x2 := RE.cell (i := 2) rfl
  have x3 := RE.cell (i := 3) rfl
  have x4 := xb.cell
  have hO1 := hO.below hbel
  have hB1 := (hB.alloc (.cells #[.pointer (some ⟨bp, 0, none⟩)] 82)).alloc (.cells #[.int .i64 k, .bool neg, .int .u64 n, .string s] 141)
  have b0 := hB1.c0
  have b2 := hB1.c2
  have hk := (show (k == 15) = false by simpa using hk15)
  have HN := Lib.hid (none_any bp _ b0)
  have HM := Lib.hid (may_any base bp ov rs count k neg n s _ hs hO1 hB1 hm)
  have hR := right_any k neg n s
  unfold RightPost at hR
  rw [hm.1] at hR
  have HR := Lib.hid (fun W => hR W (by omega))
  have HL := Lib.hid (fun W => leaf_any k (.bool neg) (.int .u64 n) (.string s) (.slice none 0 0) W)
  have HO1 := Lib.hid hO1
  have HB1 := Lib.hid hB1
  have HX := Lib.hid xb
  have HRE := Lib.hid RE
  have hcn : (count : Int) < 65536 := by omega
  clear hm hO hB hO1 hB1 hk15 hR xb RE
  go_enter Tryz.func113, Tryz.ntmps113
  go_wp2_with (first
    | (go_at_call 71; refine HN.out.mono ?_; rintro e w1 ⟨rfl, rfl⟩)
    | (go_at_call 146; refine HM.out.mono ?_; rintro e w2 ⟨rfl, hb2⟩; have hB2 := HB1.out.below hb2; have hO2 := HO1.out.below hb2; have xb2 := (show Boxed w2 w.heap.size 82 _ from (hb2.block _ HX.out.lt).trans HX.out); have RE2 := HRE.out.below hb2 HRE.out.lt; have y4 := xb2.cell; have y0 := RE2.cell (i := 0) rfl; have y1 := RE2.cell (i := 1) rfl; have y2 := RE2.cell (i := 2) rfl; have y3 := RE2.cell (i := 3) rfl; have c8 := hB2.c8; have cf := hB2.fz 8; have hC := counted hO2 hB2 hbp; have hX3 := far_two hB2 xb2 RE2 (.int .i64 ((count : Int) + 1)); have HCt := Lib.hid hC; have xb3 := hX3.1; have z0 := hX3.2.cell (i := 0) rfl; have z1 := hX3.2.cell (i := 1) rfl; have z2 := hX3.2.cell (i := 2) rfl; have z3 := hX3.2.cell (i := 3) rfl; have z4 := xb3.cell; clear hB2 hO2 xb2 RE2 hC)
    | (go_at_call 147; refine (HR.out _).mono ?_; rintro e w3 ⟨rfl, hb3⟩; (obtain ⟨hO3, hB3, hbt3⟩ := HCt.out _ rfl); have hO4 := (hO3.below hb3).below ((Below.refl _ w3).alloc (Nat.le_refl _) (.cells #[.int .i64 k, .bool neg, .int .u64 n, .string s, .slice none 0 0] 25)); have hB4 := (hB3.below hb3).alloc (.cells #[.int .i64 k, .bool neg, .int .u64 n, .string s, .slice none 0 0] 25); have xb4 := (show Boxed w3 w.heap.size 82 _ from (hb3.block _ xb3.lt).trans xb3).alloc (.cells #[.int .i64 k, .bool neg, .int .u64 n, .string s, .slice none 0 0] 25); have RV := Row5.new w3 (.int .i64 k) (.bool neg) (.int .u64 n) (.string s) (.slice none 0 0); have v0 := RV.c0; have v1 := RV.c1; have v2 := RV.c2; have v3 := RV.c3; have v4 := RV.c4; have w4 := xb4.cell; have HB4 := Lib.hid hB4; have HO4 := Lib.hid hO4; have HXB4 := Lib.hid xb4; have HBT := Lib.hid ((((Built.of_below hbel hbase).trans (Built.of_below hb2 (Nat.le_trans hbase hbel.size))).trans hbt3).trans ((Built.of_below hb3 (Nat.le_trans hbase (Nat.le_trans (Nat.le_trans hbel.size hb2.size) hbt3.size))).trans (Built.of_below ((Below.refl _ w3).alloc (Nat.le_refl _) (.cells #[.int .i64 k, .bool neg, .int .u64 n, .string s, .slice none 0 0] 25)) (Nat.le_trans hbase (Nat.le_trans (Nat.le_trans (Nat.le_trans hbel.size hb2.size) hbt3.size) hb3.size))))); clear hO3 hB3 hbt3 hO4 hB4 xb4 HCt)
    | (go_at_call 33; refine (HL.out _).mono ?_; rintro e w5 ⟨rfl, hb5⟩; rw [hlf]; have hO5 := HO4.out.below hb5; have hB5 := HB4.out.below hb5; have R5 := (show Row5 w5 w3.heap.size _ _ _ _ _ from (hb5.block _ RV.lt).trans RV); have v0 := R5.c0; have v1 := R5.c1; have v2 := R5.c2; have v3 := R5.c3; have v4 := R5.c4; have xb5 := (show Boxed w5 w.heap.size 82 _ from (hb5.block _ HXB4.out.lt).trans HXB4.out); have w5' := xb5.cell; have hbb5 := HBT.out.trans (Built.of_below hb5 (Nat.le_trans hbase HBT.out.size)); have HA := Lib.hid (add_any base bp rs ov (⟨k, neg, n, s, []⟩, none, 0) (count + 1) w5 (Nat.le_trans hbase hbb5.size) hbp hO5 hB5 ⟨Nat.le_refl _, by simp [Tree]⟩ (by omega) hrows); clear hO5 hB5 R5 xb5)
    | (go_at_call 118; refine HA.out.mono ?_; rintro e w6 ⟨rfl, hbi, hbt6⟩))
  go_ret
  exact ⟨rfl, hbi, hbb5.trans hbt6⟩
set_option maxRecDepth 100000 in
set_option maxHeartbeats 8000000 in
theorem put_open (base bp : Nat) (rs : List Raw) (ov : Value) (count : Nat) (k : Int) (n : Int) (w : World) (hbase : base ≤ w.heap.size) (hbp : base ≤ bp) (hO : OpenIs w base (Lo base) ov rs) (hB : Bb w bp ov false (.int .i64 0) (.bool false) (.int .u64 0) (.string ⟨#[]⟩) (.slice none 0 0) count) (hlen : rs.length ≤ 4294967295) (hrows : ∀ r ∈ rs, r.rows.length ≤ 4294967296)
    (hm : MayOk rs count k false n ⟨#[]⟩) (hk15 : k ≠ 15) (hlf : leafF k = false) :
    Calls Tryz.prog 113 #[.pointer (some ⟨bp, 0, none⟩), .agg #[.int .i64 k, .bool false, .int .u64 n, .string ⟨#[]⟩]] w (BuildPost base bp (.int .i64 0) (⟨k, n, []⟩ :: rs.map Raw.c) none (count + 1) w) := by
  have hcl := hm.2.2.1
  have hbel := ((Below.refl _ w).alloc (Nat.le_refl _) (.cells #[.pointer (some ⟨bp, 0, none⟩)] 82)).alloc (by simp) (.cells #[.int .i64 k, .bool false, .int .u64 n, .string ⟨#[]⟩] 141)
  have xb := (Boxed.new w 82 (.pointer (some ⟨bp, 0, none⟩))).alloc (.cells #[.int .i64 k, .bool false, .int .u64 n, .string ⟨#[]⟩] 141)
  have RE := Blk.new (w.alloc (.cells #[.pointer (some ⟨bp, 0, none⟩)] 82)) 141 #[.int .i64 k, .bool false, .int .u64 n, .string ⟨#[]⟩]
  rw [World.size_alloc] at RE
  have x0 := RE.cell (i := 0) rfl
  have x1 := RE.cell (i := 1) rfl
  have x2 := RE.cell (i := 2) rfl
  have x3 := RE.cell (i := 3) rfl
  have x4 := xb.cell
  have hO1 := hO.below hbel
  have hB1 := (hB.alloc (.cells #[.pointer (some ⟨bp, 0, none⟩)] 82)).alloc (.cells #[.int .i64 k, .bool false, .int .u64 n, .string ⟨#[]⟩] 141)
  have b0 := hB1.c0
  have b2 := hB1.c2
  have hk := (show (k == 15) = false by simpa using hk15)
  have HN := Lib.hid (none_any bp _ b0)
  have HM := Lib.hid (may_any base bp ov rs count k false n ⟨#[]⟩ _ (Nat.zero_le _) hO1 hB1 hm)
  have hR := right_any k false n ⟨#[]⟩
  unfold RightPost at hR
  rw [hm.1] at hR
  have HR := Lib.hid (fun W => hR W (Nat.zero_le _))
  have HL := Lib.hid (fun W => leaf_any k (.bool false) (.int .u64 n) (.string ⟨#[]⟩) (.slice none 0 0) W)
  have HO1 := Lib.hid hO1
  have HB1 := Lib.hid hB1
  have HX := Lib.hid xb
  have HRE := Lib.hid RE
  have hcn : (count : Int) < 65536 := by omega
  clear hm hO hB hO1 hB1 hk15 hR xb RE
  go_enter Tryz.func113, Tryz.ntmps113
  go_wp2_with (first
    | (go_at_call 71; refine HN.out.mono ?_; rintro e w1 ⟨rfl, rfl⟩)
    | (go_at_call 146; refine HM.out.mono ?_; rintro e w2 ⟨rfl, hb2⟩; have hB2 := HB1.out.below hb2; have hO2 := HO1.out.below hb2; have xb2 := (show Boxed w2 w.heap.size 82 _ from (hb2.block _ HX.out.lt).trans HX.out); have RE2 := HRE.out.below hb2 HRE.out.lt; have y4 := xb2.cell; have y0 := RE2.cell (i := 0) rfl; have y1 := RE2.cell (i := 1) rfl; have y2 := RE2.cell (i := 2) rfl; have y3 := RE2.cell (i := 3) rfl; have c8 := hB2.c8; have cf := hB2.fz 8; have hC := counted hO2 hB2 hbp; have hX3 := far_two hB2 xb2 RE2 (.int .i64 ((count : Int) + 1)); have HCt := Lib.hid hC; have xb3 := hX3.1; have z0 := hX3.2.cell (i := 0) rfl; have z1 := hX3.2.cell (i := 1) rfl; have z2 := hX3.2.cell (i := 2) rfl; have z3 := hX3.2.cell (i := 3) rfl; have z4 := xb3.cell; clear hB2 hO2 xb2 RE2 hC)
    | (go_at_call 147; refine (HR.out _).mono ?_; rintro e w3 ⟨rfl, hb3⟩; (obtain ⟨hO3, hB3, hbt3⟩ := HCt.out _ rfl); have hO4 := (hO3.below hb3).below ((Below.refl _ w3).alloc (Nat.le_refl _) (.cells #[.int .i64 k, .bool false, .int .u64 n, .string ⟨#[]⟩, .slice none 0 0] 25)); have hB4 := (hB3.below hb3).alloc (.cells #[.int .i64 k, .bool false, .int .u64 n, .string ⟨#[]⟩, .slice none 0 0] 25); have xb4 := (show Boxed w3 w.heap.size 82 _ from (hb3.block _ xb3.lt).trans xb3).alloc (.cells #[.int .i64 k, .bool false, .int .u64 n, .string ⟨#[]⟩, .slice none 0 0] 25); have RV := Row5.new w3 (.int .i64 k) (.bool false) (.int .u64 n) (.string ⟨#[]⟩) (.slice none 0 0); have v0 := RV.c0; have v1 := RV.c1; have v2 := RV.c2; have v3 := RV.c3; have v4 := RV.c4; have w4 := xb4.cell; have HB4 := Lib.hid hB4; have HO4 := Lib.hid hO4; have HXB4 := Lib.hid xb4; have HBT := Lib.hid ((((Built.of_below hbel hbase).trans (Built.of_below hb2 (Nat.le_trans hbase hbel.size))).trans hbt3).trans ((Built.of_below hb3 (Nat.le_trans hbase (Nat.le_trans (Nat.le_trans hbel.size hb2.size) hbt3.size))).trans (Built.of_below ((Below.refl _ w3).alloc (Nat.le_refl _) (.cells #[.int .i64 k, .bool false, .int .u64 n, .string ⟨#[]⟩, .slice none 0 0] 25)) (Nat.le_trans hbase (Nat.le_trans (Nat.le_trans (Nat.le_trans hbel.size hb2.size) hbt3.size) hb3.size))))); clear hO3 hB3 hbt3 hO4 hB4 xb4 HCt)
    | (go_at_call 33; refine (HL.out _).mono ?_; rintro e w5 ⟨rfl, hb5⟩; rw [hlf]; have hO5 := HO4.out.below hb5; have hB5 := HB4.out.below hb5; have R5 := (show Row5 w5 w3.heap.size _ _ _ _ _ from (hb5.block _ RV.lt).trans RV); have v0 := R5.c0; have v1 := R5.c1; have v2 := R5.c2; have v3 := R5.c3; have v4 := R5.c4; have xb5 := (show Boxed w5 w.heap.size 82 _ from (hb5.block _ HXB4.out.lt).trans HXB4.out); have w5' := xb5.cell; have hbb5 := HBT.out.trans (Built.of_below hb5 (Nat.le_trans hbase HBT.out.size)); have HA := Lib.hid (put1_any base bp w.heap.size rs ov k n (count + 1) w5 (Nat.le_trans hbase hbb5.size) hbp hO5 hB5 xb5 (by omega)); clear hO5 hB5 R5 xb5)
    | (go_at_call 148; refine HA.out.mono ?_; rintro e w6 ⟨rfl, hbi, hbt6⟩))
  go_ret
  exact ⟨rfl, hbi, hbb5.trans hbt6⟩
end Go.Proofs.YtfmceonbejlhlaaGreatDoor
