import Derived.Test.YtfmceonbejlhlaaGreatDoorMWs5
namespace Go.Proofs.YtfmceonbejlhlaaGreatDoor.P
open Go.RowKit Go.Proofs.YtfmceonbejlhlaaGreatDoorW.PrintWords Go.Proofs.YtfmceonbejlhlaaGreatDoorW.PrintLast Go.Proofs.YtfmceonbejlhlaaGreatDoorW.PrintMore
attribute [local go_sem] Qbx Qbw max_two min_two Qbr Qbs Qbv Qbt   -- for this text's walks alone
set_option linter.unusedVariables false
set_option linter.unusedSimpArgs false
mutual
def Qan.j0:Nat→Bool→Int→Bool→Int→ByteArray→List (S25)→Option (Bool)
 | 0,_,_,_,_,_,_=>none
 | k+1,x27,x109000,x109001,x109002,x109003,x109004=>if x27=true then (some false) else ((Qa6.f k x109000).bind fun t109=>(if t109<64 then (if 0≤t109 then (Qan.j1 k ((shr .u64 x109002 t109) != 0) x109000 x109001 x109002 x109003 x109004) else (none)) else (Qan.j1 k false x109000 x109001 x109002 x109003 x109004)))
def Qan.j1:Nat→Bool→Int→Bool→Int→ByteArray→List (S25)→Option (Bool)
 | 0,_,_,_,_,_,_=>none
 | k+1,x39,x109000,x109001,x109002,x109003,x109004=>if x39=true then (some false) else (if x109000=10 then ((utf_Check.f x109003).bind fun bt110=>(some (bt110.2 == 0))) else (if x109000=9 then (Qan.j2 k x109000 (x109000 == 9) x109000 x109001 x109002 x109003 x109004) else (Qan.j2 k x109000 (x109000 == 14) x109000 x109001 x109002 x109003 x109004)))
def Qan.j2:Nat→Int→Bool→Int→Bool→Int→ByteArray→List (S25)→Option (Bool)
 | 0,_,_,_,_,_,_,_=>none
 | k+1,x41,x52,x109000,x109001,x109002,x109003,x109004=>if x52=true then (some true) else (if x41=5 then ((Qb4.f x109003).bind fun t112=>(some t112)) else (if x41=3 then (if x109002 > 19 then (if x109002<32 then (some false) else (some (x109003.toList == ([]:List UInt8)))) else (some (x109003.toList == ([]:List UInt8)))) else (if x41=12 then (if ((x109004.length:Int) % 2)=0 then (some (x109003.toList == ([]:List UInt8))) else (some false)) else (if x41=13 then (if (x109004.length:Int)=1 then (if (x109002 / 2)=1 then (if 0<(x109004.length:Int) then (if ((Qbe x109004 0).f0)=9 then ((Qb4.f ((Qbe x109004 0).f3)).bind fun t115=>(if t115=true then (some false) else (some (x109003.toList == ([]:List UInt8))))) else (some (x109003.toList == ([]:List UInt8)))) else (none)) else (some (x109003.toList == ([]:List UInt8)))) else (some false)) else (some (x109003.toList == ([]:List UInt8)))))))
end
def Qan.f (k:Nat) (a0_0:Int) (a0_1:Bool) (a0_2:Int) (a0_3:ByteArray) (l0_4:List (S25)):Option (Bool):=if a0_0<0 then (Qan.j0 k true a0_0 a0_1 a0_2 a0_3 l0_4) else (if a0_0 > 14 then (Qan.j0 k true a0_0 a0_1 a0_2 a0_3 l0_4) else (if a0_1=true then (if a0_0=4 then (Qan.j0 k false a0_0 a0_1 a0_2 a0_3 l0_4) else (Qan.j0 k (a0_0 != 5) a0_0 a0_1 a0_2 a0_3 l0_4)) else (Qan.j0 k false a0_0 a0_1 a0_2 a0_3 l0_4)))
set_option maxHeartbeats 8000000 in
set_option maxRecDepth 100000 in
theorem Qan.calls (k:Nat) (a0_0:Int) (a0_1:Bool) (a0_2:Int) (a0_3:ByteArray) (A0_4:Option Addr) (c0_4:Nat) (l0_4:List (S25)) (r:Bool) (w:World) (hr0_4:Kd.C k25 w A0_4 l0_4.length l0_4) (hc0_4:l0_4.length≤c0_4) (h:Qan.f k a0_0 a0_1 a0_2 a0_3 l0_4=some r) :
 Calls Tryz.prog 34 #[.agg #[.int .i64 a0_0,.bool a0_1,.int .u64 a0_2,.string a0_3,.slice A0_4 l0_4.length c0_4]] w fun e w'=>e=.returned (.bool r)∧Below w.heap.size w w':=by
 have hu25:=Tryz.underlying25
 have HR0_4:=Aside0.mk hr0_4
 have HC0_4:=Aside0.mk hc0_4
 clear hr0_4 hc0_4
 have HB:=Aside0.mk (Below.refl w.heap.size w)
 have H:(if a0_0<0 then (Qan.j0 k true a0_0 a0_1 a0_2 a0_3 l0_4) else (if a0_0 > 14 then (Qan.j0 k true a0_0 a0_1 a0_2 a0_3 l0_4) else (if a0_1=true then (if a0_0=4 then (Qan.j0 k false a0_0 a0_1 a0_2 a0_3 l0_4) else (Qan.j0 k (a0_0 != 5) a0_0 a0_1 a0_2 a0_3 l0_4)) else (Qan.j0 k false a0_0 a0_1 a0_2 a0_3 l0_4))))=some r:=h
 clear h
 have HC2:=Aside0.mk H
 clear H
 go_enter Tryz.func34,Tryz.ntmps34
 go_upto_region 1 with (first | ((with_reducible refine Qbb (N:=1) rfl ?_);refine Qa9 ?hg (N:=1) ?hd (cs:=#[.int .i64 a0_0,.bool a0_1,.int .u64 a0_2,.string a0_3,.slice A0_4 l0_4.length c0_4]) (t:=25) ?hr ?_;(case hd=>rfl);(case hg=>rfl);(case hr=>first | (go_simp;done) | (go_simp;rfl));intro gb108 hg w3 hbox hb;have n0_:=Aside0.mk (Qav (by repeat (first | (with_reducible first | exact HB.out | apply Qae | apply Qab | apply Qad) | exact HB.out)) hb);have n1_:=Aside0.mk (hbox);have n2_:=Aside0.mk ((by rw [hg];exact (Qao (by repeat (first | (with_reducible first | exact HB.out | apply Qae | apply Qab | apply Qad) | exact HB.out))):w.heap.size≤gb108));have n3_:=Aside0.mk ((by rw [hg];exact (Qao (by repeat (first | (with_reducible first | exact HB.out | apply Qae | apply Qab | apply Qad) | exact HB.out))):w.heap.size≤gb108));clear HB;have HB:=n0_;have BK108:=n1_;have GW108:=n2_;have GE108:=n3_;clear n0_ n1_ n2_ n3_;clear hb hbox hg))
 (try simp only [Act.put,List.setIfInBounds_toArray,List.set_cons_zero,List.set_cons_succ])
 go_cut [27] (fun v27 wc=>∃ (kq:Nat) (x27_1:Bool),v27=.bool x27_1∧Aside0 (Qan.j0 kq x27_1 a0_0 a0_1 a0_2 a0_3 l0_4=some r)∧Aside0 (kq≤k)∧Aside0 (wc.heap[gb108]? = some (.cells #[.int .i64 a0_0,.bool a0_1,.int .u64 a0_2,.string a0_3,(.slice A0_4 l0_4.length c0_4)] 25 (0,0)))∧Aside0 (Below w.heap.size w wc))
 case first =>
  have H:=HC2.out
  clear HC2
  by_cases c4:a0_0<0
  · rw [if_pos c4] at H
    have c4b0:decide (a0_0<0)=true:=decide_eq_true c4
    clear c4
    (first | rw [c4b0] | (simp only [i64_w,i32_w];rw [c4b0]) | skip)
    have H':=Aside0.mk H
    clear H
    have hcz5_0:w3.cell? ⟨gb108,0,none⟩=some (.int .i64 a0_0):=(Qaa BK108.out 0).trans rfl
    have hcz5_1:w3.cell? ⟨gb108,1,none⟩=some (.bool a0_1):=(Qaa BK108.out 1).trans rfl
    have hcz5_2:w3.cell? ⟨gb108,2,none⟩=some (.int .u64 a0_2):=(Qaa BK108.out 2).trans rfl
    have hcz5_3:w3.cell? ⟨gb108,3,none⟩=some (.string a0_3):=(Qaa BK108.out 3).trans rfl
    have hcz5_4:w3.cell? ⟨gb108,4,none⟩=some (.slice A0_4 l0_4.length c0_4):=(Qaa BK108.out 4).trans rfl
    have hfz5_0:=Qac BK108.out 0
    have hfz5_1:=Qac BK108.out 1
    have hfz5_2:=Qac BK108.out 2
    have hfz5_3:=Qac BK108.out 3
    have hfz5_4:=Qac BK108.out 4
    go_wp2
    go_meet
    case rel => exact ⟨_, (true), (by first | rfl | (simp; done) | (simp [*]; done)), H', ⟨by first | omega | exact Nat.le_refl _⟩, ⟨by (with_reducible repeat (first | refine Qaj ?_ _ | refine Qai ?_ | refine Qak ?_ _)); exact BK108.out⟩, ⟨by repeat (first | (with_reducible first | exact HB.out | apply Qae | apply Qab | apply Qad | refine Qaf ?_ GE108.out) | exact HB.out)⟩⟩
  · rw [if_neg c4] at H
    have c4b0:decide (a0_0<0)=false:=decide_eq_false c4
    clear c4
    (first | rw [c4b0] | (simp only [i64_w,i32_w];rw [c4b0]) | skip)
    by_cases c6:a0_0 > 14
    · rw [if_pos c6] at H
      have c6b0:decide (14<a0_0)=true:=decide_eq_true c6
      clear c6
      have H':=Aside0.mk H
      clear H
      have hcz7_0:w3.cell? ⟨gb108,0,none⟩=some (.int .i64 a0_0):=(Qaa BK108.out 0).trans rfl
      have hcz7_1:w3.cell? ⟨gb108,1,none⟩=some (.bool a0_1):=(Qaa BK108.out 1).trans rfl
      have hcz7_2:w3.cell? ⟨gb108,2,none⟩=some (.int .u64 a0_2):=(Qaa BK108.out 2).trans rfl
      have hcz7_3:w3.cell? ⟨gb108,3,none⟩=some (.string a0_3):=(Qaa BK108.out 3).trans rfl
      have hcz7_4:w3.cell? ⟨gb108,4,none⟩=some (.slice A0_4 l0_4.length c0_4):=(Qaa BK108.out 4).trans rfl
      have hfz7_0:=Qac BK108.out 0
      have hfz7_1:=Qac BK108.out 1
      have hfz7_2:=Qac BK108.out 2
      have hfz7_3:=Qac BK108.out 3
      have hfz7_4:=Qac BK108.out 4
      go_wp2
      go_meet
      case rel => exact ⟨_, (true), (by first | rfl | (simp; done) | (simp [*]; done)), H', ⟨by first | omega | exact Nat.le_refl _⟩, ⟨by (with_reducible repeat (first | refine Qaj ?_ _ | refine Qai ?_ | refine Qak ?_ _)); exact BK108.out⟩, ⟨by repeat (first | (with_reducible first | exact HB.out | apply Qae | apply Qab | apply Qad | refine Qaf ?_ GE108.out) | exact HB.out)⟩⟩
    · rw [if_neg c6] at H
      have c6b0:decide (14<a0_0)=false:=decide_eq_false c6
      clear c6
      by_cases c8:a0_1=true
      · subst c8
        have H1:(if a0_0=4 then (Qan.j0 k false a0_0 true a0_2 a0_3 l0_4) else (Qan.j0 k (a0_0 != 5) a0_0 true a0_2 a0_3 l0_4))=some r:=by rw [if_pos rfl] at H;exact H
        clear H
        have H:=H1
        clear H1
        by_cases c9:a0_0=4
        · rw [if_pos c9] at H
          have c9b0:(a0_0 == 4)=true:=beq_iff_eq.mpr c9
          have c9b1:(a0_0 != 4)=false:=bne_eq_false_iff_eq.mpr c9
          clear c9
          have H':=Aside0.mk H
          clear H
          have hcz10_0:w3.cell? ⟨gb108,0,none⟩=some (.int .i64 a0_0):=(Qaa BK108.out 0).trans rfl
          have hcz10_1:w3.cell? ⟨gb108,1,none⟩=some (.bool true):=(Qaa BK108.out 1).trans rfl
          have hcz10_2:w3.cell? ⟨gb108,2,none⟩=some (.int .u64 a0_2):=(Qaa BK108.out 2).trans rfl
          have hcz10_3:w3.cell? ⟨gb108,3,none⟩=some (.string a0_3):=(Qaa BK108.out 3).trans rfl
          have hcz10_4:w3.cell? ⟨gb108,4,none⟩=some (.slice A0_4 l0_4.length c0_4):=(Qaa BK108.out 4).trans rfl
          have hfz10_0:=Qac BK108.out 0
          have hfz10_1:=Qac BK108.out 1
          have hfz10_2:=Qac BK108.out 2
          have hfz10_3:=Qac BK108.out 3
          have hfz10_4:=Qac BK108.out 4
          go_wp2
          go_meet
          case rel => exact ⟨_, (false), (by first | rfl | (simp; done) | (simp [*]; done)), H', ⟨by first | omega | exact Nat.le_refl _⟩, ⟨by (with_reducible repeat (first | refine Qaj ?_ _ | refine Qai ?_ | refine Qak ?_ _)); exact BK108.out⟩, ⟨by repeat (first | (with_reducible first | exact HB.out | apply Qae | apply Qab | apply Qad | refine Qaf ?_ GE108.out) | exact HB.out)⟩⟩
        · rw [if_neg c9] at H
          have c9b0:(a0_0 == 4)=false:=beq_eq_false_iff_ne.mpr c9
          have c9b1:(a0_0 != 4)=true:=bne_iff_ne.mpr c9
          have H':=Aside0.mk H
          clear H
          have hcz11_0:w3.cell? ⟨gb108,0,none⟩=some (.int .i64 a0_0):=(Qaa BK108.out 0).trans rfl
          have hcz11_1:w3.cell? ⟨gb108,1,none⟩=some (.bool true):=(Qaa BK108.out 1).trans rfl
          have hcz11_2:w3.cell? ⟨gb108,2,none⟩=some (.int .u64 a0_2):=(Qaa BK108.out 2).trans rfl
          have hcz11_3:w3.cell? ⟨gb108,3,none⟩=some (.string a0_3):=(Qaa BK108.out 3).trans rfl
          have hcz11_4:w3.cell? ⟨gb108,4,none⟩=some (.slice A0_4 l0_4.length c0_4):=(Qaa BK108.out 4).trans rfl
          have hfz11_0:=Qac BK108.out 0
          have hfz11_1:=Qac BK108.out 1
          have hfz11_2:=Qac BK108.out 2
          have hfz11_3:=Qac BK108.out 3
          have hfz11_4:=Qac BK108.out 4
          go_wp2
          go_meet
          case rel => exact ⟨_, ((a0_0 != 5)), (by first | rfl | (simp; done) | (simp [*]; done)), H', ⟨by first | omega | exact Nat.le_refl _⟩, ⟨by (with_reducible repeat (first | refine Qaj ?_ _ | refine Qai ?_ | refine Qak ?_ _)); exact BK108.out⟩, ⟨by repeat (first | (with_reducible first | exact HB.out | apply Qae | apply Qab | apply Qad | refine Qaf ?_ GE108.out) | exact HB.out)⟩⟩
      · replace c8:=Bool.eq_false_iff.mpr c8
        subst c8
        have H1:(Qan.j0 k false a0_0 false a0_2 a0_3 l0_4)=some r:=by rw [if_neg (show ¬ (false=true) by decide)] at H;exact H
        clear H
        have H:=H1
        clear H1
        have H':=Aside0.mk H
        clear H
        have hcz12_0:w3.cell? ⟨gb108,0,none⟩=some (.int .i64 a0_0):=(Qaa BK108.out 0).trans rfl
        have hcz12_1:w3.cell? ⟨gb108,1,none⟩=some (.bool false):=(Qaa BK108.out 1).trans rfl
        have hcz12_2:w3.cell? ⟨gb108,2,none⟩=some (.int .u64 a0_2):=(Qaa BK108.out 2).trans rfl
        have hcz12_3:w3.cell? ⟨gb108,3,none⟩=some (.string a0_3):=(Qaa BK108.out 3).trans rfl
        have hcz12_4:w3.cell? ⟨gb108,4,none⟩=some (.slice A0_4 l0_4.length c0_4):=(Qaa BK108.out 4).trans rfl
        have hfz12_0:=Qac BK108.out 0
        have hfz12_1:=Qac BK108.out 1
        have hfz12_2:=Qac BK108.out 2
        have hfz12_3:=Qac BK108.out 3
        have hfz12_4:=Qac BK108.out 4
        go_wp2
        go_meet
        case rel => exact ⟨_, (false), (by first | rfl | (simp; done) | (simp [*]; done)), H', ⟨by first | omega | exact Nat.le_refl _⟩, ⟨by (with_reducible repeat (first | refine Qaj ?_ _ | refine Qai ?_ | refine Qak ?_ _)); exact BK108.out⟩, ⟨by repeat (first | (with_reducible first | exact HB.out | apply Qae | apply Qab | apply Qad | refine Qaf ?_ GE108.out) | exact HB.out)⟩⟩
 case rest =>
  clear HC2
  try clear p2
  try clear c3
  try clear c4
  try clear c4b0
  try clear c6
  try clear c6b0
  try clear c8
  try clear c9
  try clear c9b0
  try clear c9b1
  try clear hcz10_0
  try clear hcz10_1
  try clear hcz10_2
  try clear hcz10_3
  try clear hcz10_4
  try clear hcz11_0
  try clear hcz11_1
  try clear hcz11_2
  try clear hcz11_3
  try clear hcz11_4
  try clear hcz12_0
  try clear hcz12_1
  try clear hcz12_2
  try clear hcz12_3
  try clear hcz12_4
  try clear hcz5_0
  try clear hcz5_1
  try clear hcz5_2
  try clear hcz5_3
  try clear hcz5_4
  try clear hcz7_0
  try clear hcz7_1
  try clear hcz7_2
  try clear hcz7_3
  try clear hcz7_4
  try clear hfz10_0
  try clear hfz10_1
  try clear hfz10_2
  try clear hfz10_3
  try clear hfz10_4
  try clear hfz11_0
  try clear hfz11_1
  try clear hfz11_2
  try clear hfz11_3
  try clear hfz11_4
  try clear hfz12_0
  try clear hfz12_1
  try clear hfz12_2
  try clear hfz12_3
  try clear hfz12_4
  try clear hfz5_0
  try clear hfz5_1
  try clear hfz5_2
  try clear hfz5_3
  try clear hfz5_4
  try clear hfz7_0
  try clear hfz7_1
  try clear hfz7_2
  try clear hfz7_3
  try clear hfz7_4
  obtain ⟨kq,x27_1,rfl,HA,HJ1,BK108,HB⟩:=hcut
  cases kq with
  | zero=>exact absurd HA.out (by simp [Qan.j0])
  | succ kj1 =>
    have H:=HA.out
    clear HA
    simp only [Qan.j0] at H
    by_cases c13:x27_1=true
    · subst c13
      have H1:(some false)=some r:=by rw [if_pos rfl] at H;exact H
      clear H
      have H:=H1
      clear H1
      obtain rfl:=Option.some.inj H
      go_wp2
      go_ret
      exact ⟨by first | rfl | (simp [errW_none,Qag] <;> rfl) | (simp [*,errW_none,Qag] <;> rfl),by repeat (first | (with_reducible first | exact HB.out | apply Qae | apply Qab | apply Qad | refine Qaf ?_ GE108.out) | exact HB.out)⟩
    · replace c13:=Bool.eq_false_iff.mpr c13
      subst c13
      have H1:((Qa6.f kj1 a0_0).bind fun t109=>(if t109<64 then (if 0≤t109 then (Qan.j1 kj1 ((shr .u64 a0_2 t109) != 0) a0_0 a0_1 a0_2 a0_3 l0_4) else (none)) else (Qan.j1 kj1 false a0_0 a0_1 a0_2 a0_3 l0_4)))=some r:=by rw [if_neg (show ¬ (false=true) by decide)] at H;exact H
      clear H
      have H:=H1
      clear H1
      replace H:=Option.bind_eq_some_iff.mp H
      obtain ⟨t109,A140,H⟩:=H
      replace H:(if t109<64 then (if 0≤t109 then (Qan.j1 kj1 ((shr .u64 a0_2 t109) != 0) a0_0 a0_1 a0_2 a0_3 l0_4) else (none)) else (Qan.j1 kj1 false a0_0 a0_1 a0_2 a0_3 l0_4))=some r:=H
      have A14:=Aside0.mk A140
      clear A140
      have HC15:=Aside0.mk H
      clear H
      have hcz16_0:wc.cell? ⟨gb108,0,none⟩=some (.int .i64 a0_0):=(Qaa BK108.out 0).trans rfl
      have hcz16_1:wc.cell? ⟨gb108,1,none⟩=some (.bool a0_1):=(Qaa BK108.out 1).trans rfl
      have hcz16_2:wc.cell? ⟨gb108,2,none⟩=some (.int .u64 a0_2):=(Qaa BK108.out 2).trans rfl
      have hcz16_3:wc.cell? ⟨gb108,3,none⟩=some (.string a0_3):=(Qaa BK108.out 3).trans rfl
      have hcz16_4:wc.cell? ⟨gb108,4,none⟩=some (.slice A0_4 l0_4.length c0_4):=(Qaa BK108.out 4).trans rfl
      have hfz16_0:=Qac BK108.out 0
      have hfz16_1:=Qac BK108.out 1
      have hfz16_2:=Qac BK108.out 2
      have hfz16_3:=Qac BK108.out 3
      have hfz16_4:=Qac BK108.out 4
      go_upto_region 4 with (first | ((with_reducible refine Qcf (f:=62) rfl ?_);refine goesL_ (some 30) rfl rfl Tryz.func62 (by kernel_rfl) rfl #[.int .i64 a0_0] rfl (by (try simp only [List.map_toArray,List.map_cons,List.map_nil]);first | done | rfl | (simp only [List.length_drop,List.length_take];rfl)) ?_;(with_reducible refine (Qa6.calls kj1 a0_0 t109 _ A14.out).mono ?_);rintro e w' ⟨rfl,⟨nd,rfl⟩⟩;refine ⟨_,rfl,?_⟩))
      (try simp only [Act.put,List.setIfInBounds_toArray,List.set_cons_zero,List.set_cons_succ])
      go_cut [39] (fun v39 wc=>∃ (kq:Nat) (x39_14:Bool),v39=.bool x39_14∧Aside0 (Qan.j1 kq x39_14 a0_0 a0_1 a0_2 a0_3 l0_4=some r)∧Aside0 (kq≤kj1)∧Aside0 (wc.heap[gb108]? = some (.cells #[.int .i64 a0_0,.bool a0_1,.int .u64 a0_2,.string a0_3,(.slice A0_4 l0_4.length c0_4)] 25 (0,0)))∧Aside0 (Below w.heap.size w wc))
      case first =>
       have H:=HC15.out
       clear HC15
       by_cases c17:t109<64
       · rw [if_pos c17] at H
         have c17b0:decide (t109<64)=true:=decide_eq_true c17
         clear c17
         (first | rw [c17b0] | (simp only [i64_w,i32_w];rw [c17b0]) | skip)
         by_cases c18:0≤t109
         · rw [if_pos c18] at H
           have c18b0:=eq_true c18
           have c18b1:decide (0≤t109)=true:=decide_eq_true c18
           clear c18
           obtain ⟨ji19,hji19⟩:∃ j_:Int,(shr .u64 a0_2 t109)=j_:=⟨_,rfl⟩
           replace H:(Qan.j1 kj1 ((ji19) != 0) a0_0 a0_1 a0_2 a0_3 l0_4)=some r:=by first | (rw [hji19] at H;exact H) | (simp only [hji19] at H ⊢;exact H)
           have hji19_:(a0_2 / 2 ^ min t109.toNat 64)=ji19:=hji19
           have hji19z:t109≤64→(a0_2 / 2 ^ t109.toNat)=ji19:=shr_small hji19
           have H':=Aside0.mk H
           clear H
           have hcz20_0:wc.cell? ⟨gb108,0,none⟩=some (.int .i64 a0_0):=(Qaa BK108.out 0).trans rfl
           have hcz20_1:wc.cell? ⟨gb108,1,none⟩=some (.bool a0_1):=(Qaa BK108.out 1).trans rfl
           have hcz20_2:wc.cell? ⟨gb108,2,none⟩=some (.int .u64 a0_2):=(Qaa BK108.out 2).trans rfl
           have hcz20_3:wc.cell? ⟨gb108,3,none⟩=some (.string a0_3):=(Qaa BK108.out 3).trans rfl
           have hcz20_4:wc.cell? ⟨gb108,4,none⟩=some (.slice A0_4 l0_4.length c0_4):=(Qaa BK108.out 4).trans rfl
           have hfz20_0:=Qac BK108.out 0
           have hfz20_1:=Qac BK108.out 1
           have hfz20_2:=Qac BK108.out 2
           have hfz20_3:=Qac BK108.out 3
           have hfz20_4:=Qac BK108.out 4
           go_wp2
           go_meet
           case rel => exact ⟨_, (((ji19) != 0)), (by first | rfl | (simp; done) | (simp only [← hji19] <;> (first | rfl | simp)) | (simp [*]; done)), H', ⟨by have := HJ1.out; first | omega | exact Nat.le_refl _⟩, ⟨by (with_reducible repeat (first | refine Qaj ?_ _ | refine Qai ?_ | refine Qak ?_ _)); exact BK108.out⟩, ⟨by repeat (first | (with_reducible first | exact HB.out | apply Qae | apply Qab | apply Qad | refine Qaf ?_ GE108.out) | exact HB.out)⟩⟩
         · rw [if_neg c18] at H
           exact absurd H (by simp)
       · rw [if_neg c17] at H
         have c17b0:decide (t109<64)=false:=decide_eq_false c17
         clear c17
         (first | rw [c17b0] | (simp only [i64_w,i32_w];rw [c17b0]) | skip)
         have H':=Aside0.mk H
         clear H
         go_wp2
         go_meet
         case rel => exact ⟨_, (false), (by first | rfl | (simp; done) | (simp [*]; done)), H', ⟨by have := HJ1.out; first | omega | exact Nat.le_refl _⟩, ⟨by (with_reducible repeat (first | refine Qaj ?_ _ | refine Qai ?_ | refine Qak ?_ _)); exact BK108.out⟩, ⟨by repeat (first | (with_reducible first | exact HB.out | apply Qae | apply Qab | apply Qad | refine Qaf ?_ GE108.out) | exact HB.out)⟩⟩
      case rest =>
       clear HC15
       try clear c1
       try clear p2
       try clear c3
       try clear c4
       try clear c4b0
       try clear c6
       try clear c6b0
       try clear c8
       try clear c9
       try clear c9b0
       try clear c9b1
       try clear c13
       try clear c17
       try clear c17b0
       try clear c18
       try clear c18b0
       try clear c18b1
       try clear hcz10_0
       try clear hcz10_1
       try clear hcz10_2
       try clear hcz10_3
       try clear hcz10_4
       try clear hcz11_0
       try clear hcz11_1
       try clear hcz11_2
       try clear hcz11_3
       try clear hcz11_4
       try clear hcz12_0
       try clear hcz12_1
       try clear hcz12_2
       try clear hcz12_3
       try clear hcz12_4
       try clear hcz16_0
       try clear hcz16_1
       try clear hcz16_2
       try clear hcz16_3
       try clear hcz16_4
       try clear hcz20_0
       try clear hcz20_1
       try clear hcz20_2
       try clear hcz20_3
       try clear hcz20_4
       try clear hcz5_0
       try clear hcz5_1
       try clear hcz5_2
       try clear hcz5_3
       try clear hcz5_4
       try clear hcz7_0
       try clear hcz7_1
       try clear hcz7_2
       try clear hcz7_3
       try clear hcz7_4
       try clear hfz10_0
       try clear hfz10_1
       try clear hfz10_2
       try clear hfz10_3
       try clear hfz10_4
       try clear hfz11_0
       try clear hfz11_1
       try clear hfz11_2
       try clear hfz11_3
       try clear hfz11_4
       try clear hfz12_0
       try clear hfz12_1
       try clear hfz12_2
       try clear hfz12_3
       try clear hfz12_4
       try clear hfz16_0
       try clear hfz16_1
       try clear hfz16_2
       try clear hfz16_3
       try clear hfz16_4
       try clear hfz20_0
       try clear hfz20_1
       try clear hfz20_2
       try clear hfz20_3
       try clear hfz20_4
       try clear hfz5_0
       try clear hfz5_1
       try clear hfz5_2
       try clear hfz5_3
       try clear hfz5_4
       try clear hfz7_0
       try clear hfz7_1
       try clear hfz7_2
       try clear hfz7_3
       try clear hfz7_4
       try clear p2
       obtain ⟨kq,x39_14,rfl,HA,HJ14,BK108,HB⟩:=hcut
       cases kq with
       | zero=>exact absurd HA.out (by simp [Qan.j1])
       | succ kj14 =>
         have H:=HA.out
         clear HA
         simp only [Qan.j1] at H
         by_cases c21:x39_14=true
         · subst c21
           have H1:(some false)=some r:=by rw [if_pos rfl] at H;exact H
           clear H
           have H:=H1
           clear H1
           obtain rfl:=Option.some.inj H
           go_wp2
           go_ret
           exact ⟨by first | rfl | (simp [errW_none,Qag] <;> rfl) | (simp [*,errW_none,Qag] <;> rfl),by repeat (first | (with_reducible first | exact HB.out | apply Qae | apply Qab | apply Qad | refine Qaf ?_ GE108.out) | exact HB.out)⟩
         · replace c21:=Bool.eq_false_iff.mpr c21
           subst c21
           have H1:(if a0_0=10 then ((utf_Check.f a0_3).bind fun bt110=>(some (bt110.2 == 0))) else (if a0_0=9 then (Qan.j2 kj14 a0_0 (a0_0 == 9) a0_0 a0_1 a0_2 a0_3 l0_4) else (Qan.j2 kj14 a0_0 (a0_0 == 14) a0_0 a0_1 a0_2 a0_3 l0_4)))=some r:=by rw [if_neg (show ¬ (false=true) by decide)] at H;exact H
           clear H
           have H:=H1
           clear H1
           by_cases c22:a0_0=10
           · rw [if_pos c22] at H
             have c22b0:(a0_0 == 10)=true:=beq_iff_eq.mpr c22
             have c22b1:(a0_0 != 10)=false:=bne_eq_false_iff_eq.mpr c22
             clear c22
             replace H:=Option.bind_eq_some_iff.mp H
             obtain ⟨⟨t110,t111⟩,A230,H⟩:=H
             replace H:(some (t111 == 0))=some r:=H
             have A23:=Aside0.mk A230
             clear A230
             obtain rfl:=Option.some.inj H
             have hcz24_0:wc.cell? ⟨gb108,0,none⟩=some (.int .i64 a0_0):=(Qaa BK108.out 0).trans rfl
             have hcz24_1:wc.cell? ⟨gb108,1,none⟩=some (.bool a0_1):=(Qaa BK108.out 1).trans rfl
             have hcz24_2:wc.cell? ⟨gb108,2,none⟩=some (.int .u64 a0_2):=(Qaa BK108.out 2).trans rfl
             have hcz24_3:wc.cell? ⟨gb108,3,none⟩=some (.string a0_3):=(Qaa BK108.out 3).trans rfl
             have hcz24_4:wc.cell? ⟨gb108,4,none⟩=some (.slice A0_4 l0_4.length c0_4):=(Qaa BK108.out 4).trans rfl
             have hfz24_0:=Qac BK108.out 0
             have hfz24_1:=Qac BK108.out 1
             have hfz24_2:=Qac BK108.out 2
             have hfz24_3:=Qac BK108.out 3
             have hfz24_4:=Qac BK108.out 4
             go_wp2_with (first | ((with_reducible refine Qcf (f:=63) rfl ?_);refine goesL_ (some 47) rfl rfl Tryz.func63 (by kernel_rfl) rfl #[.string a0_3] rfl (by (try simp only [List.map_toArray,List.map_cons,List.map_nil]);first | done | rfl | (simp only [List.length_drop,List.length_take];rfl)) ?_;(with_reducible refine (utf_Check.calls a0_3 t110 t111 _ A23.out).mono ?_);rintro e w25 ⟨rfl,hb⟩;refine ⟨_,rfl,?_⟩;have n0_:=Aside0.mk (Qa3 (g:=gb108) (o:=.cells #[.int .i64 a0_0,.bool a0_1,.int .u64 a0_2,.string a0_3,.slice A0_4 l0_4.length c0_4] 25 (0,0)) (by (with_reducible repeat (first | refine Qaj ?_ _ | refine Qai ?_ | refine Qak ?_ _));exact BK108.out) hb);have n1_:=Aside0.mk (Qav (by repeat (first | (with_reducible first | exact HB.out | apply Qae | apply Qab | apply Qad | refine Qaf ?_ GE108.out) | exact HB.out)) hb);clear BK108;clear HB;have BK108:=n0_;have HB:=n1_;clear n0_ n1_;(try clear hb);(try clear hb2);(try clear hk);(try clear hi)))
             go_ret
             exact ⟨by first | rfl | (simp [errW_none,Qag] <;> rfl) | (simp [*,errW_none,Qag] <;> rfl),by repeat (first | (with_reducible first | exact HB.out | apply Qae | apply Qab | apply Qad | refine Qaf ?_ GE108.out) | exact HB.out)⟩
           · rw [if_neg c22] at H
             have c22b0:(a0_0 == 10)=false:=beq_eq_false_iff_ne.mpr c22
             have c22b1:(a0_0 != 10)=true:=bne_iff_ne.mpr c22
             have HC26:=Aside0.mk H
             clear H
             have hcz27_0:wc.cell? ⟨gb108,0,none⟩=some (.int .i64 a0_0):=(Qaa BK108.out 0).trans rfl
             have hcz27_1:wc.cell? ⟨gb108,1,none⟩=some (.bool a0_1):=(Qaa BK108.out 1).trans rfl
             have hcz27_2:wc.cell? ⟨gb108,2,none⟩=some (.int .u64 a0_2):=(Qaa BK108.out 2).trans rfl
             have hcz27_3:wc.cell? ⟨gb108,3,none⟩=some (.string a0_3):=(Qaa BK108.out 3).trans rfl
             have hcz27_4:wc.cell? ⟨gb108,4,none⟩=some (.slice A0_4 l0_4.length c0_4):=(Qaa BK108.out 4).trans rfl
             have hfz27_0:=Qac BK108.out 0
             have hfz27_1:=Qac BK108.out 1
             have hfz27_2:=Qac BK108.out 2
             have hfz27_3:=Qac BK108.out 3
             have hfz27_4:=Qac BK108.out 4
             go_upto_if 52 with (fail)
             go_cut [52] (fun v52 wc=>∃ (kq:Nat) (x52_25:Bool),v52=.bool x52_25∧Aside0 (Qan.j2 kq a0_0 x52_25 a0_0 a0_1 a0_2 a0_3 l0_4=some r)∧Aside0 (kq≤kj14)∧Aside0 (wc.heap[gb108]? = some (.cells #[.int .i64 a0_0,.bool a0_1,.int .u64 a0_2,.string a0_3,(.slice A0_4 l0_4.length c0_4)] 25 (0,0)))∧Aside0 (Below w.heap.size w wc))
             case first =>
              have H:=HC26.out
              clear HC26
              by_cases c28:a0_0=9
              · rw [if_pos c28] at H
                have c28b0:(a0_0 == 9)=true:=beq_iff_eq.mpr c28
                have c28b1:(a0_0 != 9)=false:=bne_eq_false_iff_eq.mpr c28
                clear c28
                (first | rw [c28b0] | (simp only [i64_w,i32_w];rw [c28b0]) | skip)
                have H':=Aside0.mk H
                clear H
                go_wp2
                go_meet
                case rel => exact ⟨_, ((a0_0 == 9)), (by first | rfl | (simp; done) | (simp [*]; done)), H', ⟨by have := HJ1.out; have := HJ14.out; first | omega | exact Nat.le_refl _⟩, ⟨by (with_reducible repeat (first | refine Qaj ?_ _ | refine Qai ?_ | refine Qak ?_ _)); exact BK108.out⟩, ⟨by repeat (first | (with_reducible first | exact HB.out | apply Qae | apply Qab | apply Qad | refine Qaf ?_ GE108.out) | exact HB.out)⟩⟩
              · rw [if_neg c28] at H
                have c28b0:(a0_0 == 9)=false:=beq_eq_false_iff_ne.mpr c28
                have c28b1:(a0_0 != 9)=true:=bne_iff_ne.mpr c28
                (first | rw [c28b0] | (simp only [i64_w,i32_w];rw [c28b0]) | skip)
                have H':=Aside0.mk H
                clear H
                go_wp2
                go_meet
                case rel => exact ⟨_, ((a0_0 == 14)), (by first | rfl | (simp; done) | (simp [*]; done)), H', ⟨by have := HJ1.out; have := HJ14.out; first | omega | exact Nat.le_refl _⟩, ⟨by (with_reducible repeat (first | refine Qaj ?_ _ | refine Qai ?_ | refine Qak ?_ _)); exact BK108.out⟩, ⟨by repeat (first | (with_reducible first | exact HB.out | apply Qae | apply Qab | apply Qad | refine Qaf ?_ GE108.out) | exact HB.out)⟩⟩
             case rest =>
              clear HC26
              try clear c1
              try clear c2
              try clear p2
              try clear c3
              try clear c4
              try clear c4b0
              try clear c6
              try clear c6b0
              try clear c8
              try clear c9
              try clear c9b0
              try clear c9b1
              try clear c13
              try clear c17
              try clear c17b0
              try clear c18
              try clear c18b0
              try clear c18b1
              try clear c21
              try clear c22
              try clear c22b0
              try clear c22b1
              try clear c28
              try clear c28b0
              try clear c28b1
              try clear hcz10_0
              try clear hcz10_1
              try clear hcz10_2
              try clear hcz10_3
              try clear hcz10_4
              try clear hcz11_0
              try clear hcz11_1
              try clear hcz11_2
              try clear hcz11_3
              try clear hcz11_4
              try clear hcz12_0
              try clear hcz12_1
              try clear hcz12_2
              try clear hcz12_3
              try clear hcz12_4
              try clear hcz16_0
              try clear hcz16_1
              try clear hcz16_2
              try clear hcz16_3
              try clear hcz16_4
              try clear hcz20_0
              try clear hcz20_1
              try clear hcz20_2
              try clear hcz20_3
              try clear hcz20_4
              try clear hcz24_0
              try clear hcz24_1
              try clear hcz24_2
              try clear hcz24_3
              try clear hcz24_4
              try clear hcz27_0
              try clear hcz27_1
              try clear hcz27_2
              try clear hcz27_3
              try clear hcz27_4
              try clear hcz5_0
              try clear hcz5_1
              try clear hcz5_2
              try clear hcz5_3
              try clear hcz5_4
              try clear hcz7_0
              try clear hcz7_1
              try clear hcz7_2
              try clear hcz7_3
              try clear hcz7_4
              try clear hfz10_0
              try clear hfz10_1
              try clear hfz10_2
              try clear hfz10_3
              try clear hfz10_4
              try clear hfz11_0
              try clear hfz11_1
              try clear hfz11_2
              try clear hfz11_3
              try clear hfz11_4
              try clear hfz12_0
              try clear hfz12_1
              try clear hfz12_2
              try clear hfz12_3
              try clear hfz12_4
              try clear hfz16_0
              try clear hfz16_1
              try clear hfz16_2
              try clear hfz16_3
              try clear hfz16_4
              try clear hfz20_0
              try clear hfz20_1
              try clear hfz20_2
              try clear hfz20_3
              try clear hfz20_4
              try clear hfz24_0
              try clear hfz24_1
              try clear hfz24_2
              try clear hfz24_3
              try clear hfz24_4
              try clear hfz27_0
              try clear hfz27_1
              try clear hfz27_2
              try clear hfz27_3
              try clear hfz27_4
              try clear hfz5_0
              try clear hfz5_1
              try clear hfz5_2
              try clear hfz5_3
              try clear hfz5_4
              try clear hfz7_0
              try clear hfz7_1
              try clear hfz7_2
              try clear hfz7_3
              try clear hfz7_4
              try clear p2
              obtain ⟨kq,x52_25,rfl,HA,HJ25,BK108,HB⟩:=hcut
              cases kq with
              | zero=>exact absurd HA.out (by simp [Qan.j2])
              | succ kj25 =>
                have H:=HA.out
                clear HA
                simp only [Qan.j2] at H
                by_cases c29:x52_25=true
                · subst c29
                  have H1:(some true)=some r:=by rw [if_pos rfl] at H;exact H
                  clear H
                  have H:=H1
                  clear H1
                  obtain rfl:=Option.some.inj H
                  go_wp2
                  go_ret
                  exact ⟨by first | rfl | (simp [errW_none,Qag] <;> rfl) | (simp [*,errW_none,Qag] <;> rfl),by repeat (first | (with_reducible first | exact HB.out | apply Qae | apply Qab | apply Qad | refine Qaf ?_ GE108.out) | exact HB.out)⟩
                · replace c29:=Bool.eq_false_iff.mpr c29
                  subst c29
                  have H1:(if a0_0=5 then ((Qb4.f a0_3).bind fun t112=>(some t112)) else (if a0_0=3 then (if a0_2 > 19 then (if a0_2<32 then (some false) else (some (a0_3.toList == ([]:List UInt8)))) else (some (a0_3.toList == ([]:List UInt8)))) else (if a0_0=12 then (if ((l0_4.length:Int) % 2)=0 then (some (a0_3.toList == ([]:List UInt8))) else (some false)) else (if a0_0=13 then (if (l0_4.length:Int)=1 then (if (a0_2 / 2)=1 then (if 0<(l0_4.length:Int) then (if ((Qbe l0_4 0).f0)=9 then ((Qb4.f ((Qbe l0_4 0).f3)).bind fun t115=>(if t115=true then (some false) else (some (a0_3.toList == ([]:List UInt8))))) else (some (a0_3.toList == ([]:List UInt8)))) else (none)) else (some (a0_3.toList == ([]:List UInt8)))) else (some false)) else (some (a0_3.toList == ([]:List UInt8)))))))=some r:=by rw [if_neg (show ¬ (false=true) by decide)] at H;exact H
                  clear H
                  have H:=H1
                  clear H1
                  by_cases c30:a0_0=5
                  · rw [if_pos c30] at H
                    have c30b0:(a0_0 == 5)=true:=beq_iff_eq.mpr c30
                    have c30b1:(a0_0 != 5)=false:=bne_eq_false_iff_eq.mpr c30
                    clear c30
                    replace H:=Option.bind_eq_some_iff.mp H
                    obtain ⟨t112,A310,H⟩:=H
                    replace H:(some t112)=some r:=H
                    have A31:=Aside0.mk A310
                    clear A310
                    obtain rfl:=Option.some.inj H
                    have hcz32_0:wc.cell? ⟨gb108,0,none⟩=some (.int .i64 a0_0):=(Qaa BK108.out 0).trans rfl
                    have hcz32_1:wc.cell? ⟨gb108,1,none⟩=some (.bool a0_1):=(Qaa BK108.out 1).trans rfl
                    have hcz32_2:wc.cell? ⟨gb108,2,none⟩=some (.int .u64 a0_2):=(Qaa BK108.out 2).trans rfl
                    have hcz32_3:wc.cell? ⟨gb108,3,none⟩=some (.string a0_3):=(Qaa BK108.out 3).trans rfl
                    have hcz32_4:wc.cell? ⟨gb108,4,none⟩=some (.slice A0_4 l0_4.length c0_4):=(Qaa BK108.out 4).trans rfl
                    have hfz32_0:=Qac BK108.out 0
                    have hfz32_1:=Qac BK108.out 1
                    have hfz32_2:=Qac BK108.out 2
                    have hfz32_3:=Qac BK108.out 3
                    have hfz32_4:=Qac BK108.out 4
                    go_wp2_with (first | ((with_reducible refine Qcf (f:=64) rfl ?_);refine goesL_ (some 59) rfl rfl Tryz.func64 (by kernel_rfl) rfl #[.string a0_3] rfl (by (try simp only [List.map_toArray,List.map_cons,List.map_nil]);first | done | rfl | (simp only [List.length_drop,List.length_take];rfl)) ?_;(with_reducible refine (Qb4.calls a0_3 t112 _ A31.out).mono ?_);rintro e w' ⟨rfl,⟨nd,rfl⟩⟩;refine ⟨_,rfl,?_⟩))
                    go_ret
                    exact ⟨by first | rfl | (simp [errW_none,Qag] <;> rfl) | (simp [*,errW_none,Qag] <;> rfl),by repeat (first | (with_reducible first | exact HB.out | apply Qae | apply Qab | apply Qad | refine Qaf ?_ GE108.out) | exact HB.out)⟩
                  · rw [if_neg c30] at H
                    have c30b0:(a0_0 == 5)=false:=beq_eq_false_iff_ne.mpr c30
                    have c30b1:(a0_0 != 5)=true:=bne_iff_ne.mpr c30
                    by_cases c33:a0_0=3
                    · rw [if_pos c33] at H
                      have c33b0:(a0_0 == 3)=true:=beq_iff_eq.mpr c33
                      have c33b1:(a0_0 != 3)=false:=bne_eq_false_iff_eq.mpr c33
                      clear c33
                      by_cases c34:a0_2 > 19
                      · rw [if_pos c34] at H
                        have c34b0:decide (19<a0_2)=true:=decide_eq_true c34
                        clear c34
                        by_cases c35:a0_2<32
                        · rw [if_pos c35] at H
                          have c35b0:decide (a0_2<32)=true:=decide_eq_true c35
                          clear c35
                          obtain rfl:=Option.some.inj H
                          have hcz36_0:wc.cell? ⟨gb108,0,none⟩=some (.int .i64 a0_0):=(Qaa BK108.out 0).trans rfl
                          have hcz36_1:wc.cell? ⟨gb108,1,none⟩=some (.bool a0_1):=(Qaa BK108.out 1).trans rfl
                          have hcz36_2:wc.cell? ⟨gb108,2,none⟩=some (.int .u64 a0_2):=(Qaa BK108.out 2).trans rfl
                          have hcz36_3:wc.cell? ⟨gb108,3,none⟩=some (.string a0_3):=(Qaa BK108.out 3).trans rfl
                          have hcz36_4:wc.cell? ⟨gb108,4,none⟩=some (.slice A0_4 l0_4.length c0_4):=(Qaa BK108.out 4).trans rfl
                          have hfz36_0:=Qac BK108.out 0
                          have hfz36_1:=Qac BK108.out 1
                          have hfz36_2:=Qac BK108.out 2
                          have hfz36_3:=Qac BK108.out 3
                          have hfz36_4:=Qac BK108.out 4
                          go_wp2
                          go_ret
                          exact ⟨by first | rfl | (simp [errW_none,Qag] <;> rfl) | (simp [*,errW_none,Qag] <;> rfl),by repeat (first | (with_reducible first | exact HB.out | apply Qae | apply Qab | apply Qad | refine Qaf ?_ GE108.out) | exact HB.out)⟩
                        · rw [if_neg c35] at H
                          have c35b0:decide (a0_2<32)=false:=decide_eq_false c35
                          clear c35
                          obtain rfl:=Option.some.inj H
                          have hcz37_0:wc.cell? ⟨gb108,0,none⟩=some (.int .i64 a0_0):=(Qaa BK108.out 0).trans rfl
                          have hcz37_1:wc.cell? ⟨gb108,1,none⟩=some (.bool a0_1):=(Qaa BK108.out 1).trans rfl
                          have hcz37_2:wc.cell? ⟨gb108,2,none⟩=some (.int .u64 a0_2):=(Qaa BK108.out 2).trans rfl
                          have hcz37_3:wc.cell? ⟨gb108,3,none⟩=some (.string a0_3):=(Qaa BK108.out 3).trans rfl
                          have hcz37_4:wc.cell? ⟨gb108,4,none⟩=some (.slice A0_4 l0_4.length c0_4):=(Qaa BK108.out 4).trans rfl
                          have hfz37_0:=Qac BK108.out 0
                          have hfz37_1:=Qac BK108.out 1
                          have hfz37_2:=Qac BK108.out 2
                          have hfz37_3:=Qac BK108.out 3
                          have hfz37_4:=Qac BK108.out 4
                          go_wp2
                          go_ret
                          exact ⟨by first | rfl | (simp [errW_none,Qag] <;> rfl) | (simp [*,errW_none,Qag] <;> rfl),by repeat (first | (with_reducible first | exact HB.out | apply Qae | apply Qab | apply Qad | refine Qaf ?_ GE108.out) | exact HB.out)⟩
                      · rw [if_neg c34] at H
                        have c34b0:decide (19<a0_2)=false:=decide_eq_false c34
                        clear c34
                        obtain rfl:=Option.some.inj H
                        have hcz38_0:wc.cell? ⟨gb108,0,none⟩=some (.int .i64 a0_0):=(Qaa BK108.out 0).trans rfl
                        have hcz38_1:wc.cell? ⟨gb108,1,none⟩=some (.bool a0_1):=(Qaa BK108.out 1).trans rfl
                        have hcz38_2:wc.cell? ⟨gb108,2,none⟩=some (.int .u64 a0_2):=(Qaa BK108.out 2).trans rfl
                        have hcz38_3:wc.cell? ⟨gb108,3,none⟩=some (.string a0_3):=(Qaa BK108.out 3).trans rfl
                        have hcz38_4:wc.cell? ⟨gb108,4,none⟩=some (.slice A0_4 l0_4.length c0_4):=(Qaa BK108.out 4).trans rfl
                        have hfz38_0:=Qac BK108.out 0
                        have hfz38_1:=Qac BK108.out 1
                        have hfz38_2:=Qac BK108.out 2
                        have hfz38_3:=Qac BK108.out 3
                        have hfz38_4:=Qac BK108.out 4
                        go_wp2
                        go_ret
                        exact ⟨by first | rfl | (simp [errW_none,Qag] <;> rfl) | (simp [*,errW_none,Qag] <;> rfl),by repeat (first | (with_reducible first | exact HB.out | apply Qae | apply Qab | apply Qad | refine Qaf ?_ GE108.out) | exact HB.out)⟩
                    · rw [if_neg c33] at H
                      have c33b0:(a0_0 == 3)=false:=beq_eq_false_iff_ne.mpr c33
                      have c33b1:(a0_0 != 3)=true:=bne_iff_ne.mpr c33
                      by_cases c39:a0_0=12
                      · rw [if_pos c39] at H
                        have c39b0:(a0_0 == 12)=true:=beq_iff_eq.mpr c39
                        have c39b1:(a0_0 != 12)=false:=bne_eq_false_iff_eq.mpr c39
                        clear c39
                        by_cases c40:((l0_4.length:Int) % 2)=0
                        · rw [if_pos c40] at H
                          have c40b0:(((l0_4.length:Int) % 2) == 0)=true:=beq_iff_eq.mpr c40
                          have c40b1:(((l0_4.length:Int) % 2) != 0)=false:=bne_eq_false_iff_eq.mpr c40
                          clear c40
                          obtain rfl:=Option.some.inj H
                          have hcz41_0:wc.cell? ⟨gb108,0,none⟩=some (.int .i64 a0_0):=(Qaa BK108.out 0).trans rfl
                          have hcz41_1:wc.cell? ⟨gb108,1,none⟩=some (.bool a0_1):=(Qaa BK108.out 1).trans rfl
                          have hcz41_2:wc.cell? ⟨gb108,2,none⟩=some (.int .u64 a0_2):=(Qaa BK108.out 2).trans rfl
                          have hcz41_3:wc.cell? ⟨gb108,3,none⟩=some (.string a0_3):=(Qaa BK108.out 3).trans rfl
                          have hcz41_4:wc.cell? ⟨gb108,4,none⟩=some (.slice A0_4 l0_4.length c0_4):=(Qaa BK108.out 4).trans rfl
                          have hfz41_0:=Qac BK108.out 0
                          have hfz41_1:=Qac BK108.out 1
                          have hfz41_2:=Qac BK108.out 2
                          have hfz41_3:=Qac BK108.out 3
                          have hfz41_4:=Qac BK108.out 4
                          go_wp2
                          go_ret
                          exact ⟨by first | rfl | (simp [errW_none,Qag] <;> rfl) | (simp [*,errW_none,Qag] <;> rfl),by repeat (first | (with_reducible first | exact HB.out | apply Qae | apply Qab | apply Qad | refine Qaf ?_ GE108.out) | exact HB.out)⟩
                        · rw [if_neg c40] at H
                          have c40b0:(((l0_4.length:Int) % 2) == 0)=false:=beq_eq_false_iff_ne.mpr c40
                          have c40b1:(((l0_4.length:Int) % 2) != 0)=true:=bne_iff_ne.mpr c40
                          obtain rfl:=Option.some.inj H
                          have hcz42_0:wc.cell? ⟨gb108,0,none⟩=some (.int .i64 a0_0):=(Qaa BK108.out 0).trans rfl
                          have hcz42_1:wc.cell? ⟨gb108,1,none⟩=some (.bool a0_1):=(Qaa BK108.out 1).trans rfl
                          have hcz42_2:wc.cell? ⟨gb108,2,none⟩=some (.int .u64 a0_2):=(Qaa BK108.out 2).trans rfl
                          have hcz42_3:wc.cell? ⟨gb108,3,none⟩=some (.string a0_3):=(Qaa BK108.out 3).trans rfl
                          have hcz42_4:wc.cell? ⟨gb108,4,none⟩=some (.slice A0_4 l0_4.length c0_4):=(Qaa BK108.out 4).trans rfl
                          have hfz42_0:=Qac BK108.out 0
                          have hfz42_1:=Qac BK108.out 1
                          have hfz42_2:=Qac BK108.out 2
                          have hfz42_3:=Qac BK108.out 3
                          have hfz42_4:=Qac BK108.out 4
                          go_wp2
                          go_ret
                          exact ⟨by first | rfl | (simp [errW_none,Qag] <;> rfl) | (simp [*,errW_none,Qag] <;> rfl),by repeat (first | (with_reducible first | exact HB.out | apply Qae | apply Qab | apply Qad | refine Qaf ?_ GE108.out) | exact HB.out)⟩
                      · rw [if_neg c39] at H
                        have c39b0:(a0_0 == 12)=false:=beq_eq_false_iff_ne.mpr c39
                        have c39b1:(a0_0 != 12)=true:=bne_iff_ne.mpr c39
                        by_cases c43:a0_0=13
                        · rw [if_pos c43] at H
                          have c43b0:(a0_0 == 13)=true:=beq_iff_eq.mpr c43
                          have c43b1:(a0_0 != 13)=false:=bne_eq_false_iff_eq.mpr c43
                          clear c43
                          by_cases c44:(l0_4.length:Int)=1
                          · rw [if_pos c44] at H
                            have c44b0:((l0_4.length:Int) == 1)=true:=beq_iff_eq.mpr c44
                            have c44b1:((l0_4.length:Int) != 1)=false:=bne_eq_false_iff_eq.mpr c44
                            clear c44
                            by_cases c45:(a0_2 / 2)=1
                            · rw [if_pos c45] at H
                              have c45b0:((a0_2 / 2) == 1)=true:=beq_iff_eq.mpr c45
                              have c45b1:((a0_2 / 2) != 1)=false:=bne_eq_false_iff_eq.mpr c45
                              clear c45
                              by_cases c46:0<(l0_4.length:Int)
                              · rw [if_pos c46] at H
                                have c46b0:decide (0<(l0_4.length:Int))=true:=decide_eq_true c46
                                have c46b1:decide (0<l0_4.length)=true:=decide_eq_true (by omega)
                                clear c46
                                by_cases c47:((Qbe l0_4 0).f0)=9
                                · rw [if_pos c47] at H
                                  have c47b0:(((Qbe l0_4 0).f0) == 9)=true:=beq_iff_eq.mpr c47
                                  have c47b1:(((Qbe l0_4 0).f0) != 9)=false:=bne_eq_false_iff_eq.mpr c47
                                  clear c47
                                  replace H:=Option.bind_eq_some_iff.mp H
                                  obtain ⟨t115,A480,H⟩:=H
                                  replace H:(if t115=true then (some false) else (some (a0_3.toList == ([]:List UInt8))))=some r:=H
                                  have A48:=Aside0.mk A480
                                  clear A480
                                  by_cases c49:t115=true
                                  · subst c49
                                    have H1:(some false)=some r:=by rw [if_pos rfl] at H;exact H
                                    clear H
                                    have H:=H1
                                    clear H1
                                    obtain rfl:=Option.some.inj H
                                    have hcz50_0:wc.cell? ⟨gb108,0,none⟩=some (.int .i64 a0_0):=(Qaa BK108.out 0).trans rfl
                                    have hcz50_1:wc.cell? ⟨gb108,1,none⟩=some (.bool a0_1):=(Qaa BK108.out 1).trans rfl
                                    have hcz50_2:wc.cell? ⟨gb108,2,none⟩=some (.int .u64 a0_2):=(Qaa BK108.out 2).trans rfl
                                    have hcz50_3:wc.cell? ⟨gb108,3,none⟩=some (.string a0_3):=(Qaa BK108.out 3).trans rfl
                                    have hcz50_4:wc.cell? ⟨gb108,4,none⟩=some (.slice A0_4 l0_4.length c0_4):=(Qaa BK108.out 4).trans rfl
                                    have hfz50_0:=Qac BK108.out 0
                                    have hfz50_1:=Qac BK108.out 1
                                    have hfz50_2:=Qac BK108.out 2
                                    have hfz50_3:=Qac BK108.out 3
                                    have hfz50_4:=Qac BK108.out 4
                                    have p113:0≤(0:Int):=(by omega)
                                    have q113:0<(l0_4.length:Int):=of_decide_eq_true (by first | (with_reducible assumption) | assumption)
                                    obtain ⟨ad113,A113_4,c113_4,e113,hx113_0,hx113_1,hx113_2,hx113_3,hx113_4,hl113_4,hi113_4⟩:=at_T25 HR0_4.out 0 p113 q113
                                    cases e113
                                    have qi113:(0<l0_4.length)=True:=eq_true (by omega)
                                    (try rw [show ((0:Int)).toNat=0 from rfl] at hx113_0)
                                    (try rw [show 0*5=0 from rfl] at hx113_0)
                                    (try rw [Addr.add_zero'] at hx113_0)
                                    (try rw [show ((0:Int)).toNat=0 from rfl] at hx113_1)
                                    (try rw [show 0*5=0 from rfl] at hx113_1)
                                    (try rw [Addr.add_zero'] at hx113_1)
                                    (try rw [show ((0:Int)).toNat=0 from rfl] at hx113_2)
                                    (try rw [show 0*5=0 from rfl] at hx113_2)
                                    (try rw [Addr.add_zero'] at hx113_2)
                                    (try rw [show ((0:Int)).toNat=0 from rfl] at hx113_3)
                                    (try rw [show 0*5=0 from rfl] at hx113_3)
                                    (try rw [Addr.add_zero'] at hx113_3)
                                    (try rw [show ((0:Int)).toNat=0 from rfl] at hx113_4)
                                    (try rw [show 0*5=0 from rfl] at hx113_4)
                                    (try rw [Addr.add_zero'] at hx113_4)
                                    replace hx113_0:=(HB.out.cell (World.block_lt_of_cell? w _ hx113_0)).trans hx113_0
                                    replace hx113_1:=(HB.out.cell (World.block_lt_of_cell? w _ hx113_1)).trans hx113_1
                                    replace hx113_2:=(HB.out.cell (World.block_lt_of_cell? w _ hx113_2)).trans hx113_2
                                    replace hx113_3:=(HB.out.cell (World.block_lt_of_cell? w _ hx113_3)).trans hx113_3
                                    replace hx113_4:=(HB.out.cell (World.block_lt_of_cell? w _ hx113_4)).trans hx113_4
                                    have HR113_4:=Aside0.mk hi113_4
                                    have HC113_4:=Aside0.mk hl113_4
                                    clear hi113_4 hl113_4
                                    replace p113:=eq_true p113
                                    replace q113:=eq_true q113
                                    have p114:0≤(0:Int):=(by omega)
                                    have q114:0<(l0_4.length:Int):=of_decide_eq_true (by first | (with_reducible assumption) | assumption)
                                    obtain ⟨ad114,A114_4,c114_4,e114,hx114_0,hx114_1,hx114_2,hx114_3,hx114_4,hl114_4,hi114_4⟩:=at_T25 HR0_4.out 0 p114 q114
                                    obtain rfl:ad113=ad114:=(by injection e114)
                                    have qi114:(0<l0_4.length)=True:=eq_true (by omega)
                                    (try rw [show ((0:Int)).toNat=0 from rfl] at hx114_0)
                                    (try rw [show 0*5=0 from rfl] at hx114_0)
                                    (try rw [Addr.add_zero'] at hx114_0)
                                    (try rw [show ((0:Int)).toNat=0 from rfl] at hx114_1)
                                    (try rw [show 0*5=0 from rfl] at hx114_1)
                                    (try rw [Addr.add_zero'] at hx114_1)
                                    (try rw [show ((0:Int)).toNat=0 from rfl] at hx114_2)
                                    (try rw [show 0*5=0 from rfl] at hx114_2)
                                    (try rw [Addr.add_zero'] at hx114_2)
                                    (try rw [show ((0:Int)).toNat=0 from rfl] at hx114_3)
                                    (try rw [show 0*5=0 from rfl] at hx114_3)
                                    (try rw [Addr.add_zero'] at hx114_3)
                                    (try rw [show ((0:Int)).toNat=0 from rfl] at hx114_4)
                                    (try rw [show 0*5=0 from rfl] at hx114_4)
                                    (try rw [Addr.add_zero'] at hx114_4)
                                    replace hx114_0:=(HB.out.cell (World.block_lt_of_cell? w _ hx114_0)).trans hx114_0
                                    replace hx114_1:=(HB.out.cell (World.block_lt_of_cell? w _ hx114_1)).trans hx114_1
                                    replace hx114_2:=(HB.out.cell (World.block_lt_of_cell? w _ hx114_2)).trans hx114_2
                                    replace hx114_3:=(HB.out.cell (World.block_lt_of_cell? w _ hx114_3)).trans hx114_3
                                    replace hx114_4:=(HB.out.cell (World.block_lt_of_cell? w _ hx114_4)).trans hx114_4
                                    have HR114_4:=Aside0.mk hi114_4
                                    have HC114_4:=Aside0.mk hl114_4
                                    clear hi114_4 hl114_4
                                    replace p114:=eq_true p114
                                    replace q114:=eq_true q114
                                    have ea_:=Option.some.inj (hx113_4.symm.trans hx114_4)
                                    injection ea_ with ea_ en_ ec_
                                    subst ea_
                                    subst ec_
                                    clear en_
                                    go_wp2_with (first | (go_at_call 64;(with_reducible refine (Qb4.calls ((Qbe l0_4 0).f3) true _ A48.out).mono ?_);rintro e w' ⟨rfl,⟨nd,rfl⟩⟩))
                                    go_ret
                                    exact ⟨by first | rfl | (simp [errW_none,Qag] <;> rfl) | (simp [*,errW_none,Qag] <;> rfl),by repeat (first | (with_reducible first | exact HB.out | apply Qae | apply Qab | apply Qad | refine Qaf ?_ GE108.out) | exact HB.out)⟩
                                  · replace c49:=Bool.eq_false_iff.mpr c49
                                    subst c49
                                    have H1:(some (a0_3.toList == ([]:List UInt8)))=some r:=by rw [if_neg (show ¬ (false=true) by decide)] at H;exact H
                                    clear H
                                    have H:=H1
                                    clear H1
                                    obtain rfl:=Option.some.inj H
                                    have hcz51_0:wc.cell? ⟨gb108,0,none⟩=some (.int .i64 a0_0):=(Qaa BK108.out 0).trans rfl
                                    have hcz51_1:wc.cell? ⟨gb108,1,none⟩=some (.bool a0_1):=(Qaa BK108.out 1).trans rfl
                                    have hcz51_2:wc.cell? ⟨gb108,2,none⟩=some (.int .u64 a0_2):=(Qaa BK108.out 2).trans rfl
                                    have hcz51_3:wc.cell? ⟨gb108,3,none⟩=some (.string a0_3):=(Qaa BK108.out 3).trans rfl
                                    have hcz51_4:wc.cell? ⟨gb108,4,none⟩=some (.slice A0_4 l0_4.length c0_4):=(Qaa BK108.out 4).trans rfl
                                    have hfz51_0:=Qac BK108.out 0
                                    have hfz51_1:=Qac BK108.out 1
                                    have hfz51_2:=Qac BK108.out 2
                                    have hfz51_3:=Qac BK108.out 3
                                    have hfz51_4:=Qac BK108.out 4
                                    have p113:0≤(0:Int):=(by omega)
                                    have q113:0<(l0_4.length:Int):=of_decide_eq_true (by first | (with_reducible assumption) | assumption)
                                    obtain ⟨ad113,A113_4,c113_4,e113,hx113_0,hx113_1,hx113_2,hx113_3,hx113_4,hl113_4,hi113_4⟩:=at_T25 HR0_4.out 0 p113 q113
                                    cases e113
                                    have qi113:(0<l0_4.length)=True:=eq_true (by omega)
                                    (try rw [show ((0:Int)).toNat=0 from rfl] at hx113_0)
                                    (try rw [show 0*5=0 from rfl] at hx113_0)
                                    (try rw [Addr.add_zero'] at hx113_0)
                                    (try rw [show ((0:Int)).toNat=0 from rfl] at hx113_1)
                                    (try rw [show 0*5=0 from rfl] at hx113_1)
                                    (try rw [Addr.add_zero'] at hx113_1)
                                    (try rw [show ((0:Int)).toNat=0 from rfl] at hx113_2)
                                    (try rw [show 0*5=0 from rfl] at hx113_2)
                                    (try rw [Addr.add_zero'] at hx113_2)
                                    (try rw [show ((0:Int)).toNat=0 from rfl] at hx113_3)
                                    (try rw [show 0*5=0 from rfl] at hx113_3)
                                    (try rw [Addr.add_zero'] at hx113_3)
                                    (try rw [show ((0:Int)).toNat=0 from rfl] at hx113_4)
                                    (try rw [show 0*5=0 from rfl] at hx113_4)
                                    (try rw [Addr.add_zero'] at hx113_4)
                                    replace hx113_0:=(HB.out.cell (World.block_lt_of_cell? w _ hx113_0)).trans hx113_0
                                    replace hx113_1:=(HB.out.cell (World.block_lt_of_cell? w _ hx113_1)).trans hx113_1
                                    replace hx113_2:=(HB.out.cell (World.block_lt_of_cell? w _ hx113_2)).trans hx113_2
                                    replace hx113_3:=(HB.out.cell (World.block_lt_of_cell? w _ hx113_3)).trans hx113_3
                                    replace hx113_4:=(HB.out.cell (World.block_lt_of_cell? w _ hx113_4)).trans hx113_4
                                    have HR113_4:=Aside0.mk hi113_4
                                    have HC113_4:=Aside0.mk hl113_4
                                    clear hi113_4 hl113_4
                                    replace p113:=eq_true p113
                                    replace q113:=eq_true q113
                                    have p114:0≤(0:Int):=(by omega)
                                    have q114:0<(l0_4.length:Int):=of_decide_eq_true (by first | (with_reducible assumption) | assumption)
                                    obtain ⟨ad114,A114_4,c114_4,e114,hx114_0,hx114_1,hx114_2,hx114_3,hx114_4,hl114_4,hi114_4⟩:=at_T25 HR0_4.out 0 p114 q114
                                    obtain rfl:ad113=ad114:=(by injection e114)
                                    have qi114:(0<l0_4.length)=True:=eq_true (by omega)
                                    (try rw [show ((0:Int)).toNat=0 from rfl] at hx114_0)
                                    (try rw [show 0*5=0 from rfl] at hx114_0)
                                    (try rw [Addr.add_zero'] at hx114_0)
                                    (try rw [show ((0:Int)).toNat=0 from rfl] at hx114_1)
                                    (try rw [show 0*5=0 from rfl] at hx114_1)
                                    (try rw [Addr.add_zero'] at hx114_1)
                                    (try rw [show ((0:Int)).toNat=0 from rfl] at hx114_2)
                                    (try rw [show 0*5=0 from rfl] at hx114_2)
                                    (try rw [Addr.add_zero'] at hx114_2)
                                    (try rw [show ((0:Int)).toNat=0 from rfl] at hx114_3)
                                    (try rw [show 0*5=0 from rfl] at hx114_3)
                                    (try rw [Addr.add_zero'] at hx114_3)
                                    (try rw [show ((0:Int)).toNat=0 from rfl] at hx114_4)
                                    (try rw [show 0*5=0 from rfl] at hx114_4)
                                    (try rw [Addr.add_zero'] at hx114_4)
                                    replace hx114_0:=(HB.out.cell (World.block_lt_of_cell? w _ hx114_0)).trans hx114_0
                                    replace hx114_1:=(HB.out.cell (World.block_lt_of_cell? w _ hx114_1)).trans hx114_1
                                    replace hx114_2:=(HB.out.cell (World.block_lt_of_cell? w _ hx114_2)).trans hx114_2
                                    replace hx114_3:=(HB.out.cell (World.block_lt_of_cell? w _ hx114_3)).trans hx114_3
                                    replace hx114_4:=(HB.out.cell (World.block_lt_of_cell? w _ hx114_4)).trans hx114_4
                                    have HR114_4:=Aside0.mk hi114_4
                                    have HC114_4:=Aside0.mk hl114_4
                                    clear hi114_4 hl114_4
                                    replace p114:=eq_true p114
                                    replace q114:=eq_true q114
                                    have ea_:=Option.some.inj (hx113_4.symm.trans hx114_4)
                                    injection ea_ with ea_ en_ ec_
                                    subst ea_
                                    subst ec_
                                    clear en_
                                    go_wp2_with (first | (go_at_call 64;(with_reducible refine (Qb4.calls ((Qbe l0_4 0).f3) false _ A48.out).mono ?_);rintro e w' ⟨rfl,⟨nd,rfl⟩⟩))
                                    go_ret
                                    exact ⟨by first | rfl | (simp [errW_none,Qag] <;> rfl) | (simp [*,errW_none,Qag] <;> rfl),by repeat (first | (with_reducible first | exact HB.out | apply Qae | apply Qab | apply Qad | refine Qaf ?_ GE108.out) | exact HB.out)⟩
                                · rw [if_neg c47] at H
                                  have c47b0:(((Qbe l0_4 0).f0) == 9)=false:=beq_eq_false_iff_ne.mpr c47
                                  have c47b1:(((Qbe l0_4 0).f0) != 9)=true:=bne_iff_ne.mpr c47
                                  obtain rfl:=Option.some.inj H
                                  have hcz52_0:wc.cell? ⟨gb108,0,none⟩=some (.int .i64 a0_0):=(Qaa BK108.out 0).trans rfl
                                  have hcz52_1:wc.cell? ⟨gb108,1,none⟩=some (.bool a0_1):=(Qaa BK108.out 1).trans rfl
                                  have hcz52_2:wc.cell? ⟨gb108,2,none⟩=some (.int .u64 a0_2):=(Qaa BK108.out 2).trans rfl
                                  have hcz52_3:wc.cell? ⟨gb108,3,none⟩=some (.string a0_3):=(Qaa BK108.out 3).trans rfl
                                  have hcz52_4:wc.cell? ⟨gb108,4,none⟩=some (.slice A0_4 l0_4.length c0_4):=(Qaa BK108.out 4).trans rfl
                                  have hfz52_0:=Qac BK108.out 0
                                  have hfz52_1:=Qac BK108.out 1
                                  have hfz52_2:=Qac BK108.out 2
                                  have hfz52_3:=Qac BK108.out 3
                                  have hfz52_4:=Qac BK108.out 4
                                  have p113:0≤(0:Int):=(by omega)
                                  have q113:0<(l0_4.length:Int):=of_decide_eq_true (by first | (with_reducible assumption) | assumption)
                                  obtain ⟨ad113,A113_4,c113_4,e113,hx113_0,hx113_1,hx113_2,hx113_3,hx113_4,hl113_4,hi113_4⟩:=at_T25 HR0_4.out 0 p113 q113
                                  cases e113
                                  have qi113:(0<l0_4.length)=True:=eq_true (by omega)
                                  (try rw [show ((0:Int)).toNat=0 from rfl] at hx113_0)
                                  (try rw [show 0*5=0 from rfl] at hx113_0)
                                  (try rw [Addr.add_zero'] at hx113_0)
                                  (try rw [show ((0:Int)).toNat=0 from rfl] at hx113_1)
                                  (try rw [show 0*5=0 from rfl] at hx113_1)
                                  (try rw [Addr.add_zero'] at hx113_1)
                                  (try rw [show ((0:Int)).toNat=0 from rfl] at hx113_2)
                                  (try rw [show 0*5=0 from rfl] at hx113_2)
                                  (try rw [Addr.add_zero'] at hx113_2)
                                  (try rw [show ((0:Int)).toNat=0 from rfl] at hx113_3)
                                  (try rw [show 0*5=0 from rfl] at hx113_3)
                                  (try rw [Addr.add_zero'] at hx113_3)
                                  (try rw [show ((0:Int)).toNat=0 from rfl] at hx113_4)
                                  (try rw [show 0*5=0 from rfl] at hx113_4)
                                  (try rw [Addr.add_zero'] at hx113_4)
                                  replace hx113_0:=(HB.out.cell (World.block_lt_of_cell? w _ hx113_0)).trans hx113_0
                                  replace hx113_1:=(HB.out.cell (World.block_lt_of_cell? w _ hx113_1)).trans hx113_1
                                  replace hx113_2:=(HB.out.cell (World.block_lt_of_cell? w _ hx113_2)).trans hx113_2
                                  replace hx113_3:=(HB.out.cell (World.block_lt_of_cell? w _ hx113_3)).trans hx113_3
                                  replace hx113_4:=(HB.out.cell (World.block_lt_of_cell? w _ hx113_4)).trans hx113_4
                                  have HR113_4:=Aside0.mk hi113_4
                                  have HC113_4:=Aside0.mk hl113_4
                                  clear hi113_4 hl113_4
                                  replace p113:=eq_true p113
                                  replace q113:=eq_true q113
                                  go_wp2
                                  go_ret
                                  exact ⟨by first | rfl | (simp [errW_none,Qag] <;> rfl) | (simp [*,errW_none,Qag] <;> rfl),by repeat (first | (with_reducible first | exact HB.out | apply Qae | apply Qab | apply Qad | refine Qaf ?_ GE108.out) | exact HB.out)⟩
                              · rw [if_neg c46] at H
                                exact absurd H (by simp)
                            · rw [if_neg c45] at H
                              have c45b0:((a0_2 / 2) == 1)=false:=beq_eq_false_iff_ne.mpr c45
                              have c45b1:((a0_2 / 2) != 1)=true:=bne_iff_ne.mpr c45
                              obtain rfl:=Option.some.inj H
                              have hcz53_0:wc.cell? ⟨gb108,0,none⟩=some (.int .i64 a0_0):=(Qaa BK108.out 0).trans rfl
                              have hcz53_1:wc.cell? ⟨gb108,1,none⟩=some (.bool a0_1):=(Qaa BK108.out 1).trans rfl
                              have hcz53_2:wc.cell? ⟨gb108,2,none⟩=some (.int .u64 a0_2):=(Qaa BK108.out 2).trans rfl
                              have hcz53_3:wc.cell? ⟨gb108,3,none⟩=some (.string a0_3):=(Qaa BK108.out 3).trans rfl
                              have hcz53_4:wc.cell? ⟨gb108,4,none⟩=some (.slice A0_4 l0_4.length c0_4):=(Qaa BK108.out 4).trans rfl
                              have hfz53_0:=Qac BK108.out 0
                              have hfz53_1:=Qac BK108.out 1
                              have hfz53_2:=Qac BK108.out 2
                              have hfz53_3:=Qac BK108.out 3
                              have hfz53_4:=Qac BK108.out 4
                              go_wp2
                              go_ret
                              exact ⟨by first | rfl | (simp [errW_none,Qag] <;> rfl) | (simp [*,errW_none,Qag] <;> rfl),by repeat (first | (with_reducible first | exact HB.out | apply Qae | apply Qab | apply Qad | refine Qaf ?_ GE108.out) | exact HB.out)⟩
                          · rw [if_neg c44] at H
                            have c44b0:((l0_4.length:Int) == 1)=false:=beq_eq_false_iff_ne.mpr c44
                            have c44b1:((l0_4.length:Int) != 1)=true:=bne_iff_ne.mpr c44
                            obtain rfl:=Option.some.inj H
                            have hcz54_0:wc.cell? ⟨gb108,0,none⟩=some (.int .i64 a0_0):=(Qaa BK108.out 0).trans rfl
                            have hcz54_1:wc.cell? ⟨gb108,1,none⟩=some (.bool a0_1):=(Qaa BK108.out 1).trans rfl
                            have hcz54_2:wc.cell? ⟨gb108,2,none⟩=some (.int .u64 a0_2):=(Qaa BK108.out 2).trans rfl
                            have hcz54_3:wc.cell? ⟨gb108,3,none⟩=some (.string a0_3):=(Qaa BK108.out 3).trans rfl
                            have hcz54_4:wc.cell? ⟨gb108,4,none⟩=some (.slice A0_4 l0_4.length c0_4):=(Qaa BK108.out 4).trans rfl
                            have hfz54_0:=Qac BK108.out 0
                            have hfz54_1:=Qac BK108.out 1
                            have hfz54_2:=Qac BK108.out 2
                            have hfz54_3:=Qac BK108.out 3
                            have hfz54_4:=Qac BK108.out 4
                            go_wp2
                            go_ret
                            exact ⟨by first | rfl | (simp [errW_none,Qag] <;> rfl) | (simp [*,errW_none,Qag] <;> rfl),by repeat (first | (with_reducible first | exact HB.out | apply Qae | apply Qab | apply Qad | refine Qaf ?_ GE108.out) | exact HB.out)⟩
                        · rw [if_neg c43] at H
                          have c43b0:(a0_0 == 13)=false:=beq_eq_false_iff_ne.mpr c43
                          have c43b1:(a0_0 != 13)=true:=bne_iff_ne.mpr c43
                          obtain rfl:=Option.some.inj H
                          have hcz55_0:wc.cell? ⟨gb108,0,none⟩=some (.int .i64 a0_0):=(Qaa BK108.out 0).trans rfl
                          have hcz55_1:wc.cell? ⟨gb108,1,none⟩=some (.bool a0_1):=(Qaa BK108.out 1).trans rfl
                          have hcz55_2:wc.cell? ⟨gb108,2,none⟩=some (.int .u64 a0_2):=(Qaa BK108.out 2).trans rfl
                          have hcz55_3:wc.cell? ⟨gb108,3,none⟩=some (.string a0_3):=(Qaa BK108.out 3).trans rfl
                          have hcz55_4:wc.cell? ⟨gb108,4,none⟩=some (.slice A0_4 l0_4.length c0_4):=(Qaa BK108.out 4).trans rfl
                          have hfz55_0:=Qac BK108.out 0
                          have hfz55_1:=Qac BK108.out 1
                          have hfz55_2:=Qac BK108.out 2
                          have hfz55_3:=Qac BK108.out 3
                          have hfz55_4:=Qac BK108.out 4
                          go_wp2
                          go_ret
                          exact ⟨by first | rfl | (simp [errW_none,Qag] <;> rfl) | (simp [*,errW_none,Qag] <;> rfl),by repeat (first | (with_reducible first | exact HB.out | apply Qae | apply Qab | apply Qad | refine Qaf ?_ GE108.out) | exact HB.out)⟩
end Go.Proofs.YtfmceonbejlhlaaGreatDoor.P
