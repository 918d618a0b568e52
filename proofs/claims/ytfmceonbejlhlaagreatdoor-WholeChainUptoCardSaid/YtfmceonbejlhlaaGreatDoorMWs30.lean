import Derived.Test.YtfmceonbejlhlaaGreatDoorMWs7
import Derived.Test.YtfmceonbejlhlaaGreatDoorMWs8
import Derived.Test.YtfmceonbejlhlaaGreatDoorMWs29
namespace Go.Proofs.YtfmceonbejlhlaaGreatDoor
open Go.RowKit Go.Proofs.YtfmceonbejlhlaaGreatDoorW.PrintWords Go.Proofs.YtfmceonbejlhlaaGreatDoorW.PrintLast Go.Proofs.YtfmceonbejlhlaaGreatDoorW.PrintMore
set_option linter.unusedVariables false
def n0T:ByteArray:=⟨#[73,110,102,105,110,105,116,121]⟩
def n1T:ByteArray:=⟨#[45,73,110,102,105,110,105,116,121]⟩
def n2T:ByteArray:=⟨#[78,97,78]⟩
def namesV:Value:=.agg #[.string n0T,.int .u64 9218868437227405312,.string n1T,.int .u64 18442240474082181120,.string n2T,.int .u64 9221120237041090560]
set_option maxRecDepth 100000 in
theorem names_any (w:World):Calls Tryz.prog 168 #[] w (fun e w'=>e=.returned namesV∧Below w.heap.size w w'):=by
 go_enter Tryz.func168,Tryz.ntmps168
 go_wp2
 exact bodyPost_ret (v:=namesV) (results_cell_row (p:=0) (ty:=290) rfl _ _ w.heap.size 290 _ (0,0) _ rfl (heap_alloc_new w _) Tryz.underlying290 rfl (by kernel_rfl)) rfl ⟨rfl,(Below.refl _ _).alloc (Nat.le_refl _) _⟩
theorem index_n0 (W:World):(Instr.index 290 namesV (.int .i64 0)).run Tryz.prog W=.ok (.agg #[.string n0T,.int .u64 9218868437227405312]) W:=by kernel_rfl
theorem index_n1 (W:World):(Instr.index 290 namesV (.int .i64 1)).run Tryz.prog W=.ok (.agg #[.string n1T,.int .u64 18442240474082181120]) W:=by kernel_rfl
theorem index_n2 (W:World):(Instr.index 290 namesV (.int .i64 2)).run Tryz.prog W=.ok (.agg #[.string n2T,.int .u64 9221120237041090560]) W:=by kernel_rfl
abbrev sufV:Value:=.agg #[.string ⟨#[95,49]⟩,.string ⟨#[95,50]⟩,.string ⟨#[]⟩]
theorem index_s0 (W:World):(Instr.index 288 sufV (.int .i64 0)).run Tryz.prog W=.ok (.string ⟨#[95,49]⟩) W:=by kernel_rfl
theorem index_s1 (W:World):(Instr.index 288 sufV (.int .i64 1)).run Tryz.prog W=.ok (.string ⟨#[95,50]⟩) W:=by kernel_rfl
theorem index_s2 (W:World):(Instr.index 288 sufV (.int .i64 2)).run Tryz.prog W=.ok (.string ⟨#[]⟩) W:=by kernel_rfl
theorem put_newq (B b n q:Nat) (l:List UInt8) (ss:List ByteArray) (hn:n=ss.length) (cs:Array Value) (hcs:cs.toList=ss.map Value.string) (W:World) (hq:W.heap.size=q) (h:Wr W B b l) (hlen:l.length+(catL ss).length≤140737488355328) (hB:B≤W.heap.size) (hn2:n≤1000) :
 Calls Tryz.prog 139 #[.pointer (some ⟨b,0,none⟩),.slice (some ⟨q,0,none⟩) n n] (W.alloc (.cells cs 9)) (PutPost B b (l ++ catL ss) W):=by
 subst hq
 exact Qa8 B b n l ss hn cs hcs W h hlen hB hn2
set_option maxHeartbeats 4000000 in
set_option maxRecDepth 100000 in
theorem wfloat_6 (B b:Nat) (l:List UInt8) (u:Nat) (hu:u<65536) (w:World) (h:Wr w B b l) (hl:l.length≤70368744177664) (hB:B≤w.heap.size) (ht:Tabs w) :
 Calls Tryz.prog 140 #[.pointer (some ⟨b,0,none⟩),.int .i64 6,.int .u64 u] w (Piece B b 2010 l w):=by
 obtain ⟨r,er,hr,hwd⟩:=Qb2 (a:=16) (e:=5) (f:=10) (.inl ⟨rfl,rfl,rfl⟩) (u:Int) (by unfold U64;omega)
 obtain ⟨rn,rfl⟩:∃ rn:Nat,r=rn:=⟨r.toNat,by have:=hr.1;omega⟩
 have HR:=Lib.hid hr.2
 have HW:=Lib.hid hwd
 have HH:=Lib.hid (show Wr w B b l∧Tabs w from ⟨h,ht⟩)
 have HU:=Lib.hid hu
 have HL:=Lib.hid hl
 have i0:=index_s0
 have i1:=index_n0
 have i2:=index_n1
 have i3:=index_n2
 clear h hr hwd ht hu hl
 go_enter Tryz.func140,Tryz.ntmps140
 go_upto_region 4 with (first
  | (go_at_call 53;refine (HW.out _).mono ?_;rintro ee w1 ⟨he,hb1⟩;subst he;have HB1:=Lib.hid hb1;clear hb1)
  | (go_at_call 168;refine (names_any _).mono ?_;rintro ee w2 ⟨he,hb2⟩;subst he;have HB2:=Lib.hid (HB1.out.trans (hb2.mono HB1.out.size));clear hb2))
 go_loopw [29] (fun kv wi=>∃ k:Nat,k≤3∧kv=.int .i64 k∧Hid (Below w.heap.size w wi)) (fun kv _=>3 - (intOf kv).toNat)
 case atStart=>exact ⟨0,by omega,rfl,HB2.out⟩
 case round =>
  obtain ⟨k,hk3,rfl,HI⟩:=hrel
  rename World=>W
  by_cases hk:k=3
  · subst hk
    have HTx:=Lib.hid (ftext_any rn (by have:=HR.out;omega) W (HH.out.2.below HI.out).1)
    have hcF:=fmt16_any u 4 (by have:=HU.out;omega) (by decide) (by decide) (by have:=HU.out;omega) 
    have HF:=Lib.hid hcF
    clear hcF
    have e3:¬ ((3:Nat):Int)<3:=by decide
    clear i0 i1 i2 i3 HR HW
    go_upto_if 49 with (go_at_call 84;refine HTx.out.mono ?_;rintro ee w3 ⟨t,f,he,hf,hb3⟩;subst he;have HB3:=Lib.hid (HI.out.trans (hb3.mono HI.out.size));have HFF:=Lib.hid hf;clear hf hb3)
    have HW3:=Lib.hid (HH.out.1.below HB3.out)
    have HT3:=Lib.hid (HH.out.2.below HB3.out)
    have HS3:=Lib.hid (Nat.le_trans hB HB3.out.size)
    rcases HFF.out with ⟨hf0,ha,h1,h2⟩ | hf0
    · have HA:=Lib.hid (show Asc t∧1≤t.size∧t.size≤2000 from ⟨ha,h1,h2⟩)
      have q1:(f == 0)=true:=by rw [hf0];rfl
      clear ha h1 h2 HFF hf0 hk3 e3
      go_wp2_with (go_at_call 139;refine (Qa8 B b 2 l [t,⟨#[95,49]⟩] rfl _ rfl w3 HW3.out (by rw [Qaw];have:=HA.out;have:=HL.out;have e2:(⟨#[95,49]⟩:ByteArray).size≤2:=(by decide);omega) HS3.out (by decide)).mono ?_;rintro ee w4 ⟨he,h3,h4⟩;subst he)
      go_end0
      refine ⟨rfl,catL [t,⟨#[95,49]⟩],?_,?_,?_,h3,(Wrote.of_below HB3.out hB).trans h4⟩
      · exact HA.out.1.rt.app ((Qam (by decide)).app (Qam (by simp [catL])))
      · rw [Qaw]
        have:=HA.out
        omega
      · rw [Qaw]
        have:=HA.out
        have e2:(⟨#[95,49]⟩:ByteArray).size≤2:=by decide
        omega
    · have q1:(f == 0)=false:=by rw [hf0];rfl
      clear HFF hf0 hk3 e3
      go_wp2_with (first
       | (go_at_call 138;refine (HF.out w3 HT3.out.2).mono ?_;rintro ee w4 ⟨tx,he,h1,h2,hb4⟩;subst he;have HX:=Lib.hid (show Asc tx∧tx.size≤4∧Below w.heap.size w w4 from ⟨h1,h2,HB3.out.trans (hb4.mono HB3.out.size)⟩);obtain ⟨c,hc⟩:∃ c:Nat,(4:Int) - (tx.size:Int)=c:=⟨4 - tx.size,(by omega)⟩;have hcw:IntKind.i64.wrap ((4:Int) - (tx.size:Int))=(c:Int):=(by rw [IntKind.wrap_i64];omega);have hc2:c≤4:=(by omega);have HC2:=Lib.hid hc2;clear h1 h2 hb4 hc hc2)
       | (go_at_call 127;refine (zeros_any c w4 (by have:=HC2.out;omega)).mono ?_;rintro ee w5 ⟨tz,he,h1,h2,hb5⟩;subst he;have HZ:=Lib.hid (show Asc tz∧tz.size≤4∧Below w.heap.size w w5 from ⟨h1,(by have:=HC2.out;omega),HX.out.2.2.trans (hb5.mono HX.out.2.2.size)⟩);clear h1 h2 hb5)
       | (go_at_call 139;refine (Qa8 B b 4 l [⟨#[102,108,111,97,116,39]⟩,tz,tx,⟨#[39]⟩] rfl _ rfl w5 (HH.out.1.below HZ.out.2.2) (by rw [cat4_len];have:=HZ.out.2.1;have:=HX.out.2.1;have:=HL.out;have e1:(⟨#[102,108,111,97,116,39]⟩:ByteArray).size=6:=rfl;have e2:(⟨#[39]⟩:ByteArray).size=1:=rfl;omega) (Nat.le_trans hB HZ.out.2.2.size) (by decide)).mono ?_;rintro ee w6 ⟨he,h3,h4⟩;subst he))
      go_end0
      refine ⟨rfl,catL [⟨#[102,108,111,97,116,39]⟩,tz,tx,⟨#[39]⟩],?_,?_,?_,h3,(Wrote.of_below HZ.out.2.2 hB).trans h4⟩
      · exact (Qam (by decide)).app (HZ.out.1.rt.app (HX.out.1.rt.app ((Qam (by decide)).app (Qam (by simp [catL])))))
      · rw [cat4_len]
        have e1:(⟨#[102,108,111,97,116,39]⟩:ByteArray).size=6:=rfl
        omega
      · rw [cat4_len]
        have:=HZ.out.2.1
        have:=HX.out.2.1
        have e1:(⟨#[102,108,111,97,116,39]⟩:ByteArray).size=6:=rfl
        have e2:(⟨#[39]⟩:ByteArray).size=1:=rfl
        omega
  · have hk2:k=0 ∨ k=1 ∨ k=2:=by omega
    clear HR HW hk
    rcases hk2 with rfl | rfl | rfl
    · clear i0 i2 i3 hk3
      have e3:((0:Nat):Int)<3:=by decide
      have HY:=Lib.hid (HI.out.alloc (by have:=HI.out.size;omega) (.cells #[.string n0T,.int .u64 9218868437227405312] 289))
      have HWY:=Lib.hid (HH.out.1.below HY.out)
      have HP:=Lib.hid (put_newq B b 2 (W.heap.size+1) l [n0T,⟨#[95,49]⟩] rfl #[.string n0T,.string ⟨#[95,49]⟩] rfl (W.alloc (.cells #[.string n0T,.int .u64 9218868437227405312] 289)) (by simp) HWY.out (by rw [Qaw];have:=HL.out;have e1:(n0T:ByteArray).size≤9:=(by decide);have e2:(⟨#[95,49]⟩:ByteArray).size≤2:=(by decide);omega) (Nat.le_trans hB HY.out.size) (by decide))
      by_cases hq:(rn:Int)=9218868437227405312
      · have q1:((9218868437227405312:Int) == (rn:Int))=true:=by rw [hq];rfl
        clear hq
        go_wp2_with (go_at_call 139;refine HP.out.mono ?_;rintro ee w4 ⟨he,h3,h4⟩;subst he)
        go_end0
        refine ⟨rfl,catL [n0T,⟨#[95,49]⟩],?_,?_,?_,h3,(Wrote.of_below HY.out hB).trans h4⟩
        · exact (Qam (by decide)).app ((Qam (by decide)).app (Qam (by simp [catL])))
        · rw [Qaw]
          have e1:(n0T:ByteArray).size=8:=by decide
          omega
        · rw [Qaw]
          have e1:(n0T:ByteArray).size≤9:=by decide
          have e2:(⟨#[95,49]⟩:ByteArray).size≤2:=by decide
          omega
      · have q1:((9218868437227405312:Int) == (rn:Int))=false:=by rw [beq_eq_false_iff_ne];omega
        clear hq
        go_wp2
        exact ⟨⟨1,by decide,rfl,HY.out⟩,by decide⟩
    · clear i0 i1 i3 hk3
      have e3:((1:Nat):Int)<3:=by decide
      have HY:=Lib.hid (HI.out.alloc (by have:=HI.out.size;omega) (.cells #[.string n1T,.int .u64 18442240474082181120] 289))
      have HWY:=Lib.hid (HH.out.1.below HY.out)
      have HP:=Lib.hid (put_newq B b 2 (W.heap.size+1) l [n1T,⟨#[95,49]⟩] rfl #[.string n1T,.string ⟨#[95,49]⟩] rfl (W.alloc (.cells #[.string n1T,.int .u64 18442240474082181120] 289)) (by simp) HWY.out (by rw [Qaw];have:=HL.out;have e1:(n1T:ByteArray).size≤9:=(by decide);have e2:(⟨#[95,49]⟩:ByteArray).size≤2:=(by decide);omega) (Nat.le_trans hB HY.out.size) (by decide))
      by_cases hq:(rn:Int)=18442240474082181120
      · have q1:((18442240474082181120:Int) == (rn:Int))=true:=by rw [hq];rfl
        clear hq
        go_wp2_with (go_at_call 139;refine HP.out.mono ?_;rintro ee w4 ⟨he,h3,h4⟩;subst he)
        go_end0
        refine ⟨rfl,catL [n1T,⟨#[95,49]⟩],?_,?_,?_,h3,(Wrote.of_below HY.out hB).trans h4⟩
        · exact (Qam (by decide)).app ((Qam (by decide)).app (Qam (by simp [catL])))
        · rw [Qaw]
          have e1:(n1T:ByteArray).size=9:=by decide
          omega
        · rw [Qaw]
          have e1:(n1T:ByteArray).size≤9:=by decide
          have e2:(⟨#[95,49]⟩:ByteArray).size≤2:=by decide
          omega
      · have q1:((18442240474082181120:Int) == (rn:Int))=false:=by rw [beq_eq_false_iff_ne];omega
        clear hq
        go_wp2
        exact ⟨⟨2,by decide,rfl,HY.out⟩,by decide⟩
    · clear i0 i1 i2 hk3
      have e3:((2:Nat):Int)<3:=by decide
      have HY:=Lib.hid (HI.out.alloc (by have:=HI.out.size;omega) (.cells #[.string n2T,.int .u64 9221120237041090560] 289))
      have HWY:=Lib.hid (HH.out.1.below HY.out)
      have HP:=Lib.hid (put_newq B b 2 (W.heap.size+1) l [n2T,⟨#[95,49]⟩] rfl #[.string n2T,.string ⟨#[95,49]⟩] rfl (W.alloc (.cells #[.string n2T,.int .u64 9221120237041090560] 289)) (by simp) HWY.out (by rw [Qaw];have:=HL.out;have e1:(n2T:ByteArray).size≤9:=(by decide);have e2:(⟨#[95,49]⟩:ByteArray).size≤2:=(by decide);omega) (Nat.le_trans hB HY.out.size) (by decide))
      by_cases hq:(rn:Int)=9221120237041090560
      · have q1:((9221120237041090560:Int) == (rn:Int))=true:=by rw [hq];rfl
        clear hq
        go_wp2_with (go_at_call 139;refine HP.out.mono ?_;rintro ee w4 ⟨he,h3,h4⟩;subst he)
        go_end0
        refine ⟨rfl,catL [n2T,⟨#[95,49]⟩],?_,?_,?_,h3,(Wrote.of_below HY.out hB).trans h4⟩
        · exact (Qam (by decide)).app ((Qam (by decide)).app (Qam (by simp [catL])))
        · rw [Qaw]
          have e1:(n2T:ByteArray).size=3:=by decide
          omega
        · rw [Qaw]
          have e1:(n2T:ByteArray).size≤9:=by decide
          have e2:(⟨#[95,49]⟩:ByteArray).size≤2:=by decide
          omega
      · have q1:((9221120237041090560:Int) == (rn:Int))=false:=by rw [beq_eq_false_iff_ne];omega
        clear hq
        go_wp2
        exact ⟨⟨3,by decide,rfl,HY.out⟩,by decide⟩
set_option maxHeartbeats 4000000 in
set_option maxRecDepth 100000 in
theorem wfloat_7 (B b:Nat) (l:List UInt8) (u:Nat) (hu:u<4294967296) (w:World) (h:Wr w B b l) (hl:l.length≤70368744177664) (hB:B≤w.heap.size) (ht:Tabs w) :
 Calls Tryz.prog 140 #[.pointer (some ⟨b,0,none⟩),.int .i64 7,.int .u64 u] w (Piece B b 2010 l w):=by
 obtain ⟨r,er,hr,hwd⟩:=Qb2 (a:=32) (e:=8) (f:=23) (.inr (.inl ⟨rfl,rfl,rfl⟩)) (u:Int) (by unfold U64;omega)
 obtain ⟨rn,rfl⟩:∃ rn:Nat,r=rn:=⟨r.toNat,by have:=hr.1;omega⟩
 have HR:=Lib.hid hr.2
 have HW:=Lib.hid hwd
 have HH:=Lib.hid (show Wr w B b l∧Tabs w from ⟨h,ht⟩)
 have HU:=Lib.hid hu
 have HL:=Lib.hid hl
 have i0:=index_s1
 have i1:=index_n0
 have i2:=index_n1
 have i3:=index_n2
 clear h hr hwd ht hu hl
 go_enter Tryz.func140,Tryz.ntmps140
 go_upto_region 4 with (first
  | (go_at_call 53;refine (HW.out _).mono ?_;rintro ee w1 ⟨he,hb1⟩;subst he;have HB1:=Lib.hid hb1;clear hb1)
  | (go_at_call 168;refine (names_any _).mono ?_;rintro ee w2 ⟨he,hb2⟩;subst he;have HB2:=Lib.hid (HB1.out.trans (hb2.mono HB1.out.size));clear hb2))
 go_loopw [29] (fun kv wi=>∃ k:Nat,k≤3∧kv=.int .i64 k∧Hid (Below w.heap.size w wi)) (fun kv _=>3 - (intOf kv).toNat)
 case atStart=>exact ⟨0,by omega,rfl,HB2.out⟩
 case round =>
  obtain ⟨k,hk3,rfl,HI⟩:=hrel
  rename World=>W
  by_cases hk:k=3
  · subst hk
    have HTx:=Lib.hid (ftext_any rn (by have:=HR.out;omega) W (HH.out.2.below HI.out).1)
    have hcF:=fmt16_any u 8 (by have:=HU.out;omega) (by decide) (by decide) (by have:=HU.out;omega) 
    have HF:=Lib.hid hcF
    clear hcF
    have e3:¬ ((3:Nat):Int)<3:=by decide
    clear i0 i1 i2 i3 HR HW
    go_upto_if 49 with (go_at_call 84;refine HTx.out.mono ?_;rintro ee w3 ⟨t,f,he,hf,hb3⟩;subst he;have HB3:=Lib.hid (HI.out.trans (hb3.mono HI.out.size));have HFF:=Lib.hid hf;clear hf hb3)
    have HW3:=Lib.hid (HH.out.1.below HB3.out)
    have HT3:=Lib.hid (HH.out.2.below HB3.out)
    have HS3:=Lib.hid (Nat.le_trans hB HB3.out.size)
    rcases HFF.out with ⟨hf0,ha,h1,h2⟩ | hf0
    · have HA:=Lib.hid (show Asc t∧1≤t.size∧t.size≤2000 from ⟨ha,h1,h2⟩)
      have q1:(f == 0)=true:=by rw [hf0];rfl
      clear ha h1 h2 HFF hf0 hk3 e3
      go_wp2_with (go_at_call 139;refine (Qa8 B b 2 l [t,⟨#[95,50]⟩] rfl _ rfl w3 HW3.out (by rw [Qaw];have:=HA.out;have:=HL.out;have e2:(⟨#[95,50]⟩:ByteArray).size≤2:=(by decide);omega) HS3.out (by decide)).mono ?_;rintro ee w4 ⟨he,h3,h4⟩;subst he)
      go_end0
      refine ⟨rfl,catL [t,⟨#[95,50]⟩],?_,?_,?_,h3,(Wrote.of_below HB3.out hB).trans h4⟩
      · exact HA.out.1.rt.app ((Qam (by decide)).app (Qam (by simp [catL])))
      · rw [Qaw]
        have:=HA.out
        omega
      · rw [Qaw]
        have:=HA.out
        have e2:(⟨#[95,50]⟩:ByteArray).size≤2:=by decide
        omega
    · have q1:(f == 0)=false:=by rw [hf0];rfl
      clear HFF hf0 hk3 e3
      go_wp2_with (first
       | (go_at_call 138;refine (HF.out w3 HT3.out.2).mono ?_;rintro ee w4 ⟨tx,he,h1,h2,hb4⟩;subst he;have HX:=Lib.hid (show Asc tx∧tx.size≤8∧Below w.heap.size w w4 from ⟨h1,h2,HB3.out.trans (hb4.mono HB3.out.size)⟩);obtain ⟨c,hc⟩:∃ c:Nat,(8:Int) - (tx.size:Int)=c:=⟨8 - tx.size,(by omega)⟩;have hcw:IntKind.i64.wrap ((8:Int) - (tx.size:Int))=(c:Int):=(by rw [IntKind.wrap_i64];omega);have hc2:c≤8:=(by omega);have HC2:=Lib.hid hc2;clear h1 h2 hb4 hc hc2)
       | (go_at_call 127;refine (zeros_any c w4 (by have:=HC2.out;omega)).mono ?_;rintro ee w5 ⟨tz,he,h1,h2,hb5⟩;subst he;have HZ:=Lib.hid (show Asc tz∧tz.size≤8∧Below w.heap.size w w5 from ⟨h1,(by have:=HC2.out;omega),HX.out.2.2.trans (hb5.mono HX.out.2.2.size)⟩);clear h1 h2 hb5)
       | (go_at_call 139;refine (Qa8 B b 4 l [⟨#[102,108,111,97,116,39]⟩,tz,tx,⟨#[39]⟩] rfl _ rfl w5 (HH.out.1.below HZ.out.2.2) (by rw [cat4_len];have:=HZ.out.2.1;have:=HX.out.2.1;have:=HL.out;have e1:(⟨#[102,108,111,97,116,39]⟩:ByteArray).size=6:=rfl;have e2:(⟨#[39]⟩:ByteArray).size=1:=rfl;omega) (Nat.le_trans hB HZ.out.2.2.size) (by decide)).mono ?_;rintro ee w6 ⟨he,h3,h4⟩;subst he))
      go_end0
      refine ⟨rfl,catL [⟨#[102,108,111,97,116,39]⟩,tz,tx,⟨#[39]⟩],?_,?_,?_,h3,(Wrote.of_below HZ.out.2.2 hB).trans h4⟩
      · exact (Qam (by decide)).app (HZ.out.1.rt.app (HX.out.1.rt.app ((Qam (by decide)).app (Qam (by simp [catL])))))
      · rw [cat4_len]
        have e1:(⟨#[102,108,111,97,116,39]⟩:ByteArray).size=6:=rfl
        omega
      · rw [cat4_len]
        have:=HZ.out.2.1
        have:=HX.out.2.1
        have e1:(⟨#[102,108,111,97,116,39]⟩:ByteArray).size=6:=rfl
        have e2:(⟨#[39]⟩:ByteArray).size=1:=rfl
        omega
  · have hk2:k=0 ∨ k=1 ∨ k=2:=by omega
    clear HR HW hk
    rcases hk2 with rfl | rfl | rfl
    · clear i0 i2 i3 hk3
      have e3:((0:Nat):Int)<3:=by decide
      have HY:=Lib.hid (HI.out.alloc (by have:=HI.out.size;omega) (.cells #[.string n0T,.int .u64 9218868437227405312] 289))
      have HWY:=Lib.hid (HH.out.1.below HY.out)
      have HP:=Lib.hid (put_newq B b 2 (W.heap.size+1) l [n0T,⟨#[95,50]⟩] rfl #[.string n0T,.string ⟨#[95,50]⟩] rfl (W.alloc (.cells #[.string n0T,.int .u64 9218868437227405312] 289)) (by simp) HWY.out (by rw [Qaw];have:=HL.out;have e1:(n0T:ByteArray).size≤9:=(by decide);have e2:(⟨#[95,50]⟩:ByteArray).size≤2:=(by decide);omega) (Nat.le_trans hB HY.out.size) (by decide))
      by_cases hq:(rn:Int)=9218868437227405312
      · have q1:((9218868437227405312:Int) == (rn:Int))=true:=by rw [hq];rfl
        clear hq
        go_wp2_with (go_at_call 139;refine HP.out.mono ?_;rintro ee w4 ⟨he,h3,h4⟩;subst he)
        go_end0
        refine ⟨rfl,catL [n0T,⟨#[95,50]⟩],?_,?_,?_,h3,(Wrote.of_below HY.out hB).trans h4⟩
        · exact (Qam (by decide)).app ((Qam (by decide)).app (Qam (by simp [catL])))
        · rw [Qaw]
          have e1:(n0T:ByteArray).size=8:=by decide
          omega
        · rw [Qaw]
          have e1:(n0T:ByteArray).size≤9:=by decide
          have e2:(⟨#[95,50]⟩:ByteArray).size≤2:=by decide
          omega
      · have q1:((9218868437227405312:Int) == (rn:Int))=false:=by rw [beq_eq_false_iff_ne];omega
        clear hq
        go_wp2
        exact ⟨⟨1,by decide,rfl,HY.out⟩,by decide⟩
    · clear i0 i1 i3 hk3
      have e3:((1:Nat):Int)<3:=by decide
      have HY:=Lib.hid (HI.out.alloc (by have:=HI.out.size;omega) (.cells #[.string n1T,.int .u64 18442240474082181120] 289))
      have HWY:=Lib.hid (HH.out.1.below HY.out)
      have HP:=Lib.hid (put_newq B b 2 (W.heap.size+1) l [n1T,⟨#[95,50]⟩] rfl #[.string n1T,.string ⟨#[95,50]⟩] rfl (W.alloc (.cells #[.string n1T,.int .u64 18442240474082181120] 289)) (by simp) HWY.out (by rw [Qaw];have:=HL.out;have e1:(n1T:ByteArray).size≤9:=(by decide);have e2:(⟨#[95,50]⟩:ByteArray).size≤2:=(by decide);omega) (Nat.le_trans hB HY.out.size) (by decide))
      by_cases hq:(rn:Int)=18442240474082181120
      · have q1:((18442240474082181120:Int) == (rn:Int))=true:=by rw [hq];rfl
        clear hq
        go_wp2_with (go_at_call 139;refine HP.out.mono ?_;rintro ee w4 ⟨he,h3,h4⟩;subst he)
        go_end0
        refine ⟨rfl,catL [n1T,⟨#[95,50]⟩],?_,?_,?_,h3,(Wrote.of_below HY.out hB).trans h4⟩
        · exact (Qam (by decide)).app ((Qam (by decide)).app (Qam (by simp [catL])))
        · rw [Qaw]
          have e1:(n1T:ByteArray).size=9:=by decide
          omega
        · rw [Qaw]
          have e1:(n1T:ByteArray).size≤9:=by decide
          have e2:(⟨#[95,50]⟩:ByteArray).size≤2:=by decide
          omega
      · have q1:((18442240474082181120:Int) == (rn:Int))=false:=by rw [beq_eq_false_iff_ne];omega
        clear hq
        go_wp2
        exact ⟨⟨2,by decide,rfl,HY.out⟩,by decide⟩
    · clear i0 i1 i2 hk3
      have e3:((2:Nat):Int)<3:=by decide
      have HY:=Lib.hid (HI.out.alloc (by have:=HI.out.size;omega) (.cells #[.string n2T,.int .u64 9221120237041090560] 289))
      have HWY:=Lib.hid (HH.out.1.below HY.out)
      have HP:=Lib.hid (put_newq B b 2 (W.heap.size+1) l [n2T,⟨#[95,50]⟩] rfl #[.string n2T,.string ⟨#[95,50]⟩] rfl (W.alloc (.cells #[.string n2T,.int .u64 9221120237041090560] 289)) (by simp) HWY.out (by rw [Qaw];have:=HL.out;have e1:(n2T:ByteArray).size≤9:=(by decide);have e2:(⟨#[95,50]⟩:ByteArray).size≤2:=(by decide);omega) (Nat.le_trans hB HY.out.size) (by decide))
      by_cases hq:(rn:Int)=9221120237041090560
      · have q1:((9221120237041090560:Int) == (rn:Int))=true:=by rw [hq];rfl
        clear hq
        go_wp2_with (go_at_call 139;refine HP.out.mono ?_;rintro ee w4 ⟨he,h3,h4⟩;subst he)
        go_end0
        refine ⟨rfl,catL [n2T,⟨#[95,50]⟩],?_,?_,?_,h3,(Wrote.of_below HY.out hB).trans h4⟩
        · exact (Qam (by decide)).app ((Qam (by decide)).app (Qam (by simp [catL])))
        · rw [Qaw]
          have e1:(n2T:ByteArray).size=3:=by decide
          omega
        · rw [Qaw]
          have e1:(n2T:ByteArray).size≤9:=by decide
          have e2:(⟨#[95,50]⟩:ByteArray).size≤2:=by decide
          omega
      · have q1:((9221120237041090560:Int) == (rn:Int))=false:=by rw [beq_eq_false_iff_ne];omega
        clear hq
        go_wp2
        exact ⟨⟨3,by decide,rfl,HY.out⟩,by decide⟩
set_option maxHeartbeats 4000000 in
set_option maxRecDepth 100000 in
theorem wfloat_8 (B b:Nat) (l:List UInt8) (u:Nat) (hu:u<18446744073709551616) (w:World) (h:Wr w B b l) (hl:l.length≤70368744177664) (hB:B≤w.heap.size) (ht:Tabs w) :
 Calls Tryz.prog 140 #[.pointer (some ⟨b,0,none⟩),.int .i64 8,.int .u64 u] w (Piece B b 2010 l w):=by
 obtain ⟨r,er,hr,hwd⟩:=Qb2 (a:=64) (e:=11) (f:=52) (.inr (.inr ⟨rfl,rfl,rfl⟩)) (u:Int) (by unfold U64;omega)
 obtain ⟨rn,rfl⟩:∃ rn:Nat,r=rn:=⟨r.toNat,by have:=hr.1;omega⟩
 have HR:=Lib.hid hr.2
 have HW:=Lib.hid hwd
 have HH:=Lib.hid (show Wr w B b l∧Tabs w from ⟨h,ht⟩)
 have HU:=Lib.hid hu
 have HL:=Lib.hid hl
 have i0:=index_s2
 have i1:=index_n0
 have i2:=index_n1
 have i3:=index_n2
 clear h hr hwd ht hu hl
 go_enter Tryz.func140,Tryz.ntmps140
 go_upto_region 4 with (first
  | (go_at_call 53;refine (HW.out _).mono ?_;rintro ee w1 ⟨he,hb1⟩;subst he;have HB1:=Lib.hid hb1;clear hb1)
  | (go_at_call 168;refine (names_any _).mono ?_;rintro ee w2 ⟨he,hb2⟩;subst he;have HB2:=Lib.hid (HB1.out.trans (hb2.mono HB1.out.size));clear hb2))
 go_loopw [29] (fun kv wi=>∃ k:Nat,k≤3∧kv=.int .i64 k∧Hid (Below w.heap.size w wi)) (fun kv _=>3 - (intOf kv).toNat)
 case atStart=>exact ⟨0,by omega,rfl,HB2.out⟩
 case round =>
  obtain ⟨k,hk3,rfl,HI⟩:=hrel
  rename World=>W
  by_cases hk:k=3
  · subst hk
    have HTx:=Lib.hid (ftext_any rn (by have:=HR.out;omega) W (HH.out.2.below HI.out).1)
    have hcF:=fmt16_any u 16 (by have:=HU.out;omega) (by decide) (by decide) (by have:=HU.out;omega) 
    have HF:=Lib.hid hcF
    clear hcF
    have e3:¬ ((3:Nat):Int)<3:=by decide
    clear i0 i1 i2 i3 HR HW
    go_upto_if 49 with (go_at_call 84;refine HTx.out.mono ?_;rintro ee w3 ⟨t,f,he,hf,hb3⟩;subst he;have HB3:=Lib.hid (HI.out.trans (hb3.mono HI.out.size));have HFF:=Lib.hid hf;clear hf hb3)
    have HW3:=Lib.hid (HH.out.1.below HB3.out)
    have HT3:=Lib.hid (HH.out.2.below HB3.out)
    have HS3:=Lib.hid (Nat.le_trans hB HB3.out.size)
    rcases HFF.out with ⟨hf0,ha,h1,h2⟩ | hf0
    · have HA:=Lib.hid (show Asc t∧1≤t.size∧t.size≤2000 from ⟨ha,h1,h2⟩)
      have q1:(f == 0)=true:=by rw [hf0];rfl
      clear ha h1 h2 HFF hf0 hk3 e3
      go_wp2_with (go_at_call 139;refine (Qa8 B b 2 l [t,⟨#[]⟩] rfl _ rfl w3 HW3.out (by rw [Qaw];have:=HA.out;have:=HL.out;have e2:(⟨#[]⟩:ByteArray).size≤2:=(by decide);omega) HS3.out (by decide)).mono ?_;rintro ee w4 ⟨he,h3,h4⟩;subst he)
      go_end0
      refine ⟨rfl,catL [t,⟨#[]⟩],?_,?_,?_,h3,(Wrote.of_below HB3.out hB).trans h4⟩
      · exact HA.out.1.rt.app ((Qam (by decide)).app (Qam (by simp [catL])))
      · rw [Qaw]
        have:=HA.out
        omega
      · rw [Qaw]
        have:=HA.out
        have e2:(⟨#[]⟩:ByteArray).size≤2:=by decide
        omega
    · have q1:(f == 0)=false:=by rw [hf0];rfl
      clear HFF hf0 hk3 e3
      go_wp2_with (first
       | (go_at_call 138;refine (HF.out w3 HT3.out.2).mono ?_;rintro ee w4 ⟨tx,he,h1,h2,hb4⟩;subst he;have HX:=Lib.hid (show Asc tx∧tx.size≤16∧Below w.heap.size w w4 from ⟨h1,h2,HB3.out.trans (hb4.mono HB3.out.size)⟩);obtain ⟨c,hc⟩:∃ c:Nat,(16:Int) - (tx.size:Int)=c:=⟨16 - tx.size,(by omega)⟩;have hcw:IntKind.i64.wrap ((16:Int) - (tx.size:Int))=(c:Int):=(by rw [IntKind.wrap_i64];omega);have hc2:c≤16:=(by omega);have HC2:=Lib.hid hc2;clear h1 h2 hb4 hc hc2)
       | (go_at_call 127;refine (zeros_any c w4 (by have:=HC2.out;omega)).mono ?_;rintro ee w5 ⟨tz,he,h1,h2,hb5⟩;subst he;have HZ:=Lib.hid (show Asc tz∧tz.size≤16∧Below w.heap.size w w5 from ⟨h1,(by have:=HC2.out;omega),HX.out.2.2.trans (hb5.mono HX.out.2.2.size)⟩);clear h1 h2 hb5)
       | (go_at_call 139;refine (Qa8 B b 4 l [⟨#[102,108,111,97,116,39]⟩,tz,tx,⟨#[39]⟩] rfl _ rfl w5 (HH.out.1.below HZ.out.2.2) (by rw [cat4_len];have:=HZ.out.2.1;have:=HX.out.2.1;have:=HL.out;have e1:(⟨#[102,108,111,97,116,39]⟩:ByteArray).size=6:=rfl;have e2:(⟨#[39]⟩:ByteArray).size=1:=rfl;omega) (Nat.le_trans hB HZ.out.2.2.size) (by decide)).mono ?_;rintro ee w6 ⟨he,h3,h4⟩;subst he))
      go_end0
      refine ⟨rfl,catL [⟨#[102,108,111,97,116,39]⟩,tz,tx,⟨#[39]⟩],?_,?_,?_,h3,(Wrote.of_below HZ.out.2.2 hB).trans h4⟩
      · exact (Qam (by decide)).app (HZ.out.1.rt.app (HX.out.1.rt.app ((Qam (by decide)).app (Qam (by simp [catL])))))
      · rw [cat4_len]
        have e1:(⟨#[102,108,111,97,116,39]⟩:ByteArray).size=6:=rfl
        omega
      · rw [cat4_len]
        have:=HZ.out.2.1
        have:=HX.out.2.1
        have e1:(⟨#[102,108,111,97,116,39]⟩:ByteArray).size=6:=rfl
        have e2:(⟨#[39]⟩:ByteArray).size=1:=rfl
        omega
  · have hk2:k=0 ∨ k=1 ∨ k=2:=by omega
    clear HR HW hk
    rcases hk2 with rfl | rfl | rfl
    · clear i0 i2 i3 hk3
      have e3:((0:Nat):Int)<3:=by decide
      have HY:=Lib.hid (HI.out.alloc (by have:=HI.out.size;omega) (.cells #[.string n0T,.int .u64 9218868437227405312] 289))
      have HWY:=Lib.hid (HH.out.1.below HY.out)
      have HP:=Lib.hid (put_newq B b 2 (W.heap.size+1) l [n0T,⟨#[]⟩] rfl #[.string n0T,.string ⟨#[]⟩] rfl (W.alloc (.cells #[.string n0T,.int .u64 9218868437227405312] 289)) (by simp) HWY.out (by rw [Qaw];have:=HL.out;have e1:(n0T:ByteArray).size≤9:=(by decide);have e2:(⟨#[]⟩:ByteArray).size≤2:=(by decide);omega) (Nat.le_trans hB HY.out.size) (by decide))
      by_cases hq:(rn:Int)=9218868437227405312
      · have q1:((9218868437227405312:Int) == (rn:Int))=true:=by rw [hq];rfl
        clear hq
        go_wp2_with (go_at_call 139;refine HP.out.mono ?_;rintro ee w4 ⟨he,h3,h4⟩;subst he)
        go_end0
        refine ⟨rfl,catL [n0T,⟨#[]⟩],?_,?_,?_,h3,(Wrote.of_below HY.out hB).trans h4⟩
        · exact (Qam (by decide)).app ((Qam (by decide)).app (Qam (by simp [catL])))
        · rw [Qaw]
          have e1:(n0T:ByteArray).size=8:=by decide
          omega
        · rw [Qaw]
          have e1:(n0T:ByteArray).size≤9:=by decide
          have e2:(⟨#[]⟩:ByteArray).size≤2:=by decide
          omega
      · have q1:((9218868437227405312:Int) == (rn:Int))=false:=by rw [beq_eq_false_iff_ne];omega
        clear hq
        go_wp2
        exact ⟨⟨1,by decide,rfl,HY.out⟩,by decide⟩
    · clear i0 i1 i3 hk3
      have e3:((1:Nat):Int)<3:=by decide
      have HY:=Lib.hid (HI.out.alloc (by have:=HI.out.size;omega) (.cells #[.string n1T,.int .u64 18442240474082181120] 289))
      have HWY:=Lib.hid (HH.out.1.below HY.out)
      have HP:=Lib.hid (put_newq B b 2 (W.heap.size+1) l [n1T,⟨#[]⟩] rfl #[.string n1T,.string ⟨#[]⟩] rfl (W.alloc (.cells #[.string n1T,.int .u64 18442240474082181120] 289)) (by simp) HWY.out (by rw [Qaw];have:=HL.out;have e1:(n1T:ByteArray).size≤9:=(by decide);have e2:(⟨#[]⟩:ByteArray).size≤2:=(by decide);omega) (Nat.le_trans hB HY.out.size) (by decide))
      by_cases hq:(rn:Int)=18442240474082181120
      · have q1:((18442240474082181120:Int) == (rn:Int))=true:=by rw [hq];rfl
        clear hq
        go_wp2_with (go_at_call 139;refine HP.out.mono ?_;rintro ee w4 ⟨he,h3,h4⟩;subst he)
        go_end0
        refine ⟨rfl,catL [n1T,⟨#[]⟩],?_,?_,?_,h3,(Wrote.of_below HY.out hB).trans h4⟩
        · exact (Qam (by decide)).app ((Qam (by decide)).app (Qam (by simp [catL])))
        · rw [Qaw]
          have e1:(n1T:ByteArray).size=9:=by decide
          omega
        · rw [Qaw]
          have e1:(n1T:ByteArray).size≤9:=by decide
          have e2:(⟨#[]⟩:ByteArray).size≤2:=by decide
          omega
      · have q1:((18442240474082181120:Int) == (rn:Int))=false:=by rw [beq_eq_false_iff_ne];omega
        clear hq
        go_wp2
        exact ⟨⟨2,by decide,rfl,HY.out⟩,by decide⟩
    · clear i0 i1 i2 hk3
      have e3:((2:Nat):Int)<3:=by decide
      have HY:=Lib.hid (HI.out.alloc (by have:=HI.out.size;omega) (.cells #[.string n2T,.int .u64 9221120237041090560] 289))
      have HWY:=Lib.hid (HH.out.1.below HY.out)
      have HP:=Lib.hid (put_newq B b 2 (W.heap.size+1) l [n2T,⟨#[]⟩] rfl #[.string n2T,.string ⟨#[]⟩] rfl (W.alloc (.cells #[.string n2T,.int .u64 9221120237041090560] 289)) (by simp) HWY.out (by rw [Qaw];have:=HL.out;have e1:(n2T:ByteArray).size≤9:=(by decide);have e2:(⟨#[]⟩:ByteArray).size≤2:=(by decide);omega) (Nat.le_trans hB HY.out.size) (by decide))
      by_cases hq:(rn:Int)=9221120237041090560
      · have q1:((9221120237041090560:Int) == (rn:Int))=true:=by rw [hq];rfl
        clear hq
        go_wp2_with (go_at_call 139;refine HP.out.mono ?_;rintro ee w4 ⟨he,h3,h4⟩;subst he)
        go_end0
        refine ⟨rfl,catL [n2T,⟨#[]⟩],?_,?_,?_,h3,(Wrote.of_below HY.out hB).trans h4⟩
        · exact (Qam (by decide)).app ((Qam (by decide)).app (Qam (by simp [catL])))
        · rw [Qaw]
          have e1:(n2T:ByteArray).size=3:=by decide
          omega
        · rw [Qaw]
          have e1:(n2T:ByteArray).size≤9:=by decide
          have e2:(⟨#[]⟩:ByteArray).size≤2:=by decide
          omega
      · have q1:((9221120237041090560:Int) == (rn:Int))=false:=by rw [beq_eq_false_iff_ne];omega
        clear hq
        go_wp2
        exact ⟨⟨3,by decide,rfl,HY.out⟩,by decide⟩
theorem Rt8.lit {s:ByteArray} (h:(s.data.toList.all fun c=>decide (c.toNat<128))=true):Rt8 s.data.toList :=
 Qam fun c hc=>of_decide_eq_true (List.all_eq_true.1 h c hc)
set_option maxRecDepth 100000 in
set_option maxHeartbeats 4000000 in
theorem ditem_0 (neg:Bool) (N:Nat) (hN:N<18446744073709551616) (s:ByteArray) (av:Value) (B b:Nat) (l:List UInt8) (w:World) (h:Wr w B b l) (ht:Tabs w) (hl:l.length≤70368744177664) (hB:B≤w.heap.size) :
 Calls Tryz.prog 100 #[.pointer (some ⟨b,0,none⟩),.agg #[.int .i64 0,.bool neg,.int .u64 N,.string s,av]] w (Piece B b 60 l w):=by
 have R:=Row5.new w (.int .i64 0) (.bool neg) (.int .u64 N) (.string s) av
 have hb1:=(Below.refl w.heap.size w).alloc (Nat.le_refl _) (.cells #[.int .i64 0,.bool neg,.int .u64 N,.string s,av] 25)
 have HF:=Lib.hid (Qbc N hN _ (ht.below hb1).1)
 have HW1:=Lib.hid (h.below hb1)
 have HB1:=Lib.hid hb1
 have HL:=Lib.hid hl
 have HR:=Lib.hid R
 have hc2:=R.c2
 clear h ht hl hb1 R hN
 go_enter Tryz.func100,Tryz.ntmps100
 go_wp2_with (first
  | (go_at_call 138;refine HF.out.mono ?_;rintro ee w2 ⟨tn,he,h1,h2,hb2⟩;subst he;have HT:=Lib.hid (show Asc tn∧tn.size≤20 from ⟨h1,h2⟩);have HW2:=Lib.hid (HW1.out.below hb2);have HB2:=Lib.hid (HB1.out.trans (hb2.mono HB1.out.size));have R2:=HR.out.below hb2;have d0:=R2.c0;clear h1 h2 hb2 R2)
  | (go_at_call 139;refine (Qa8 B b 1 l [⟨#[110,117,108,108]⟩] rfl #[.string ⟨#[110,117,108,108]⟩] rfl w2 HW2.out (by rw [Qat];have:=HT.out.2;have:=HL.out;have e0:(⟨#[110,117,108,108]⟩:ByteArray).size≤16:=(by decide);omega) (Nat.le_trans hB HB2.out.size) (by decide)).mono ?_;rintro ee w3 ⟨he,h3,h4⟩;subst he))
 go_end0
 refine ⟨rfl,catL [⟨#[110,117,108,108]⟩],?_,?_,?_,h3,(Wrote.of_below HB2.out hB).trans h4⟩
 · exact ((Rt8.lit (by decide)).app (Qam (by simp [catL])))
 · rw [Qat]
   have e0:1≤(⟨#[110,117,108,108]⟩:ByteArray).size:=by decide
   omega
 · rw [Qat]
   have:=HT.out.2
   have e0:(⟨#[110,117,108,108]⟩:ByteArray).size≤16:=(by decide)
   omega
set_option maxRecDepth 100000 in
set_option maxHeartbeats 4000000 in
theorem ditem_2 (neg:Bool) (N:Nat) (hN:N<18446744073709551616) (s:ByteArray) (av:Value) (B b:Nat) (l:List UInt8) (w:World) (h:Wr w B b l) (ht:Tabs w) (hl:l.length≤70368744177664) (hB:B≤w.heap.size) :
 Calls Tryz.prog 100 #[.pointer (some ⟨b,0,none⟩),.agg #[.int .i64 2,.bool neg,.int .u64 N,.string s,av]] w (Piece B b 60 l w):=by
 have R:=Row5.new w (.int .i64 2) (.bool neg) (.int .u64 N) (.string s) av
 have hb1:=(Below.refl w.heap.size w).alloc (Nat.le_refl _) (.cells #[.int .i64 2,.bool neg,.int .u64 N,.string s,av] 25)
 have HF:=Lib.hid (Qbc N hN _ (ht.below hb1).1)
 have HW1:=Lib.hid (h.below hb1)
 have HB1:=Lib.hid hb1
 have HL:=Lib.hid hl
 have HR:=Lib.hid R
 have hc2:=R.c2
 clear h ht hl hb1 R hN
 go_enter Tryz.func100,Tryz.ntmps100
 go_wp2_with (first
  | (go_at_call 138;refine HF.out.mono ?_;rintro ee w2 ⟨tn,he,h1,h2,hb2⟩;subst he;have HT:=Lib.hid (show Asc tn∧tn.size≤20 from ⟨h1,h2⟩);have HW2:=Lib.hid (HW1.out.below hb2);have HB2:=Lib.hid (HB1.out.trans (hb2.mono HB1.out.size));have R2:=HR.out.below hb2;have d0:=R2.c0;clear h1 h2 hb2 R2)
  | (go_at_call 139;refine (Qa8 B b 1 l [⟨#[117,110,100,101,102,105,110,101,100]⟩] rfl #[.string ⟨#[117,110,100,101,102,105,110,101,100]⟩] rfl w2 HW2.out (by rw [Qat];have:=HT.out.2;have:=HL.out;have e0:(⟨#[117,110,100,101,102,105,110,101,100]⟩:ByteArray).size≤16:=(by decide);omega) (Nat.le_trans hB HB2.out.size) (by decide)).mono ?_;rintro ee w3 ⟨he,h3,h4⟩;subst he))
 go_end0
 refine ⟨rfl,catL [⟨#[117,110,100,101,102,105,110,101,100]⟩],?_,?_,?_,h3,(Wrote.of_below HB2.out hB).trans h4⟩
 · exact ((Rt8.lit (by decide)).app (Qam (by simp [catL])))
 · rw [Qat]
   have e0:1≤(⟨#[117,110,100,101,102,105,110,101,100]⟩:ByteArray).size:=by decide
   omega
 · rw [Qat]
   have:=HT.out.2
   have e0:(⟨#[117,110,100,101,102,105,110,101,100]⟩:ByteArray).size≤16:=(by decide)
   omega
set_option maxRecDepth 100000 in
set_option maxHeartbeats 4000000 in
theorem ditem_3 (neg:Bool) (N:Nat) (hN:N<18446744073709551616) (s:ByteArray) (av:Value) (B b:Nat) (l:List UInt8) (w:World) (h:Wr w B b l) (ht:Tabs w) (hl:l.length≤70368744177664) (hB:B≤w.heap.size) :
 Calls Tryz.prog 100 #[.pointer (some ⟨b,0,none⟩),.agg #[.int .i64 3,.bool neg,.int .u64 N,.string s,av]] w (Piece B b 60 l w):=by
 have R:=Row5.new w (.int .i64 3) (.bool neg) (.int .u64 N) (.string s) av
 have hb1:=(Below.refl w.heap.size w).alloc (Nat.le_refl _) (.cells #[.int .i64 3,.bool neg,.int .u64 N,.string s,av] 25)
 have HF:=Lib.hid (Qbc N hN _ (ht.below hb1).1)
 have HW1:=Lib.hid (h.below hb1)
 have HB1:=Lib.hid hb1
 have HL:=Lib.hid hl
 have HR:=Lib.hid R
 have hc2:=R.c2
 clear h ht hl hb1 R hN
 go_enter Tryz.func100,Tryz.ntmps100
 go_wp2_with (first
  | (go_at_call 138;refine HF.out.mono ?_;rintro ee w2 ⟨tn,he,h1,h2,hb2⟩;subst he;have HT:=Lib.hid (show Asc tn∧tn.size≤20 from ⟨h1,h2⟩);have HW2:=Lib.hid (HW1.out.below hb2);have HB2:=Lib.hid (HB1.out.trans (hb2.mono HB1.out.size));have R2:=HR.out.below hb2;have d0:=R2.c0;clear h1 h2 hb2 R2)
  | (go_at_call 139;refine (Qa8 B b 3 l [⟨#[115,105,109,112,108,101,40]⟩,tn,⟨#[41]⟩] rfl #[.string ⟨#[115,105,109,112,108,101,40]⟩,.string tn,.string ⟨#[41]⟩] rfl w2 HW2.out (by rw [cat3_len];have:=HT.out.2;have:=HL.out;have e0:(⟨#[115,105,109,112,108,101,40]⟩:ByteArray).size≤16:=(by decide);have e1:(⟨#[41]⟩:ByteArray).size≤16:=(by decide);omega) (Nat.le_trans hB HB2.out.size) (by decide)).mono ?_;rintro ee w3 ⟨he,h3,h4⟩;subst he))
 go_end0
 refine ⟨rfl,catL [⟨#[115,105,109,112,108,101,40]⟩,tn,⟨#[41]⟩],?_,?_,?_,h3,(Wrote.of_below HB2.out hB).trans h4⟩
 · exact ((Rt8.lit (by decide)).app (HT.out.1.rt.app ((Rt8.lit (by decide)).app (Qam (by simp [catL])))))
 · rw [cat3_len]
   have e0:1≤(⟨#[115,105,109,112,108,101,40]⟩:ByteArray).size:=by decide
   omega
 · rw [cat3_len]
   have:=HT.out.2
   have e0:(⟨#[115,105,109,112,108,101,40]⟩:ByteArray).size≤16:=(by decide)
   have e1:(⟨#[41]⟩:ByteArray).size≤16:=(by decide)
   omega
theorem Piece.after {B b m:Nat} {l:List UInt8} {w w2 w':World} {e:Ending} (hb:Below w.heap.size w w2) (hB:B≤w.heap.size) (h:Piece B b m l w2 e w'):Piece B b m l w e w':=by
 obtain ⟨h1,l2,h2,h3,h4,h5,h6⟩:=h
 exact ⟨h1,l2,h2,h3,h4,h5,(Wrote.of_below hb hB).trans h6⟩
theorem Piece.split {B b m:Nat} {l:List UInt8} {w w':World} {e:Ending} (h:Piece B b m l w e w'):e=.returned (.tuple #[])∧Hid (Piece B b m l w (.returned (.tuple #[])) w'):=by
 have h1:=h.1
 subst h1
 exact ⟨rfl,h⟩
set_option maxRecDepth 100000 in
set_option maxHeartbeats 4000000 in
theorem ditem_6 (neg:Bool) (N:Nat) (s:ByteArray) (a:Option Addr) (c:Nat) (B b:Nat) (l:List UInt8) (w:World) (h:Wr w B b l) (ht:Tabs w) (hl:l.length≤70368744177664) (hB:B≤w.heap.size) (hu:N<65536) :
 Calls Tryz.prog 100 #[.pointer (some ⟨b,0,none⟩),.agg #[.int .i64 6,.bool neg,.int .u64 N,.string s,.slice a 0 c]] w (Piece B b (2010) l w):=by
 have R:=Row5.new w (.int .i64 6) (.bool neg) (.int .u64 N) (.string s) (.slice a 0 c)
 have hb1:=(Below.refl w.heap.size w).alloc (Nat.le_refl _) (.cells #[.int .i64 6,.bool neg,.int .u64 N,.string s,.slice a 0 c] 25)
 have HF:=Lib.hid (Qbc N (by omega) _ (ht.below hb1).1)
 have HW1:=Lib.hid (h.below hb1)
 have HT1:=Lib.hid (ht.below hb1)
 have HB1:=Lib.hid hb1
 have HL:=Lib.hid hl
 have HR:=Lib.hid R
 have hc2:=R.c2
 have HU:=Lib.hid hu
 clear h ht hl hb1 R hu
 go_enter Tryz.func100,Tryz.ntmps100
 go_wp2_with (first
  | (go_at_call 138;refine HF.out.mono ?_;rintro ee w2 ⟨tn,he,h1,h2,hb2⟩;subst he;have HW2:=Lib.hid (HW1.out.below hb2);have HT2:=Lib.hid (HT1.out.below hb2);have HB2:=Lib.hid (HB1.out.trans (hb2.mono HB1.out.size));have R2:=HR.out.below hb2;have d0:=R2.c0;have d1:=R2.c1;have d2:=R2.c2;have d3:=R2.c3;have d4:=R2.c4;clear h1 h2 hb2 R2)
  | (go_at_call 140;refine (wfloat_6 B b l N HU.out w2 HW2.out HL.out (Nat.le_trans hB HB2.out.size) HT2.out).mono ?_;rintro ee w3 hpp;obtain ⟨he,hpq⟩:=(Piece.after HB2.out hB hpp).split;clear hpp;subst he))
 go_end0
 exact hpq.out
set_option maxRecDepth 100000 in
set_option maxHeartbeats 4000000 in
theorem ditem_7 (neg:Bool) (N:Nat) (s:ByteArray) (a:Option Addr) (c:Nat) (B b:Nat) (l:List UInt8) (w:World) (h:Wr w B b l) (ht:Tabs w) (hl:l.length≤70368744177664) (hB:B≤w.heap.size) (hu:N<4294967296) :
 Calls Tryz.prog 100 #[.pointer (some ⟨b,0,none⟩),.agg #[.int .i64 7,.bool neg,.int .u64 N,.string s,.slice a 0 c]] w (Piece B b (2010) l w):=by
 have R:=Row5.new w (.int .i64 7) (.bool neg) (.int .u64 N) (.string s) (.slice a 0 c)
 have hb1:=(Below.refl w.heap.size w).alloc (Nat.le_refl _) (.cells #[.int .i64 7,.bool neg,.int .u64 N,.string s,.slice a 0 c] 25)
 have HF:=Lib.hid (Qbc N (by omega) _ (ht.below hb1).1)
 have HW1:=Lib.hid (h.below hb1)
 have HT1:=Lib.hid (ht.below hb1)
 have HB1:=Lib.hid hb1
 have HL:=Lib.hid hl
 have HR:=Lib.hid R
 have hc2:=R.c2
 have HU:=Lib.hid hu
 clear h ht hl hb1 R hu
 go_enter Tryz.func100,Tryz.ntmps100
 go_wp2_with (first
  | (go_at_call 138;refine HF.out.mono ?_;rintro ee w2 ⟨tn,he,h1,h2,hb2⟩;subst he;have HW2:=Lib.hid (HW1.out.below hb2);have HT2:=Lib.hid (HT1.out.below hb2);have HB2:=Lib.hid (HB1.out.trans (hb2.mono HB1.out.size));have R2:=HR.out.below hb2;have d0:=R2.c0;have d1:=R2.c1;have d2:=R2.c2;have d3:=R2.c3;have d4:=R2.c4;clear h1 h2 hb2 R2)
  | (go_at_call 140;refine (wfloat_7 B b l N HU.out w2 HW2.out HL.out (Nat.le_trans hB HB2.out.size) HT2.out).mono ?_;rintro ee w3 hpp;obtain ⟨he,hpq⟩:=(Piece.after HB2.out hB hpp).split;clear hpp;subst he))
 go_end0
 exact hpq.out
set_option maxRecDepth 100000 in
set_option maxHeartbeats 4000000 in
theorem ditem_8 (neg:Bool) (N:Nat) (s:ByteArray) (a:Option Addr) (c:Nat) (B b:Nat) (l:List UInt8) (w:World) (h:Wr w B b l) (ht:Tabs w) (hl:l.length≤70368744177664) (hB:B≤w.heap.size) (hu:N<18446744073709551616) :
 Calls Tryz.prog 100 #[.pointer (some ⟨b,0,none⟩),.agg #[.int .i64 8,.bool neg,.int .u64 N,.string s,.slice a 0 c]] w (Piece B b (2010) l w):=by
 have R:=Row5.new w (.int .i64 8) (.bool neg) (.int .u64 N) (.string s) (.slice a 0 c)
 have hb1:=(Below.refl w.heap.size w).alloc (Nat.le_refl _) (.cells #[.int .i64 8,.bool neg,.int .u64 N,.string s,.slice a 0 c] 25)
 have HF:=Lib.hid (Qbc N (by omega) _ (ht.below hb1).1)
 have HW1:=Lib.hid (h.below hb1)
 have HT1:=Lib.hid (ht.below hb1)
 have HB1:=Lib.hid hb1
 have HL:=Lib.hid hl
 have HR:=Lib.hid R
 have hc2:=R.c2
 have HU:=Lib.hid hu
 clear h ht hl hb1 R hu
 go_enter Tryz.func100,Tryz.ntmps100
 go_wp2_with (first
  | (go_at_call 138;refine HF.out.mono ?_;rintro ee w2 ⟨tn,he,h1,h2,hb2⟩;subst he;have HW2:=Lib.hid (HW1.out.below hb2);have HT2:=Lib.hid (HT1.out.below hb2);have HB2:=Lib.hid (HB1.out.trans (hb2.mono HB1.out.size));have R2:=HR.out.below hb2;have d0:=R2.c0;have d1:=R2.c1;have d2:=R2.c2;have d3:=R2.c3;have d4:=R2.c4;clear h1 h2 hb2 R2)
  | (go_at_call 140;refine (wfloat_8 B b l N HU.out w2 HW2.out HL.out (Nat.le_trans hB HB2.out.size) HT2.out).mono ?_;rintro ee w3 hpp;obtain ⟨he,hpq⟩:=(Piece.after HB2.out hB hpp).split;clear hpp;subst he))
 go_end0
 exact hpq.out
set_option maxRecDepth 100000 in
set_option maxHeartbeats 4000000 in
theorem ditem_9 (neg:Bool) (N:Nat) (s:ByteArray) (a:Option Addr) (c:Nat) (B b:Nat) (l:List UInt8) (w:World) (h:Wr w B b l) (ht:Tabs w) (hl:l.length≤70368744177664) (hB:B≤w.heap.size) (hN:N<18446744073709551616) (hs:s.size≤1099511627776) :
 Calls Tryz.prog 100 #[.pointer (some ⟨b,0,none⟩),.agg #[.int .i64 9,.bool neg,.int .u64 N,.string s,.slice a 0 c]] w (Piece B b (2*s.size+4) l w):=by
 have R:=Row5.new w (.int .i64 9) (.bool neg) (.int .u64 N) (.string s) (.slice a 0 c)
 have hb1:=(Below.refl w.heap.size w).alloc (Nat.le_refl _) (.cells #[.int .i64 9,.bool neg,.int .u64 N,.string s,.slice a 0 c] 25)
 have HF:=Lib.hid (Qbc N hN _ (ht.below hb1).1)
 have HW1:=Lib.hid (h.below hb1)
 have HT1:=Lib.hid (ht.below hb1)
 have HB1:=Lib.hid hb1
 have HL:=Lib.hid hl
 have HR:=Lib.hid R
 have hc2:=R.c2
 have HS:=Lib.hid hs
 clear h ht hl hb1 R hs hN
 go_enter Tryz.func100,Tryz.ntmps100
 go_wp2_with (first
  | (go_at_call 138;refine HF.out.mono ?_;rintro ee w2 ⟨tn,he,h1,h2,hb2⟩;subst he;have HW2:=Lib.hid (HW1.out.below hb2);have HT2:=Lib.hid (HT1.out.below hb2);have HB2:=Lib.hid (HB1.out.trans (hb2.mono HB1.out.size));have R2:=HR.out.below hb2;have d0:=R2.c0;have d1:=R2.c1;have d2:=R2.c2;have d3:=R2.c3;have d4:=R2.c4;clear h1 h2 hb2 R2)
  | (go_at_call 141;refine (wbytes_any B b l s w2 HW2.out HS.out HL.out (Nat.le_trans hB HB2.out.size)).mono ?_;rintro ee w3 hpp;obtain ⟨he,hpq⟩:=(Piece.after HB2.out hB hpp).split;clear hpp;subst he))
 go_end0
 exact hpq.out
set_option maxRecDepth 100000 in
set_option maxHeartbeats 4000000 in
theorem ditem_10 (neg:Bool) (N:Nat) (s:ByteArray) (a:Option Addr) (c:Nat) (B b:Nat) (l:List UInt8) (w:World) (h:Wr w B b l) (ht:Tabs w) (hl:l.length≤70368744177664) (hB:B≤w.heap.size) (hN:N<18446744073709551616) (hs:s.size≤1099511627776) (hu:Utf s) :
 Calls Tryz.prog 100 #[.pointer (some ⟨b,0,none⟩),.agg #[.int .i64 10,.bool neg,.int .u64 N,.string s,.slice a 0 c]] w (Piece B b (6*s.size+2) l w):=by
 have R:=Row5.new w (.int .i64 10) (.bool neg) (.int .u64 N) (.string s) (.slice a 0 c)
 have hb1:=(Below.refl w.heap.size w).alloc (Nat.le_refl _) (.cells #[.int .i64 10,.bool neg,.int .u64 N,.string s,.slice a 0 c] 25)
 have HF:=Lib.hid (Qbc N hN _ (ht.below hb1).1)
 have HW1:=Lib.hid (h.below hb1)
 have HT1:=Lib.hid (ht.below hb1)
 have HB1:=Lib.hid hb1
 have HL:=Lib.hid hl
 have HR:=Lib.hid R
 have hc2:=R.c2
 have HS:=Lib.hid hs
 have HU:=Lib.hid hu
 clear h ht hl hb1 R hs hN hu
 go_enter Tryz.func100,Tryz.ntmps100
 go_wp2_with (first
  | (go_at_call 138;refine HF.out.mono ?_;rintro ee w2 ⟨tn,he,h1,h2,hb2⟩;subst he;have HW2:=Lib.hid (HW1.out.below hb2);have HT2:=Lib.hid (HT1.out.below hb2);have HB2:=Lib.hid (HB1.out.trans (hb2.mono HB1.out.size));have R2:=HR.out.below hb2;have d0:=R2.c0;have d1:=R2.c1;have d2:=R2.c2;have d3:=R2.c3;have d4:=R2.c4;clear h1 h2 hb2 R2)
  | (go_at_call 142;refine (quote_ok s w2 (by have:=HS.out;omega) HU.out).mono ?_;unfold StrErr;rintro ee w3 ⟨he,hb3⟩;subst he;have HW3:=Lib.hid (HW2.out.below hb3);have HB3:=Lib.hid (HB2.out.trans (hb3.mono HB2.out.size));obtain ⟨tq,htq⟩:∃ tq,quo s=tq:=⟨_,rfl⟩;have HT3:=Lib.hid (show Utf tq∧1≤tq.size∧tq.size≤6*s.size+2 from ⟨htq ▸ quo_utf HU.out,(by rw [← htq];have:=quo_size s;omega),(by rw [← htq];have:=quo_size s;omega)⟩);rw [htq];clear hb3 htq)
  | (go_at_call 139;refine (Qa8 B b 1 l [tq] rfl #[.string tq] rfl w3 HW3.out (by rw [Qat];have:=HT3.out.2.2;have:=HL.out;have:=HS.out;omega) (Nat.le_trans hB HB3.out.size) (by decide)).mono ?_;rintro ee w4 ⟨he,h3,h4⟩;subst he))
 go_end0
 refine ⟨rfl,catL [tq],HT3.out.1.rt.app (Qam (by simp [catL])),?_,?_,h3,(Wrote.of_below HB3.out hB).trans h4⟩
 · rw [Qat];exact HT3.out.2.1
 · rw [Qat];exact HT3.out.2.2
set_option maxRecDepth 100000 in
set_option maxHeartbeats 4000000 in
theorem ditem_4p (N:Nat) (s:ByteArray) (a:Option Addr) (c:Nat) (B b:Nat) (l:List UInt8) (w:World) (h:Wr w B b l) (ht:Tabs w) (hl:l.length≤70368744177664) (hB:B≤w.heap.size) (hN:N<18446744073709551616) (hs:s.size=0) :
 Calls Tryz.prog 100 #[.pointer (some ⟨b,0,none⟩),.agg #[.int .i64 4,.bool false,.int .u64 N,.string s,.slice a 0 c]] w (Piece B b (2000) l w):=by
 have R:=Row5.new w (.int .i64 4) (.bool false) (.int .u64 N) (.string s) (.slice a 0 c)
 have hb1:=(Below.refl w.heap.size w).alloc (Nat.le_refl _) (.cells #[.int .i64 4,.bool false,.int .u64 N,.string s,.slice a 0 c] 25)
 have HF:=Lib.hid (Qbc N hN _ (ht.below hb1).1)
 have HW1:=Lib.hid (h.below hb1)
 have HT1:=Lib.hid (ht.below hb1)
 have HB1:=Lib.hid hb1
 have HL:=Lib.hid hl
 have HR:=Lib.hid R
 have hc2:=R.c2
 have HS:=Lib.hid hs
 have HN:=Lib.hid hN
 clear h ht hl hb1 R hs hN
 go_enter Tryz.func100,Tryz.ntmps100
 go_wp2_with (first
  | (go_at_call 138;refine HF.out.mono ?_;rintro ee w2 ⟨tn,he,h1,h2,hb2⟩;subst he;have HW2:=Lib.hid (HW1.out.below hb2);have HT2:=Lib.hid (HT1.out.below hb2);have HB2:=Lib.hid (HB1.out.trans (hb2.mono HB1.out.size));have R2:=HR.out.below hb2;have d0:=R2.c0;have d1:=R2.c1;have d2:=R2.c2;have d3:=R2.c3;have d4:=R2.c4;clear h1 h2 hb2 R2)
  | (go_at_call 50;refine (numtext_int_p N HN.out s a c w2 HS.out).mono ?_;unfold NtPost;rintro ee w3 ⟨tq,he,h1,h2,h3,hb3⟩;subst he;have HW3:=Lib.hid (HW2.out.below hb3);have HB3:=Lib.hid (HB2.out.trans (hb3.mono HB2.out.size));have HT3:=Lib.hid (show Asc tq∧1≤tq.size∧tq.size≤2000 from ⟨h1,h2,h3⟩);clear h1 h2 h3 hb3)
  | (go_at_call 139;refine (Qa8 B b 1 l [tq] rfl #[.string tq] rfl w3 HW3.out (by rw [Qat];have:=HT3.out.2.2;have:=HL.out;have:=HS.out;omega) (Nat.le_trans hB HB3.out.size) (by decide)).mono ?_;rintro ee w4 ⟨he,h3,h4⟩;subst he))
 go_end0
 refine ⟨rfl,catL [tq],HT3.out.1.rt.app (Qam (by simp [catL])),?_,?_,h3,(Wrote.of_below HB3.out hB).trans h4⟩
 · rw [Qat];exact HT3.out.2.1
 · rw [Qat];exact HT3.out.2.2
set_option maxRecDepth 100000 in
set_option maxHeartbeats 4000000 in
theorem ditem_4n (N:Nat) (s:ByteArray) (a:Option Addr) (c:Nat) (B b:Nat) (l:List UInt8) (w:World) (h:Wr w B b l) (ht:Tabs w) (hl:l.length≤70368744177664) (hB:B≤w.heap.size) (hN:N<18446744073709551616) (hs:s.size=0) :
 Calls Tryz.prog 100 #[.pointer (some ⟨b,0,none⟩),.agg #[.int .i64 4,.bool true,.int .u64 N,.string s,.slice a 0 c]] w (Piece B b (2000) l w):=by
 have R:=Row5.new w (.int .i64 4) (.bool true) (.int .u64 N) (.string s) (.slice a 0 c)
 have hb1:=(Below.refl w.heap.size w).alloc (Nat.le_refl _) (.cells #[.int .i64 4,.bool true,.int .u64 N,.string s,.slice a 0 c] 25)
 have HF:=Lib.hid (Qbc N hN _ (ht.below hb1).1)
 have HW1:=Lib.hid (h.below hb1)
 have HT1:=Lib.hid (ht.below hb1)
 have HB1:=Lib.hid hb1
 have HL:=Lib.hid hl
 have HR:=Lib.hid R
 have hc2:=R.c2
 have HS:=Lib.hid hs
 have HN:=Lib.hid hN
 clear h ht hl hb1 R hs hN
 go_enter Tryz.func100,Tryz.ntmps100
 go_wp2_with (first
  | (go_at_call 138;refine HF.out.mono ?_;rintro ee w2 ⟨tn,he,h1,h2,hb2⟩;subst he;have HW2:=Lib.hid (HW1.out.below hb2);have HT2:=Lib.hid (HT1.out.below hb2);have HB2:=Lib.hid (HB1.out.trans (hb2.mono HB1.out.size));have R2:=HR.out.below hb2;have d0:=R2.c0;have d1:=R2.c1;have d2:=R2.c2;have d3:=R2.c3;have d4:=R2.c4;clear h1 h2 hb2 R2)
  | (go_at_call 50;refine (numtext_int_n N HN.out s a c w2 HS.out).mono ?_;unfold NtPost;rintro ee w3 ⟨tq,he,h1,h2,h3,hb3⟩;subst he;have HW3:=Lib.hid (HW2.out.below hb3);have HB3:=Lib.hid (HB2.out.trans (hb3.mono HB2.out.size));have HT3:=Lib.hid (show Asc tq∧1≤tq.size∧tq.size≤2000 from ⟨h1,h2,h3⟩);clear h1 h2 h3 hb3)
  | (go_at_call 139;refine (Qa8 B b 1 l [tq] rfl #[.string tq] rfl w3 HW3.out (by rw [Qat];have:=HT3.out.2.2;have:=HL.out;have:=HS.out;omega) (Nat.le_trans hB HB3.out.size) (by decide)).mono ?_;rintro ee w4 ⟨he,h3,h4⟩;subst he))
 go_end0
 refine ⟨rfl,catL [tq],HT3.out.1.rt.app (Qam (by simp [catL])),?_,?_,h3,(Wrote.of_below HB3.out hB).trans h4⟩
 · rw [Qat];exact HT3.out.2.1
 · rw [Qat];exact HT3.out.2.2
set_option maxRecDepth 100000 in
set_option maxHeartbeats 4000000 in
theorem ditem_5p (s:ByteArray) (a:Option Addr) (c:Nat) (B b:Nat) (l:List UInt8) (w:World) (h:Wr w B b l) (ht:Tabs w) (hl:l.length≤70368744177664) (hB:B≤w.heap.size) (hs:8<s.size∧s.size≤512∧(strB s).getD 0 0 ≠ 0) :
 Calls Tryz.prog 100 #[.pointer (some ⟨b,0,none⟩),.agg #[.int .i64 5,.bool false,.int .u64 0,.string s,.slice a 0 c]] w (Piece B b (2000) l w):=by
 have R:=Row5.new w (.int .i64 5) (.bool false) (.int .u64 0) (.string s) (.slice a 0 c)
 have hb1:=(Below.refl w.heap.size w).alloc (Nat.le_refl _) (.cells #[.int .i64 5,.bool false,.int .u64 0,.string s,.slice a 0 c] 25)
 have HF:=Lib.hid (Qbc 0 (by omega) _ (ht.below hb1).1)
 have HW1:=Lib.hid (h.below hb1)
 have HT1:=Lib.hid (ht.below hb1)
 have HB1:=Lib.hid hb1
 have HL:=Lib.hid hl
 have HR:=Lib.hid R
 have hc2:=R.c2
 have HS:=Lib.hid hs
 clear h ht hl hb1 R hs
 go_enter Tryz.func100,Tryz.ntmps100
 go_wp2_with (first
  | (go_at_call 138;refine HF.out.mono ?_;rintro ee w2 ⟨tn,he,h1,h2,hb2⟩;subst he;have HW2:=Lib.hid (HW1.out.below hb2);have HT2:=Lib.hid (HT1.out.below hb2);have HB2:=Lib.hid (HB1.out.trans (hb2.mono HB1.out.size));have R2:=HR.out.below hb2;have d0:=R2.c0;have d1:=R2.c1;have d2:=R2.c2;have d3:=R2.c3;have d4:=R2.c4;clear h1 h2 hb2 R2)
  | (go_at_call 50;refine (numtext_big_p s a c w2 HS.out.1 HS.out.2.1 HS.out.2.2).mono ?_;unfold NtPost;rintro ee w3 ⟨tq,he,h1,h2,h3,hb3⟩;subst he;have HW3:=Lib.hid (HW2.out.below hb3);have HB3:=Lib.hid (HB2.out.trans (hb3.mono HB2.out.size));have HT3:=Lib.hid (show Asc tq∧1≤tq.size∧tq.size≤2000 from ⟨h1,h2,h3⟩);clear h1 h2 h3 hb3)
  | (go_at_call 139;refine (Qa8 B b 1 l [tq] rfl #[.string tq] rfl w3 HW3.out (by rw [Qat];have:=HT3.out.2.2;have:=HL.out;have:=HS.out;omega) (Nat.le_trans hB HB3.out.size) (by decide)).mono ?_;rintro ee w4 ⟨he,h3,h4⟩;subst he))
 go_end0
 refine ⟨rfl,catL [tq],HT3.out.1.rt.app (Qam (by simp [catL])),?_,?_,h3,(Wrote.of_below HB3.out hB).trans h4⟩
 · rw [Qat];exact HT3.out.2.1
 · rw [Qat];exact HT3.out.2.2
set_option maxRecDepth 100000 in
set_option maxHeartbeats 4000000 in
theorem ditem_5n (s:ByteArray) (a:Option Addr) (c:Nat) (B b:Nat) (l:List UInt8) (w:World) (h:Wr w B b l) (ht:Tabs w) (hl:l.length≤70368744177664) (hB:B≤w.heap.size) (hs:8<s.size∧s.size≤512∧(strB s).getD 0 0 ≠ 0) :
 Calls Tryz.prog 100 #[.pointer (some ⟨b,0,none⟩),.agg #[.int .i64 5,.bool true,.int .u64 0,.string s,.slice a 0 c]] w (Piece B b (2000) l w):=by
 have R:=Row5.new w (.int .i64 5) (.bool true) (.int .u64 0) (.string s) (.slice a 0 c)
 have hb1:=(Below.refl w.heap.size w).alloc (Nat.le_refl _) (.cells #[.int .i64 5,.bool true,.int .u64 0,.string s,.slice a 0 c] 25)
 have HF:=Lib.hid (Qbc 0 (by omega) _ (ht.below hb1).1)
 have HW1:=Lib.hid (h.below hb1)
 have HT1:=Lib.hid (ht.below hb1)
 have HB1:=Lib.hid hb1
 have HL:=Lib.hid hl
 have HR:=Lib.hid R
 have hc2:=R.c2
 have HS:=Lib.hid hs
 clear h ht hl hb1 R hs
 go_enter Tryz.func100,Tryz.ntmps100
 go_wp2_with (first
  | (go_at_call 138;refine HF.out.mono ?_;rintro ee w2 ⟨tn,he,h1,h2,hb2⟩;subst he;have HW2:=Lib.hid (HW1.out.below hb2);have HT2:=Lib.hid (HT1.out.below hb2);have HB2:=Lib.hid (HB1.out.trans (hb2.mono HB1.out.size));have R2:=HR.out.below hb2;have d0:=R2.c0;have d1:=R2.c1;have d2:=R2.c2;have d3:=R2.c3;have d4:=R2.c4;clear h1 h2 hb2 R2)
  | (go_at_call 50;refine (numtext_big_n s a c w2 HS.out.1 HS.out.2.1 HS.out.2.2).mono ?_;unfold NtPost;rintro ee w3 ⟨tq,he,h1,h2,h3,hb3⟩;subst he;have HW3:=Lib.hid (HW2.out.below hb3);have HB3:=Lib.hid (HB2.out.trans (hb3.mono HB2.out.size));have HT3:=Lib.hid (show Asc tq∧1≤tq.size∧tq.size≤2000 from ⟨h1,h2,h3⟩);clear h1 h2 h3 hb3)
  | (go_at_call 139;refine (Qa8 B b 1 l [tq] rfl #[.string tq] rfl w3 HW3.out (by rw [Qat];have:=HT3.out.2.2;have:=HL.out;have:=HS.out;omega) (Nat.le_trans hB HB3.out.size) (by decide)).mono ?_;rintro ee w4 ⟨he,h3,h4⟩;subst he))
 go_end0
 refine ⟨rfl,catL [tq],HT3.out.1.rt.app (Qam (by simp [catL])),?_,?_,h3,(Wrote.of_below HB3.out hB).trans h4⟩
 · rw [Qat];exact HT3.out.2.1
 · rw [Qat];exact HT3.out.2.2
end Go.Proofs.YtfmceonbejlhlaaGreatDoor
