import Derived.Test.YtfmceonbejlhlaaGreatDoorMWs30
namespace Go.Proofs.YtfmceonbejlhlaaGreatDoor
open Go.RowKit Go.Proofs.YtfmceonbejlhlaaGreatDoorW.PrintWords Go.Proofs.YtfmceonbejlhlaaGreatDoorW.PrintLast Go.Proofs.YtfmceonbejlhlaaGreatDoorW.PrintMore
set_option linter.unusedVariables false
abbrev boolV:Value:=.agg #[.string ⟨#[102,97,108,115,101]⟩,.string ⟨#[116,114,117,101]⟩]
theorem index_b0 (W:World):(Instr.index 243 boolV (.int .u64 0)).run Tryz.prog W=.ok (.string ⟨#[102,97,108,115,101]⟩) W:=by kernel_rfl
theorem index_b1 (W:World):(Instr.index 243 boolV (.int .u64 1)).run Tryz.prog W=.ok (.string ⟨#[116,114,117,101]⟩) W:=by kernel_rfl
set_option maxRecDepth 100000 in
set_option maxHeartbeats 1000000 in
theorem ditem_1_0 (neg:Bool) (s:ByteArray) (a:Option Addr) (c:Nat) (B b:Nat) (l:List UInt8) (w:World) (h:Wr w B b l) (ht:Tabs w) (hl:l.length≤70368744177664) (hB:B≤w.heap.size) :
 Calls Tryz.prog 100 #[.pointer (some ⟨b,0,none⟩),.agg #[.int .i64 1,.bool neg,.int .u64 0,.string s,.slice a 0 c]] w (Piece B b (60) l w):=by
 have R:=Row5.new w (.int .i64 1) (.bool neg) (.int .u64 0) (.string s) (.slice a 0 c)
 have hb1:=(Below.refl w.heap.size w).alloc (Nat.le_refl _) (.cells #[.int .i64 1,.bool neg,.int .u64 0,.string s,.slice a 0 c] 25)
 have HF:=Lib.hid (Qbc 0 (by decide) _ (ht.below hb1).1)
 have HW1:=Lib.hid (h.below hb1)
 have HT1:=Lib.hid (ht.below hb1)
 have HB1:=Lib.hid hb1
 have HL:=Lib.hid hl
 have HR:=Lib.hid R
 have hc2:=R.c2
 have hib:=index_b0
 clear h ht hl hb1 R 
 go_enter Tryz.func100,Tryz.ntmps100
 go_wp2_with (first
  | (go_at_call 138;refine HF.out.mono ?_;rintro ee w2 ⟨tn,he,h1,h2,hb2⟩;subst he;have HW2:=Lib.hid (HW1.out.below hb2);have HT2:=Lib.hid (HT1.out.below hb2);have HB2:=Lib.hid (HB1.out.trans (hb2.mono HB1.out.size));have R2:=HR.out.below hb2;have d0:=R2.c0;have d1:=R2.c1;have d2:=R2.c2;have d3:=R2.c3;have d4:=R2.c4;clear h1 h2 hb2 R2)
  | (go_at_call 139;refine (Qa8 B b 1 l [⟨#[102,97,108,115,101]⟩] rfl #[.string ⟨#[102,97,108,115,101]⟩] rfl w2 HW2.out (by rw [Qat];have:=HL.out;have e1:(⟨#[102,97,108,115,101]⟩:ByteArray).size=5:=rfl;omega) (Nat.le_trans hB HB2.out.size) (by decide)).mono ?_;rintro ee w4 ⟨he,h3,h4⟩;subst he))
 go_end0
 refine ⟨rfl,catL [⟨#[102,97,108,115,101]⟩],(Rt8.lit (by decide)).app (Qam (by simp [catL])),?_,?_,h3,(Wrote.of_below HB2.out hB).trans h4⟩
 · rw [Qat];decide
 · rw [Qat];decide
set_option maxRecDepth 100000 in
set_option maxHeartbeats 1000000 in
theorem ditem_1_1 (neg:Bool) (s:ByteArray) (a:Option Addr) (c:Nat) (B b:Nat) (l:List UInt8) (w:World) (h:Wr w B b l) (ht:Tabs w) (hl:l.length≤70368744177664) (hB:B≤w.heap.size) :
 Calls Tryz.prog 100 #[.pointer (some ⟨b,0,none⟩),.agg #[.int .i64 1,.bool neg,.int .u64 1,.string s,.slice a 0 c]] w (Piece B b (60) l w):=by
 have R:=Row5.new w (.int .i64 1) (.bool neg) (.int .u64 1) (.string s) (.slice a 0 c)
 have hb1:=(Below.refl w.heap.size w).alloc (Nat.le_refl _) (.cells #[.int .i64 1,.bool neg,.int .u64 1,.string s,.slice a 0 c] 25)
 have HF:=Lib.hid (Qbc 1 (by decide) _ (ht.below hb1).1)
 have HW1:=Lib.hid (h.below hb1)
 have HT1:=Lib.hid (ht.below hb1)
 have HB1:=Lib.hid hb1
 have HL:=Lib.hid hl
 have HR:=Lib.hid R
 have hc2:=R.c2
 have hib:=index_b1
 clear h ht hl hb1 R 
 go_enter Tryz.func100,Tryz.ntmps100
 go_wp2_with (first
  | (go_at_call 138;refine HF.out.mono ?_;rintro ee w2 ⟨tn,he,h1,h2,hb2⟩;subst he;have HW2:=Lib.hid (HW1.out.below hb2);have HT2:=Lib.hid (HT1.out.below hb2);have HB2:=Lib.hid (HB1.out.trans (hb2.mono HB1.out.size));have R2:=HR.out.below hb2;have d0:=R2.c0;have d1:=R2.c1;have d2:=R2.c2;have d3:=R2.c3;have d4:=R2.c4;clear h1 h2 hb2 R2)
  | (go_at_call 139;refine (Qa8 B b 1 l [⟨#[116,114,117,101]⟩] rfl #[.string ⟨#[116,114,117,101]⟩] rfl w2 HW2.out (by rw [Qat];have:=HL.out;have e1:(⟨#[116,114,117,101]⟩:ByteArray).size=4:=rfl;omega) (Nat.le_trans hB HB2.out.size) (by decide)).mono ?_;rintro ee w4 ⟨he,h3,h4⟩;subst he))
 go_end0
 refine ⟨rfl,catL [⟨#[116,114,117,101]⟩],(Rt8.lit (by decide)).app (Qam (by simp [catL])),?_,?_,h3,(Wrote.of_below HB2.out hB).trans h4⟩
 · rw [Qat];decide
 · rw [Qat];decide
set_option maxRecDepth 100000 in
set_option maxHeartbeats 1000000 in
theorem ditem_14 (neg:Bool) (N:Nat) (s:ByteArray) (a:Option Addr) (c:Nat) (B b:Nat) (l:List UInt8) (w:World) (h:Wr w B b l) (ht:Tabs w) (hl:l.length≤70368744000000) (hB:B≤w.heap.size) (hN:N<18446744073709551616) (hs:s.size≤1099511627776) :
 Calls Tryz.prog 100 #[.pointer (some ⟨b,0,none⟩),.agg #[.int .i64 14,.bool neg,.int .u64 N,.string s,.slice a 0 c]] w (Piece B b (2*s.size+60) l w):=by
 have R:=Row5.new w (.int .i64 14) (.bool neg) (.int .u64 N) (.string s) (.slice a 0 c)
 have hb1:=(Below.refl w.heap.size w).alloc (Nat.le_refl _) (.cells #[.int .i64 14,.bool neg,.int .u64 N,.string s,.slice a 0 c] 25)
 have HF:=Lib.hid (Qbc N hN _ (ht.below hb1).1)
 have HW1:=Lib.hid (h.below hb1)
 have HT1:=Lib.hid (ht.below hb1)
 have HB1:=Lib.hid hb1
 have HL:=Lib.hid hl
 have HR:=Lib.hid R
 have hc2:=R.c2
 have HS:=Lib.hid hs
 have HH:=Lib.hid h
 clear h ht hl hb1 R hs hN
 go_enter Tryz.func100,Tryz.ntmps100
 go_upto_region 29 with (first
  | (go_at_call 138;refine HF.out.mono ?_;rintro ee w2 ⟨tn,he,h1,h2,hb2⟩;subst he;have HTN:=Lib.hid (show Asc tn∧tn.size≤20 from ⟨h1,h2⟩);have HW2:=Lib.hid (HW1.out.below hb2);have HT2:=Lib.hid (HT1.out.below hb2);have HB2:=Lib.hid (HB1.out.trans (hb2.mono HB1.out.size));have R2:=HR.out.below hb2;have d0:=R2.c0;have d1:=R2.c1;have d2:=R2.c2;have d3:=R2.c3;have d4:=R2.c4;have HR2:=Lib.hid R2;clear h1 h2 hb2 R2)
  | (go_at_call 139;refine (Qa8 B b 3 l [⟨#[101,120,116,40]⟩,tn,⟨#[44,32]⟩] rfl #[.string ⟨#[101,120,116,40]⟩,.string tn,.string ⟨#[44,32]⟩] rfl w2 HW2.out (by rw [cat3_len];have:=HTN.out.2;have:=HL.out;have e1:(⟨#[101,120,116,40]⟩:ByteArray).size=4:=rfl;have e2:(⟨#[44,32]⟩:ByteArray).size=2:=rfl;omega) (Nat.le_trans hB HB2.out.size) (by decide)).mono ?_;rintro ee w3 ⟨he,h3,h4⟩;subst he;obtain ⟨l1,hl1⟩:∃ l1,l ++ catL [⟨#[101,120,116,40]⟩,tn,⟨#[44,32]⟩]=l1:=⟨_,rfl⟩;rw [hl1] at h3;have HN1:=Lib.hid (show l1.length≤70368744100000 from (by rw [← hl1,List.length_append,cat3_len];have:=HTN.out.2;have:=HL.out;have e1:(⟨#[101,120,116,40]⟩:ByteArray).size=4:=rfl;have e2:(⟨#[44,32]⟩:ByteArray).size=2:=rfl;omega));have HE1:=Lib.hid hl1;clear hl1;have HW3:=Lib.hid h3;have HV3:=Lib.hid ((Wrote.of_below HB2.out hB).trans h4);have R3:=(h4.cell HR2.out (by decide) (by have:=HH.out.lt;omega));have d3:=Row5.c3 R3;clear h3 h4 R3)
  | (go_at_call 141;refine (wbytes_any B b l1 s w3 HW3.out HS.out (by have:=HN1.out;omega) (Nat.le_trans hB HV3.out.size)).mono ?_;rintro ee w4 ⟨he,l2,h5,h6,h7,h8,h9⟩;subst he;have HP2:=Lib.hid (show Rt8 l2∧1≤l2.length∧l2.length≤2*s.size+4∧Wr w4 B b (l1 ++ l2)∧Wrote B b w w4 from ⟨h5,h6,h7,h8,HV3.out.trans h9⟩);clear h5 h6 h7 h8 h9))
 go_wp2_with (first
  | (go_at_call 139;refine (Qa8 B b 1 (l1 ++ l2) [⟨#[41]⟩] rfl #[.string ⟨#[41]⟩] rfl w4 HP2.out.2.2.2.1 (by rw [List.length_append,Qat];have:=HN1.out;have:=HP2.out.2.2.1;have:=HS.out;have e3:(⟨#[41]⟩:ByteArray).size=1:=rfl;omega) (Nat.le_trans hB HP2.out.2.2.2.2.size) (by decide)).mono ?_;rintro ee w5 ⟨he,h3,h4⟩;subst he))
 go_end0
 refine ⟨rfl,catL [⟨#[101,120,116,40]⟩,tn,⟨#[44,32]⟩] ++ (l2 ++ catL [⟨#[41]⟩]),?_,?_,?_,(by rw [← List.append_assoc,← List.append_assoc,HE1.out];exact h3),HP2.out.2.2.2.2.trans h4⟩
 · exact (Rt8.app (Rt8.lit (by decide)) (Rt8.app HTN.out.1.rt (Rt8.app (Rt8.lit (by decide)) (Qam (by simp [catL]))))).app (HP2.out.1.app ((Rt8.lit (by decide)).app (Qam (by simp [catL]))))
 · rw [List.length_append,cat3_len]
   have e1:(⟨#[101,120,116,40]⟩:ByteArray).size=4:=rfl
   omega
 · rw [List.length_append,List.length_append,cat3_len,Qat]
   have:=HTN.out.2
   have:=HP2.out.2.2.1
   have e1:(⟨#[101,120,116,40]⟩:ByteArray).size=4:=rfl
   have e2:(⟨#[44,32]⟩:ByteArray).size=2:=rfl
   have e3:(⟨#[41]⟩:ByteArray).size=1:=rfl
   omega
def TabsIn (B:Nat) (w:World):Prop:=∃ w0,Tabs w0∧w0.heap.size≤B∧Below w0.heap.size w0 w
theorem TabsIn.tabs {B:Nat} {w:World} (h:TabsIn B w):Tabs w:=by
 obtain ⟨w0,h1,_,h3⟩:=h
 exact h1.below h3
theorem TabsIn.to {B:Nat} {w w':World} (h:TabsIn B w) (hb:Below B w w'):TabsIn B w':=by
 obtain ⟨w0,h1,h2,h3⟩:=h
 exact ⟨w0,h1,h2,h3.trans (hb.mono h2)⟩
theorem TabsIn.new {w:World} (h:Tabs w):TabsIn w.heap.size w:=⟨w,h,Nat.le_refl _,Below.refl _ _⟩
def ItemOk (B b:Nat) (x:T):Prop:=∀ (a:Option Addr) (c:Nat) (l:List UInt8) (w:World),Wr w B b l→TabsIn B w→Tree w (·<B) x a→x.f4.length≤c→l.length+(2048*bulk x - 2)≤70368744000000→B≤w.heap.size →
 Calls Tryz.prog 100 #[.pointer (some ⟨b,0,none⟩),.agg #[.int .i64 x.f0,.bool x.f1,.int .u64 x.f2,.string x.f3,.slice a x.f4.length c]] w (Piece B b (2048*bulk x - 2) l w)
theorem bulkL_grow {l:List T} {i:Nat} {x:T} (h:l[i]? = some x):bulkL (l.take (i+1))=bulkL (l.take i)+bulk x:=by
 rw [List.take_add_one,h,Option.toList_some]
 have app:∀ a b:List T,bulkL (a ++ b)=bulkL a+bulkL b:=by
  intro a b
  induction a with
  | nil=>simp [bulkL]
  | cons x a ih=>simp only [List.cons_append,bulkL,ih];omega
 rw [app]
 simp [bulkL]
theorem bulkL_part:∀ (l:List T) (i:Nat),bulkL (l.take i)≤bulkL l
 | [],i=>by simp [bulkL]
 | x :: r,0=>by simp [bulkL]
 | x :: r,i+1=>by have:=bulkL_part r i;simp only [List.take_succ_cons,bulkL];omega
theorem bulk_one (t:T):1≤bulk t:=by obtain ⟨_,_,_,_,_⟩:=t;simp [bulk]
def AllAt (B b m:Nat) (l:List UInt8) (w W:World):Prop:=∃ l2:List UInt8,Rt8 l2∧1≤l2.length∧l2.length≤m∧Wr W B b (l ++ l2)∧Wrote B b w W
set_option maxRecDepth 100000 in
set_option maxHeartbeats 4000000 in
theorem all_put (B b:Nat) (be en:ByteArray) (k:Int) (neg:Bool) (n:Int) (s:ByteArray) (ll:List T) (a:Option Addr) (c:Nat) (l:List UInt8) (w:World) (hit:∀ x ∈ ll,ItemOk B b x) (h:Wr w B b l) (ht:TabsIn B w) (hT:ll=[] ∨ ∃ g off,a=some ⟨g,off,none⟩∧g<B∧TreeL w (·<B) ll g off) (hlm:ll.length≤4294967296) (hbe:Rt8 be.data.toList) (hen:Rt8 en.data.toList) (hb1:1≤be.size)
 (hl:l.length+(be.size+en.size+2048*bulkL ll)≤70368744000000) (hB:B≤w.heap.size) :
 Calls Tryz.prog 143 #[.pointer (some ⟨b,0,none⟩),.string be,.string en,.agg #[.int .i64 k,.bool neg,.int .u64 n,.string s,.slice a ll.length c]] w (Piece B b (be.size+en.size+2048*bulkL ll) l w):=by
 have R:=Row5.new w (.int .i64 k) (.bool neg) (.int .u64 n) (.string s) (.slice a ll.length c)
 have hbw:=(Below.refl w.heap.size w).alloc (Nat.le_refl _) (.cells #[.int .i64 k,.bool neg,.int .u64 n,.string s,.slice a ll.length c] 25)
 have HW:=Lib.hid h
 have HT:=Lib.hid ht
 have HTL:=Lib.hid hT
 have HIT:=Lib.hid hit
 have HBE:=Lib.hid hbe
 have HEN:=Lib.hid hen
 have HL:=Lib.hid hl
 have hgb:w.heap.size ≠ b:=by have:=h.lt;omega
 obtain ⟨w1,hw1⟩:∃ w1,w.alloc (.cells #[.int .i64 k,.bool neg,.int .u64 n,.string s,.slice a ll.length c] 25)=w1:=⟨_,rfl⟩
 rw [hw1] at R hbw
 have HW1:=Lib.hid (h.below hbw)
 have HV1:=Lib.hid (show Wrote B b w w1 from Wrote.of_below hbw hB)
 have HR:=Lib.hid R
 have HB:=Lib.hid (Nat.le_trans hB hbw.size)
 clear h ht hT hit hbe hen hl hB hbw
 go_enter Tryz.func143,Tryz.ntmps143
 have hc4:=R.c4
 go_upto_region 14 with (first
  | (go_at_call 139;refine (Qa8 B b 1 l [be] rfl #[.string be] rfl w1 HW1.out (by rw [Qat];have:=HL.out;omega) HB.out (by decide)).mono ?_;rintro ee w2 ⟨he,h3,h4⟩;subst he;have HA:=Lib.hid (show AllAt B b (be.size+2048*bulkL (ll.take 0)) l w1 w2 from ⟨catL [be],HBE.out.app (Qam (by simp [catL])),by rw [Qat];omega,by rw [Qat];omega,h3,h4⟩);have d4:=Row5.c4 (show Row5 w2 w.heap.size _ _ _ _ _ from h4.cell HR.out (by decide) hgb);clear h3 h4))
 go_wp2
 go_loopw [17] (fun i wr=>∃ j:Nat,j≤ll.length∧i=.int .i64 j∧Hid (AllAt B b (be.size+2048*bulkL (ll.take j)) l w1 wr)) (fun i _=>ll.length - (intOf i).toNat)
 case atStart=>exact ⟨0,by omega,rfl,HA⟩
 case round =>
  clear HA d4
  obtain ⟨j,hj,rfl,HJ⟩:=hrel
  rename World=>W
  by_cases hlt:j<ll.length
  · obtain ⟨l2,q1,q2,q3,q4,q5⟩:=HJ.out
    have RW:Row5 W w.heap.size _ _ _ _ _:=q5.cell HR.out (by decide) hgb
    rcases HTL.out with e | ⟨g,off,e,hg,hTL⟩
    · rw [e] at hlt;simp at hlt
    subst e
    obtain ⟨x,xa,xc,hx,e0,e1,e2,e3,e4,hxc,hxT⟩:=Qbm hTL hlt
    have hBW:Below B w W:=HV1.out.1.trans q5.1
    have K0:=(hBW.cell (p:=⟨g,off+j*5,none⟩) hg).trans e0
    have K1:=(hBW.cell (p:=⟨g,off+j*5+1,none⟩) hg).trans e1
    have K2:=(hBW.cell (p:=⟨g,off+j*5+2,none⟩) hg).trans e2
    have K3:=(hBW.cell (p:=⟨g,off+j*5+3,none⟩) hg).trans e3
    have K4:=(hBW.cell (p:=⟨g,off+j*5+4,none⟩) hg).trans e4
    have hxm:=List.mem_of_getElem? hx
    have R0:=RW.alloc (.cells #[.int .i64 x.f0,.bool x.f1,.int .u64 x.f2,.string x.f3,.slice xa x.f4.length xc] 25)
    have RX:=Row5.new W (.int .i64 x.f0) (.bool x.f1) (.int .u64 x.f2) (.string x.f3) (.slice xa x.f4.length xc)
    have hbX:=(Below.refl W.heap.size W).alloc (Nat.le_refl _) (.cells #[.int .i64 x.f0,.bool x.f1,.int .u64 x.f2,.string x.f3,.slice xa x.f4.length xc] 25)
    have hBq:B≤W.heap.size:=Nat.le_trans HB.out q5.size
    have hxb:W.heap.size ≠ b:=by have:=q4.lt;omega
    obtain ⟨W1,hW1⟩:∃ W1,W.alloc (.cells #[.int .i64 x.f0,.bool x.f1,.int .u64 x.f2,.string x.f3,.slice xa x.f4.length xc] 25)=W1:=⟨_,rfl⟩
    rw [hW1] at R0 RX hbX
    have k0:=R0.c0
    have x0:=RX.c0
    have x1:=RX.c1
    have x2:=RX.c2
    have x3:=RX.c3
    have x4:=RX.c4
    have HTI:=Lib.hid (fun (l3:List UInt8) (W2:World) (h1:Wr W2 B b l3) (h2:Wrote B b W1 W2) (h3:l3.length+(2048*bulk x - 2)≤70368744000000) =>
     HIT.out x hxm xa xc l3 W2 h1 (HT.out.to ((hBW.trans (hbX.mono hBq)).trans h2.1)) (Qaq (fun _ h=>h) (fun g hg=>((hBW.trans (hbX.mono hBq)).trans h2.1).block g hg) hxT) hxc h3 (Nat.le_trans (Nat.le_trans hBq hbX.size) h2.size))
    have HX:=Lib.hid (show bulkL (ll.take (j+1))=bulkL (ll.take j)+bulk x∧bulkL (ll.take (j+1))≤bulkL ll∧1≤bulk x from ⟨bulkL_grow hx,bulkL_part ll (j+1),bulk_one x⟩)
    have HRX:=Lib.hid RX
    have HQ:=Lib.hid (show Rt8 l2∧1≤l2.length∧l2.length≤be.size+2048*bulkL (ll.take j)∧Wr W1 B b (l ++ l2)∧Wrote B b w1 W1 from ⟨q1,q2,q3,q4.below hbX,q5.trans (Wrote.of_below hbX hBq)⟩)
    have HBW1:=Lib.hid (Nat.le_trans hBq hbX.size)
    have HBE2:=Lib.hid (show (⟨#[58,32]⟩:ByteArray).size=2∧(⟨#[44,32]⟩:ByteArray).size=2 from ⟨rfl,rfl⟩)
    have wj:IntKind.i64.wrap ((j:Int)+1)=((j+1:Nat):Int):=by rw [IntKind.wrap_i64];omega
    clear q1 q2 q3 q4 q5 RW e0 e1 e2 e3 e4 hTL hxT hBW hx R0 RX hbX hBq hxm HTL HJ HIT hg
    by_cases hA:k=12∧j % 2=1
    · obtain ⟨hk,hj2⟩:=hA
      subst hk
      have g1:((j:Int).tmod 2 == 1)=true:=by rw [Int.tmod_eq_emod_of_nonneg (by omega)];simp;omega
      go_wp2_with (first
       | (go_at_call 139;refine (Qa8 B b 1 (l ++ l2) [⟨#[58,32]⟩] rfl #[.string ⟨#[58,32]⟩] rfl W1 HQ.out.2.2.2.1 (by rw [Qat,List.length_append];have:=HL.out;have:=HQ.out.2.2.1;have:=HX.out;have:=HBE2.out;omega) HBW1.out (by decide)).mono ?_;rintro ee W3 ⟨he,h3,h4⟩;subst he;have HP3:=Lib.hid (show Wr W3 B b _∧Wrote B b W1 W3 from ⟨h3,h4⟩);have RX3:=(show Row5 W3 W.heap.size _ _ _ _ _ from h4.cell HRX.out (by decide) hxb);have x0:=RX3.c0;have x1:=RX3.c1;have x2:=RX3.c2;have x3:=RX3.c3;have x4:=RX3.c4;clear h3 h4 RX3)
       | (go_at_call 100;refine (HTI.out _ W3 HP3.out.1 HP3.out.2 (by rw [List.length_append,Qat,List.length_append];have:=HL.out;have:=HQ.out.2.2.1;have:=HX.out;have:=HBE2.out;omega)).mono ?_;rintro ee W4 ⟨he,l3,p1,p2,p3,p4,p5⟩;subst he;have HP4:=Lib.hid (show Rt8 l3∧1≤l3.length∧l3.length≤2048*bulk x - 2∧Wr W4 B b _∧Wrote B b W1 W4 from ⟨p1,p2,p3,p4,HP3.out.2.trans p5⟩);clear p1 p2 p3 p4 p5))
      go_roundw
      case rel=>exact ⟨j+1,by omega,rfl,Lib.hid ⟨l2 ++ (catL [⟨#[58,32]⟩] ++ l3),HQ.out.1.app (((Rt8.lit (by decide)).app (Qam (by simp [catL]))).app HP4.out.1),by rw [List.length_append];have:=HQ.out.2.1;omega,by rw [List.length_append,List.length_append,Qat];have:=HQ.out.2.2.1;have:=HP4.out.2.2.1;have:=HX.out;have:=HBE2.out;omega,by have:=HP4.out.2.2.2.1;rw [List.append_assoc,List.append_assoc] at this;exact this,HQ.out.2.2.2.2.trans HP4.out.2.2.2.2⟩⟩
      case measure=>simp [intOf];omega
    · by_cases hj0:0<j
      · have g2:decide ((0:Int)<(j:Int))=true:=by simp;omega
        by_cases hk:k=12
        · subst hk
          have g1:((j:Int).tmod 2 == 1)=false:=by rw [Int.tmod_eq_emod_of_nonneg (by omega)];simp;omega
          go_wp2_with (first
           | (go_at_call 139;refine (Qa8 B b 1 (l ++ l2) [⟨#[44,32]⟩] rfl #[.string ⟨#[44,32]⟩] rfl W1 HQ.out.2.2.2.1 (by rw [Qat,List.length_append];have:=HL.out;have:=HQ.out.2.2.1;have:=HX.out;have:=HBE2.out;omega) HBW1.out (by decide)).mono ?_;rintro ee W3 ⟨he,h3,h4⟩;subst he;have HP3:=Lib.hid (show Wr W3 B b _∧Wrote B b W1 W3 from ⟨h3,h4⟩);have RX3:=(show Row5 W3 W.heap.size _ _ _ _ _ from h4.cell HRX.out (by decide) hxb);have x0:=RX3.c0;have x1:=RX3.c1;have x2:=RX3.c2;have x3:=RX3.c3;have x4:=RX3.c4;clear h3 h4 RX3)
           | (go_at_call 100;refine (HTI.out _ W3 HP3.out.1 HP3.out.2 (by rw [List.length_append,Qat,List.length_append];have:=HL.out;have:=HQ.out.2.2.1;have:=HX.out;have:=HBE2.out;omega)).mono ?_;rintro ee W4 ⟨he,l3,p1,p2,p3,p4,p5⟩;subst he;have HP4:=Lib.hid (show Rt8 l3∧1≤l3.length∧l3.length≤2048*bulk x - 2∧Wr W4 B b _∧Wrote B b W1 W4 from ⟨p1,p2,p3,p4,HP3.out.2.trans p5⟩);clear p1 p2 p3 p4 p5))
          go_roundw
          case rel=>exact ⟨j+1,by omega,rfl,Lib.hid ⟨l2 ++ (catL [⟨#[44,32]⟩] ++ l3),HQ.out.1.app (((Rt8.lit (by decide)).app (Qam (by simp [catL]))).app HP4.out.1),by rw [List.length_append];have:=HQ.out.2.1;omega,by rw [List.length_append,List.length_append,Qat];have:=HQ.out.2.2.1;have:=HP4.out.2.2.1;have:=HX.out;have:=HBE2.out;omega,by have:=HP4.out.2.2.2.1;rw [List.append_assoc,List.append_assoc] at this;exact this,HQ.out.2.2.2.2.trans HP4.out.2.2.2.2⟩⟩
          case measure=>simp [intOf];omega
        · have g0:(k == 12)=false:=by simpa using hk
          go_wp2_with (first
           | (go_at_call 139;refine (Qa8 B b 1 (l ++ l2) [⟨#[44,32]⟩] rfl #[.string ⟨#[44,32]⟩] rfl W1 HQ.out.2.2.2.1 (by rw [Qat,List.length_append];have:=HL.out;have:=HQ.out.2.2.1;have:=HX.out;have:=HBE2.out;omega) HBW1.out (by decide)).mono ?_;rintro ee W3 ⟨he,h3,h4⟩;subst he;have HP3:=Lib.hid (show Wr W3 B b _∧Wrote B b W1 W3 from ⟨h3,h4⟩);have RX3:=(show Row5 W3 W.heap.size _ _ _ _ _ from h4.cell HRX.out (by decide) hxb);have x0:=RX3.c0;have x1:=RX3.c1;have x2:=RX3.c2;have x3:=RX3.c3;have x4:=RX3.c4;clear h3 h4 RX3)
           | (go_at_call 100;refine (HTI.out _ W3 HP3.out.1 HP3.out.2 (by rw [List.length_append,Qat,List.length_append];have:=HL.out;have:=HQ.out.2.2.1;have:=HX.out;have:=HBE2.out;omega)).mono ?_;rintro ee W4 ⟨he,l3,p1,p2,p3,p4,p5⟩;subst he;have HP4:=Lib.hid (show Rt8 l3∧1≤l3.length∧l3.length≤2048*bulk x - 2∧Wr W4 B b _∧Wrote B b W1 W4 from ⟨p1,p2,p3,p4,HP3.out.2.trans p5⟩);clear p1 p2 p3 p4 p5))
          go_roundw
          case rel=>exact ⟨j+1,by omega,rfl,Lib.hid ⟨l2 ++ (catL [⟨#[44,32]⟩] ++ l3),HQ.out.1.app (((Rt8.lit (by decide)).app (Qam (by simp [catL]))).app HP4.out.1),by rw [List.length_append];have:=HQ.out.2.1;omega,by rw [List.length_append,List.length_append,Qat];have:=HQ.out.2.2.1;have:=HP4.out.2.2.1;have:=HX.out;have:=HBE2.out;omega,by have:=HP4.out.2.2.2.1;rw [List.append_assoc,List.append_assoc] at this;exact this,HQ.out.2.2.2.2.trans HP4.out.2.2.2.2⟩⟩
          case measure=>simp [intOf];omega
      · obtain rfl:j=0:=by omega
        simp only [Nat.zero_mul,Nat.add_zero] at K0 K1 K2 K3 K4
        by_cases hk:k=12
        · subst hk
          go_wp2_with (go_at_call 100;refine (HTI.out _ W1 HQ.out.2.2.2.1 (Wrote.refl _ _ _) (by rw [List.length_append];have:=HL.out;have:=HQ.out.2.2.1;have:=HX.out;omega)).mono ?_;rintro ee W4 ⟨he,l3,p1,p2,p3,p4,p5⟩;subst he;have HP4:=Lib.hid (show Rt8 l3∧1≤l3.length∧l3.length≤2048*bulk x - 2∧Wr W4 B b _∧Wrote B b W1 W4 from ⟨p1,p2,p3,p4,p5⟩);clear p1 p2 p3 p4 p5)
          go_roundw
          case rel=>exact ⟨0+1,by omega,rfl,Lib.hid ⟨l2 ++ l3,HQ.out.1.app HP4.out.1,by rw [List.length_append];have:=HQ.out.2.1;omega,by rw [List.length_append];have:=HQ.out.2.2.1;have:=HP4.out.2.2.1;have:=HX.out;omega,by have:=HP4.out.2.2.2.1;rw [List.append_assoc] at this;exact this,HQ.out.2.2.2.2.trans HP4.out.2.2.2.2⟩⟩
          case measure=>simp [intOf];omega
        · have g0:(k == 12)=false:=by simpa using hk
          go_wp2_with (go_at_call 100;refine (HTI.out _ W1 HQ.out.2.2.2.1 (Wrote.refl _ _ _) (by rw [List.length_append];have:=HL.out;have:=HQ.out.2.2.1;have:=HX.out;omega)).mono ?_;rintro ee W4 ⟨he,l3,p1,p2,p3,p4,p5⟩;subst he;have HP4:=Lib.hid (show Rt8 l3∧1≤l3.length∧l3.length≤2048*bulk x - 2∧Wr W4 B b _∧Wrote B b W1 W4 from ⟨p1,p2,p3,p4,p5⟩);clear p1 p2 p3 p4 p5)
          go_roundw
          case rel=>exact ⟨0+1,by omega,rfl,Lib.hid ⟨l2 ++ l3,HQ.out.1.app HP4.out.1,by rw [List.length_append];have:=HQ.out.2.1;omega,by rw [List.length_append];have:=HQ.out.2.2.1;have:=HP4.out.2.2.1;have:=HX.out;omega,by have:=HP4.out.2.2.2.1;rw [List.append_assoc] at this;exact this,HQ.out.2.2.2.2.trans HP4.out.2.2.2.2⟩⟩
          case measure=>simp [intOf];omega
  · obtain rfl:j=ll.length:=by omega
    have hlt2:¬ ((ll.length:Int)<(ll.length:Int)):=by omega
    obtain ⟨l2,q1,q2,q3,q4,q5⟩:=HJ.out
    have HQ:=Lib.hid (show Rt8 l2∧1≤l2.length∧l2.length≤be.size+2048*bulkL ll∧Wr W B b (l ++ l2)∧Wrote B b w1 W from ⟨q1,q2,by rw [List.take_length] at q3;exact q3,q4,q5⟩)
    have HBW:=Lib.hid (Nat.le_trans HB.out q5.size)
    clear q1 q2 q3 q4 q5 HJ
    go_wp2_with (go_at_call 139;refine (Qa8 B b 1 (l ++ l2) [en] rfl #[.string en] rfl W HQ.out.2.2.2.1 (by rw [Qat,List.length_append];have:=HL.out;have:=HQ.out.2.2.1;omega) HBW.out (by decide)).mono ?_;rintro ee W3 ⟨he,h3,h4⟩;subst he)
    go_end0
    refine ⟨rfl,l2 ++ catL [en],HQ.out.1.app (HEN.out.app (Qam (by simp [catL]))),by rw [List.length_append];have:=HQ.out.2.1;omega,by rw [List.length_append,Qat];have:=HQ.out.2.2.1;omega,by rw [← List.append_assoc];exact h3,HV1.out.trans (HQ.out.2.2.2.2.trans h4)⟩
end Go.Proofs.YtfmceonbejlhlaaGreatDoor
