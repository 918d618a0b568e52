import Derived.Deep.RegionHeld3
import Derived.BigQuiet
import Derived.Test.YtfmceonbejlhlaaGreatDoorMWs7
import Derived.Test.YtfmceonbejlhlaaGreatDoorMWs21
import Derived.Test.YtfmceonbejlhlaaGreatDoorMWs35
import Derived.Test.YtfmceonbejlhlaaGreatDoorMWs38
import Derived.Test.YtfmceonbejlhlaaGreatDoorMWs40
namespace Go.Proofs.YtfmceonbejlhlaaGreatDoor
open Go.RowKit Go.Proofs.YtfmceonbejlhlaaGreatDoorW.PrintWords Go.Proofs.YtfmceonbejlhlaaGreatDoorW.PrintLast Go.Proofs.YtfmceonbejlhlaaGreatDoorW.PrintMore
set_option linter.unusedVariables false
attribute [local go_sem] run_store_func
def ProjPost (f:Int) (t:T) (W:World) (e:Ending) (W':World):Prop:=∃ (u:T) (a ao:Option Addr) (c m cap:Nat),e=.returned (.tuple #[.agg #[.int .i64 u.f0,.bool u.f1,.int .u64 u.f2,.string u.f3,.slice a u.f4.length c],.slice ao m cap,.int .i64 0])∧u.f4.length≤c∧Tree W' (·<W'.heap.size) u a∧BecOk f t u m∧Below W.heap.size W W'
theorem lost_slice {W:World} {pl n:Nat} (h:Qa7 W pl n):∃ ao cap,Boxed W pl 41 (.slice ao n cap):=by
 obtain ⟨v,xs,h1,h2⟩:=h
 rcases h2.2 with ⟨e,e2⟩ | ⟨g,cap,cur,e,_⟩
 · subst e;subst e2;exact ⟨none,0,h1⟩
 · subst e;exact ⟨_,cap,h1⟩
set_option maxRecDepth 100000 in
set_option maxHeartbeats 8000000 in
theorem project_not (f:Int) (hf:f=0 ∨ f=1 ∨ f=2) (t:T) (a:Option Addr) (c:Nat) (W:World) (P:Nat→Prop) (hP:∀ g,P g→g<W.heap.size) (hT:Tree W P t a) (hc:t.f4.length≤c) (hb:bulk t≤8796093022208) (hck:Qaz t ≠ 0) :
 Calls Tryz.prog 11 #[.int .i64 f,.agg #[.int .i64 t.f0,.bool t.f1,.int .u64 t.f2,.string t.f3,.slice a t.f4.length c]] W (Ret (.tuple #[.agg #[.int .i64 0,.bool false,.int .u64 0,.string ⟨#[]⟩,.slice none 0 0],.slice none 0 0,.int .i64 (Qaz t)]) W):=by
 have BF:=((Boxed.new W 3 (.int .i64 f)).alloc (.cells #[.int .i64 t.f0,.bool t.f1,.int .u64 t.f2,.string t.f3,.slice a t.f4.length c] 25)).alloc (.cells #[.int .i64 0,.bool false,.int .u64 0,.string ⟨#[]⟩,.slice none 0 0] 25)
 have BV:=(Row5.new (W.alloc (.cells #[.int .i64 f] 3)) (.int .i64 t.f0) (.bool t.f1) (.int .u64 t.f2) (.string t.f3) (.slice a t.f4.length c)).alloc (.cells #[.int .i64 0,.bool false,.int .u64 0,.string ⟨#[]⟩,.slice none 0 0] 25)
 have BR:=Row5.new ((W.alloc (.cells #[.int .i64 f] 3)).alloc (.cells #[.int .i64 t.f0,.bool t.f1,.int .u64 t.f2,.string t.f3,.slice a t.f4.length c] 25)) (.int .i64 0) (.bool false) (.int .u64 0) (.string ⟨#[]⟩) (.slice none 0 0)
 have hb1:=(((Below.refl W.heap.size W).alloc (Nat.le_refl _) (.cells #[.int .i64 f] 3)).alloc (by simp) (.cells #[.int .i64 t.f0,.bool t.f1,.int .u64 t.f2,.string t.f3,.slice a t.f4.length c] 25)).alloc (by simp;omega) (.cells #[.int .i64 0,.bool false,.int .u64 0,.string ⟨#[]⟩,.slice none 0 0] 25)
 rw [World.size_alloc] at BV
 rw [World.size_alloc,World.size_alloc] at BR
 obtain ⟨W1,hW1⟩:∃ W1,((W.alloc (.cells #[.int .i64 f] 3)).alloc (.cells #[.int .i64 t.f0,.bool t.f1,.int .u64 t.f2,.string t.f3,.slice a t.f4.length c] 25)).alloc (.cells #[.int .i64 0,.bool false,.int .u64 0,.string ⟨#[]⟩,.slice none 0 0] 25)=W1:=⟨_,rfl⟩
 rw [hW1] at BF BV BR hb1
 have HM:=Lib.hid (may_any f hf t a c W1 P (fun g hg=>Nat.lt_of_lt_of_le (hP g hg) hb1.size) (Qaq (fun _ h=>h) (fun g hg=>hb1.block g (hP g hg)) hT) hc hb)
 generalize Qaz t=r at HM hck ⊢
 have br:(r != 0)=true:=by simpa using hck
 have f1:=BF.cell
 have v0:=BV.c0
 have v1:=BV.c1
 have v2:=BV.c2
 have v3:=BV.c3
 have v4:=BV.c4
 have HB:=Lib.hid hb1
 have HR:=Lib.hid BR
 clear BF BV BR hb1 hT hc hb hP hf hck
 go_enter Tryz.func11,Tryz.ntmps11
 go_wp2_with (go_at_call 24;refine HM.out.mono ?_;rintro e w2 ⟨he,hb2⟩;subst he;have R2:=HR.out.below hb2;have z0:=R2.c0;have z1:=R2.c1;have z2:=R2.c2;have z3:=R2.c3;have z4:=R2.c4;have y0:=R2.fz 0;have y1:=R2.fz 1;have y2:=R2.fz 2;have y3:=R2.fz 3;have y4:=R2.fz 4)
 have Z5:=R2.put5 (.int .i64 0) (.bool false) (.int .u64 0) (.string ⟨#[]⟩) (.slice none 0 0)
 have k0:=Z5.c0
 have k1:=Z5.c1
 have k2:=Z5.c2
 have k3:=Z5.c3
 have k4:=Z5.c4
 exact bodyPost_ret (v:=.tuple #[.agg #[.int .i64 0,.bool false,.int .u64 0,.string ⟨#[]⟩,.slice none 0 0],.slice none 0 0,.int .i64 r]) (by simp [results,Tryz.f11,go_sem,k0,k1,k2,k3,k4]) rfl ⟨rfl,Qa2 (HB.out.trans (hb2.mono HB.out.size)) (by omega) _ _ _ _ _⟩
set_option maxRecDepth 100000 in
set_option maxHeartbeats 8000000 in
theorem project_any (f:Int) (hf:f=0 ∨ f=1 ∨ f=2) (t:T) (a:Option Addr) (c:Nat) (W:World) (P:Nat→Prop) (hP:∀ g,P g→g<W.heap.size) (hT:Tree W P t a) (hc:t.f4.length≤c) (hb:bulk t≤8796093022208) (hck:Qaz t=0) (hC:BecC f t) (ht:Tabs W) :
 Calls Tryz.prog 11 #[.int .i64 f,.agg #[.int .i64 t.f0,.bool t.f1,.int .u64 t.f2,.string t.f3,.slice a t.f4.length c]] W (ProjPost f t W):=by
 have BF:=((Boxed.new W 3 (.int .i64 f)).alloc (.cells #[.int .i64 t.f0,.bool t.f1,.int .u64 t.f2,.string t.f3,.slice a t.f4.length c] 25)).alloc (.cells #[.int .i64 0,.bool false,.int .u64 0,.string ⟨#[]⟩,.slice none 0 0] 25)
 have BV:=(Row5.new (W.alloc (.cells #[.int .i64 f] 3)) (.int .i64 t.f0) (.bool t.f1) (.int .u64 t.f2) (.string t.f3) (.slice a t.f4.length c)).alloc (.cells #[.int .i64 0,.bool false,.int .u64 0,.string ⟨#[]⟩,.slice none 0 0] 25)
 have BR:=Row5.new ((W.alloc (.cells #[.int .i64 f] 3)).alloc (.cells #[.int .i64 t.f0,.bool t.f1,.int .u64 t.f2,.string t.f3,.slice a t.f4.length c] 25)) (.int .i64 0) (.bool false) (.int .u64 0) (.string ⟨#[]⟩) (.slice none 0 0)
 have hb1:=(((Below.refl W.heap.size W).alloc (Nat.le_refl _) (.cells #[.int .i64 f] 3)).alloc (by simp) (.cells #[.int .i64 t.f0,.bool t.f1,.int .u64 t.f2,.string t.f3,.slice a t.f4.length c] 25)).alloc (by simp;omega) (.cells #[.int .i64 0,.bool false,.int .u64 0,.string ⟨#[]⟩,.slice none 0 0] 25)
 rw [World.size_alloc] at BV
 rw [World.size_alloc,World.size_alloc] at BR
 obtain ⟨W1,hW1⟩:∃ W1,((W.alloc (.cells #[.int .i64 f] 3)).alloc (.cells #[.int .i64 t.f0,.bool t.f1,.int .u64 t.f2,.string t.f3,.slice a t.f4.length c] 25)).alloc (.cells #[.int .i64 0,.bool false,.int .u64 0,.string ⟨#[]⟩,.slice none 0 0] 25)=W1:=⟨_,rfl⟩
 rw [hW1] at BF BV BR hb1
 have HM:=Lib.hid (may_any f hf t a c W1 P (fun g hg=>Nat.lt_of_lt_of_le (hP g hg) hb1.size) (Qaq (fun _ h=>h) (fun g hg=>hb1.block g (hP g hg)) hT) hc hb)
 rw [hck] at HM
 obtain ⟨q,hq⟩:∃ q,W.heap.size=q:=⟨_,rfl⟩
 rw [hq] at BF BV BR
 have hct:=(check_is hck).2.2
 have HCC:=Lib.hid (fun (pl:Nat) (W6:World) (h1:W.heap.size≤pl) (h2:Below W.heap.size W W6) (h3:EnvP W6 f pl q (pl+1) (pl+1+1)) (h4:Qa7 W6 pl 0)=>hC pl q (pl+1) (pl+1+1) 0 0 0 c none a [] W6 h3 h4 (PathQ.nil W6) (Qaq (fun g hg=>Nat.lt_of_lt_of_le (hP g hg) h1) (fun g hg=>h2.block g (hP g hg)) hT) hc ⟨W,ht,h1,h2⟩ (by omega) (by omega))
 have f1:=BF.cell
 have v0:=BV.c0
 have v1:=BV.c1
 have v2:=BV.c2
 have v3:=BV.c3
 have v4:=BV.c4
 have HB:=Lib.hid hb1
 have HR:=Lib.hid BR
 have HF:=Lib.hid BF
 have HV:=Lib.hid BV
 clear BF BV BR hb1 hT hc hb hP hf hck hC ht hct
 go_enter Tryz.func11,Tryz.ntmps11
 go_wp2_with (first
  | (go_at_call 24
     refine HM.out.mono ?_
     rintro e w2 ⟨he,hb2⟩
     subst he
     have e1:=(Boxed.new w2 41 (.slice none 0 0))
     have e2:=e1.alloc (.cells #[.func (.func 25) #[] #[.pointer (some ⟨w2.heap.size,0,none⟩)]] 66)
     have s2:=Boxed.new (w2.alloc (.cells #[.slice none 0 0] 41)) 66 (.func (.func 25) #[] #[.pointer (some ⟨w2.heap.size,0,none⟩)])
     have e3:=e2.alloc (.cells #[.func (.func 26) #[] #[.pointer (some ⟨q,0,none⟩),.pointer (some ⟨w2.heap.size+1,0,none⟩),.pointer (some ⟨w2.heap.size+1+1,0,none⟩)]] 67)
     have s3:=s2.alloc (.cells #[.func (.func 26) #[] #[.pointer (some ⟨q,0,none⟩),.pointer (some ⟨w2.heap.size+1,0,none⟩),.pointer (some ⟨w2.heap.size+1+1,0,none⟩)]] 67)
     have t3:=Boxed.new ((w2.alloc (.cells #[.slice none 0 0] 41)).alloc (.cells #[.func (.func 25) #[] #[.pointer (some ⟨w2.heap.size,0,none⟩)]] 66)) 67 (.func (.func 26) #[] #[.pointer (some ⟨q,0,none⟩),.pointer (some ⟨w2.heap.size+1,0,none⟩),.pointer (some ⟨w2.heap.size+1+1,0,none⟩)])
     have n3:=Boxed.new ((w2.alloc (.cells #[.slice none 0 0] 41)).alloc (.cells #[.func (.func 25) #[] #[.pointer (some ⟨w2.heap.size,0,none⟩)]] 66)) 67 .nilFunc
     have n2:=Boxed.new (w2.alloc (.cells #[.slice none 0 0] 41)) 66 .nilFunc
     rw [World.size_alloc] at s3 n2
     have nf2:=n2.frozen
     have nc2:=n2.cell
     rw [World.size_alloc,World.size_alloc] at t3 n3
     have nf:=n3.frozen
     have nc:=n3.cell
     have tc:=t3.cell
     have hb3:=(((Below.refl w2.heap.size w2).alloc (Nat.le_refl _) (.cells #[.slice none 0 0] 41)).alloc (by simp) (.cells #[.func (.func 25) #[] #[.pointer (some ⟨w2.heap.size,0,none⟩)]] 66)).alloc (by simp;omega) (.cells #[.func (.func 26) #[] #[.pointer (some ⟨q,0,none⟩),.pointer (some ⟨w2.heap.size+1,0,none⟩),.pointer (some ⟨w2.heap.size+1+1,0,none⟩)]] 67)
     have F3:=(hb3.block _ (by have:=HF.out.lt;have:=hb2.size;omega)).trans ((hb2.block _ HF.out.lt).trans HF.out)
     have V3:=(HV.out.below hb2).below hb3
     have R3:=(HR.out.below hb2).below hb3
     have c0:=V3.c0
     have c1:=V3.c1
     have c2:=V3.c2
     have c3:=V3.c3
     have c4:=V3.c4
     have hbW:=HB.out.trans ((hb2.trans (hb3.mono hb2.size)).mono HB.out.size)
     have HW6:=Lib.hid (show W.heap.size≤w2.heap.size∧Below W.heap.size W _∧EnvP _ f w2.heap.size q (w2.heap.size+1) (w2.heap.size+1+1)∧Qa7 _ w2.heap.size 0 from ⟨by have:=HB.out.size;have:=hb2.size;omega,hbW,⟨F3,s3,t3⟩,⟨_,[],e3,World.ownsRow_nil _ _ _ _⟩⟩)
     have HR3:=Lib.hid R3
     have hqp:q+1+1<w2.heap.size:=(HR.out.below hb2).lt
     clear hb2 hb3 e1 e2 e3 s2 s3 t3 n2 n3 F3 V3 R3 hbW)
  | (go_at_call 26
     refine (HCC.out w2.heap.size _ HW6.out.1 HW6.out.2.1 HW6.out.2.2.1 HW6.out.2.2.2).mono ?_
     rintro e w7 ⟨u,ua,uc,um,he,u1,u2,u3,u4,u5,u6⟩
     subst he
     obtain ⟨ao,cap,l1⟩:=lost_slice u5
     have R7:=u6.row5 HR3.out (by omega)
     have hb8:=(Below.refl w7.heap.size w7).alloc (Nat.le_refl _) (.cells #[.int .i64 u.f0,.bool u.f1,.int .u64 u.f2,.string u.f3,.slice ua u.f4.length uc] 25)
     have X8:=Row5.new w7 (.int .i64 u.f0) (.bool u.f1) (.int .u64 u.f2) (.string u.f3) (.slice ua u.f4.length uc)
     have R8:=R7.below hb8
     have l8:=(hb8.block _ l1.lt).trans l1
     have HU:=Lib.hid (show u.f4.length≤uc∧Tree _ _ u ua∧BecOk f t u um from ⟨u1,Qaq (P':=fun b=>q+1+1<b∧b<w7.heap.size+1) (fun b hb=>by obtain ⟨⟨cs,fr,h⟩,h2⟩:=hb;have:=(Array.getElem?_eq_some_iff.1 h).1;simp only [World.size_alloc] at h2;omega) (fun b hb=>by obtain ⟨⟨cs,fr,h⟩,_⟩:=hb;exact hb8.block b (Array.getElem?_eq_some_iff.1 h).1) u2,u3⟩)
     have HB8:=Lib.hid ((HW6.out.2.1.trans (u6.1.mono HW6.out.1)).trans (hb8.mono (HW6.out.2.1.trans (u6.1.mono HW6.out.1)).size))
     obtain ⟨w8,hw8⟩:∃ w8,w7.alloc (.cells #[.int .i64 u.f0,.bool u.f1,.int .u64 u.f2,.string u.f3,.slice ua u.f4.length uc] 25)=w8:=⟨_,rfl⟩
     rw [hw8] at HU HB8 X8 R8 l8
     have HR8:=Lib.hid R8
     have HX8:=Lib.hid X8
     have HL8:=Lib.hid l8
     have x0:=X8.c0
     have x1:=X8.c1
     have x2:=X8.c2
     have x3:=X8.c3
     have x4:=X8.c4
     have l0:=Boxed.cell l8
     have z0:=R8.c0
     have z1:=R8.c1
     have z2:=R8.c2
     have z3:=R8.c3
     have z4:=R8.c4
     have y0:=R8.fz 0
     have y1:=R8.fz 1
     have y2:=R8.fz 2
     have y3:=R8.fz 3
     have y4:=R8.fz 4
     have hq7:q+1+1<w7.heap.size:=R7.lt
     clear u1 u2 u3 u4 u5 u6 l1 R7 hb8))
 have n1:¬ q+1+1=w7.heap.size:=by omega
 have n2:¬ w7.heap.size=q+1+1:=by omega
 have n3:¬ q+1+1=w2.heap.size:=by omega
 have n4:¬ w2.heap.size=q+1+1:=by omega
 go_region_held3 (fun w'=>w'.cell? ⟨w7.heap.size,0,none⟩=some (.int .i64 u.f0)∧w'.cell? ⟨w7.heap.size,1,none⟩=some (.bool u.f1)∧w'.cell? ⟨w7.heap.size,2,none⟩=some (.int .u64 u.f2)∧w'.cell? ⟨w7.heap.size,3,none⟩=some (.string u.f3)∧w'.cell? ⟨w7.heap.size,4,none⟩=some (.slice ua u.f4.length uc)∧w'.cell? ⟨w2.heap.size,0,none⟩=some (.slice ao um cap))
  (go_keep)
  (fail)
 have Z5:=HR8.out.put5 (.int .i64 u.f0) (.bool u.f1) (.int .u64 u.f2) (.string u.f3) (.slice ua u.f4.length uc)
 have k0:=Z5.c0
 have k1:=Z5.c1
 have k2:=Z5.c2
 have k3:=Z5.c3
 have k4:=Z5.c4
 go_wp2
 refine bodyPost_ret (v:=.tuple #[.agg #[.int .i64 u.f0,.bool u.f1,.int .u64 u.f2,.string u.f3,.slice ua u.f4.length uc],.slice ao um cap,.int .i64 0]) (by simp [results,Tryz.f11,go_sem,k0,k1,k2,k3,k4]) rfl ?_
 have hlt8:=HR8.out.lt
 have hlt9:=HX8.out.lt
 refine ⟨u,ua,ao,uc,um,cap,rfl,HU.out.1,?_,HU.out.2.2,(Qa2 HB8.out (by omega) _ _ _ _ _).drew⟩
 have hs9:(((((w8.setCell ⟨q+1+1,0,none⟩ (.int .i64 u.f0)).setCell ⟨q+1+1,1,none⟩ (.bool u.f1)).setCell ⟨q+1+1,2,none⟩ (.int .u64 u.f2)).setCell ⟨q+1+1,3,none⟩ (.string u.f3)).setCell ⟨q+1+1,4,none⟩ (.slice ua u.f4.length uc)).drew.heap.size=w8.heap.size:=by simp [World.setCell,World.drew]
 rw [hs9]
 refine Qaq (fun b hb=>?_) (fun b hb=>?_) HU.out.2.1
 · have:=hb.2;show b<w8.heap.size;omega
 · exact Qb3 (by have:=hb.1;omega) _ _ _ _ _
set_option maxRecDepth 100000 in
set_option maxHeartbeats 8000000 in
theorem wc_not (x y:Int) (f:Int) (hx:x.tmod 3=f) (g:Int) (hy:y.tmod 3=g) (hf:f=0 ∨ f=1 ∨ f=2) (hg:g=0 ∨ g=1 ∨ g=2) (t:T) (a:Option Addr) (c:Nat) (W:World) (P:Nat→Prop) (hP:∀ g,P g→g<W.heap.size) (hT:Tree W P t a) (hc:t.f4.length≤c) (hb:bulk t≤1048576) (hck:Qaz t ≠ 0) :
 Calls Tryz.prog 4 #[.int .u8 x,.int .u8 y,.agg #[.int .i64 t.f0,.bool t.f1,.int .u64 t.f2,.string t.f3,.slice a t.f4.length c]] W (Ret (.bool true) W):=by
 have R:=Row5.new W (.int .i64 t.f0) (.bool t.f1) (.int .u64 t.f2) (.string t.f3) (.slice a t.f4.length c)
 have hb1:=(Below.refl W.heap.size W).alloc (Nat.le_refl _) (.cells #[.int .i64 t.f0,.bool t.f1,.int .u64 t.f2,.string t.f3,.slice a t.f4.length c] 25)
 have HP:=Lib.hid (project_not f hf t a c _ P (fun g hg=>Nat.lt_of_lt_of_le (hP g hg) hb1.size) (Qaq (fun _ h=>h) (fun g hg=>hb1.block g (hP g hg)) hT) hc (by omega) hck)
 generalize Qaz t=r at HP hck
 have br:(r != 0)=true:=by simpa using hck
 have wf1:IntKind.u8.wrap f=f:=by rcases hf with rfl | rfl | rfl <;> rfl
 have wf2:IntKind.i64.wrap f=f:=by rcases hf with rfl | rfl | rfl <;> rfl
 have wg1:IntKind.u8.wrap g=g:=by rcases hg with rfl | rfl | rfl <;> rfl
 have wg2:IntKind.i64.wrap g=g:=by rcases hg with rfl | rfl | rfl <;> rfl
 have HB:=Lib.hid hb1
 have c0:=R.c0
 have c1:=R.c1
 have c2:=R.c2
 have c3:=R.c3
 have c4:=R.c4
 clear R hb1 hT hc hb hP hf hg hck
 go_enter Tryz.func4,Tryz.ntmps4
 go_wp2_with (first
  | (go_at_call 11;refine HP.out.mono ?_;rintro e w2 ⟨he,hb2⟩;subst he;have HB2:=Lib.hid (HB.out.trans (hb2.mono HB.out.size));clear hb2)
  | (go_at_call 6;refine (awake_any _).mono ?_;rintro e w3 ⟨he,hb3⟩;subst he))
 go_ret
 exact ⟨rfl,HB2.out.trans ((((Below.refl _ w2).alloc (Nat.le_refl _) _).trans (hb3.mono (by simp))).mono HB2.out.size)⟩
set_option maxRecDepth 100000 in
set_option maxHeartbeats 8000000 in
theorem wc_yes (x y:Int) (f:Int) (hx:x.tmod 3=f) (g:Int) (hy:y.tmod 3=g) (hf:f=0 ∨ f=1 ∨ f=2) (hg:g=0 ∨ g=1 ∨ g=2) (t:T) (a:Option Addr) (c:Nat) (W:World) (P:Nat→Prop) (hP:∀ g,P g→g<W.heap.size) (hT:Tree W P t a) (hc:t.f4.length≤c) (hb:bulk t≤1048576) (hck:Qaz t=0) (hwf:Wf t) (ht:Tabs W) :
 Calls Tryz.prog 4 #[.int .u8 x,.int .u8 y,.agg #[.int .i64 t.f0,.bool t.f1,.int .u64 t.f2,.string t.f3,.slice a t.f4.length c]] W (Ret (.bool true) W):=by
 have R:=Row5.new W (.int .i64 t.f0) (.bool t.f1) (.int .u64 t.f2) (.string t.f3) (.slice a t.f4.length c)
 have hb1:=(Below.refl W.heap.size W).alloc (Nat.le_refl _) (.cells #[.int .i64 t.f0,.bool t.f1,.int .u64 t.f2,.string t.f3,.slice a t.f4.length c] 25)
 have HP:=Lib.hid (project_any f hf t a c _ P (fun g hg=>Nat.lt_of_lt_of_le (hP g hg) hb1.size) (Qaq (fun _ h=>h) (fun g hg=>hb1.block g (hP g hg)) hT) hc (by omega) hck (become_all f hf t hck hwf (by omega)) (ht.below hb1))
 have HQ:=Lib.hid (fun (u:T) (m:Nat) (h:BecOk f t u m) (w2:World) (ua:Option Addr) (uc:Nat) (hu:Tree w2 (·<w2.heap.size) u ua) (huc:u.f4.length≤uc) (hw:Below W.heap.size W w2) (w3:World) (h3:Below w2.heap.size w2 w3) =>
  project_any g hg u ua uc w3 (·<w2.heap.size) (fun b hb=>Nat.lt_of_lt_of_le hb h3.size) (Qaq (fun _ h=>h) (fun b hb=>h3.block b hb) hu) huc (by have:=h.size;omega) (h.check hck) (become_all g hg u (h.check hck) h.wf (by have:=h.size;omega)) ((ht.below hw).below h3))
 have HF:=Lib.hid (fun (u:T) (ua:Option Addr) (uc:Nat) (w2 w3:World) (hu:Tree w2 (·<w2.heap.size) u ua) (huc:u.f4.length≤uc) (hub:bulk u≤8796093022208) (huw:Wf u) (hck:Qaz u=0) (h3:Below w2.heap.size w2 w3) =>
  ffits_any g hg u ua uc w3 (·<w2.heap.size) (fun b hb=>Nat.lt_of_lt_of_le hb h3.size) (Qaq (fun _ h=>h) (fun b hb=>h3.block b hb) hu) huc hub huw hck)
 have HTT:=Lib.hid (show Tree W P t a∧(∀ g,P g→g<W.heap.size)∧Qaz t=0∧Wf t from ⟨hT,hP,hck,hwf⟩)
 have wf1:IntKind.u8.wrap f=f:=by rcases hf with rfl | rfl | rfl <;> rfl
 have wf2:IntKind.i64.wrap f=f:=by rcases hf with rfl | rfl | rfl <;> rfl
 have wg1:IntKind.u8.wrap g=g:=by rcases hg with rfl | rfl | rfl <;> rfl
 have wg2:IntKind.i64.wrap g=g:=by rcases hg with rfl | rfl | rfl <;> rfl
 have HB:=Lib.hid hb1
 have HR:=Lib.hid R
 have c0:=R.c0
 have c1:=R.c1
 have c2:=R.c2
 have c3:=R.c3
 have c4:=R.c4
 clear R hb1 hT hP hf hg hck hwf ht
 go_enter Tryz.func4,Tryz.ntmps4
 go_upto_region 6 with (go_at_call 11
                        refine HP.out.mono ?_
                        rintro e w2 ⟨u,ua,uo,uc,um,ucap,he,u1,u2,u3,u4⟩
                        subst he
                        have hb3:=(Below.refl w2.heap.size w2).alloc (Nat.le_refl _) (.cells #[.int .i64 u.f0,.bool u.f1,.int .u64 u.f2,.string u.f3,.slice ua u.f4.length uc] 25)
                        have U3:=Row5.new w2 (.int .i64 u.f0) (.bool u.f1) (.int .u64 u.f2) (.string u.f3) (.slice ua u.f4.length uc)
                        have HW2:=Lib.hid (HB.out.trans (u4.mono HB.out.size))
                        have R3:=(HR.out.below u4).below hb3
                        obtain ⟨w3,hw3⟩:∃ w3,w2.alloc (.cells #[.int .i64 u.f0,.bool u.f1,.int .u64 u.f2,.string u.f3,.slice ua u.f4.length uc] 25)=w3:=⟨_,rfl⟩
                        rw [hw3] at hb3 U3 R3
                        have d0:=U3.c0
                        have d1:=U3.c1
                        have d2:=U3.c2
                        have d3:=U3.c3
                        have d4:=U3.c4
                        have HU:=Lib.hid (show u.f4.length≤uc∧Tree w2 (·<w2.heap.size) u ua∧BecOk f t u um from ⟨u1,u2,u3⟩)
                        have HB3:=Lib.hid hb3
                        have HU3:=Lib.hid U3
                        have HR3:=Lib.hid R3
                        clear u1 u2 u3 u4 hb3 U3 R3)
 go_upto_region 7 with (go_at_call 11
                        refine (HQ.out u um HU.out.2.2 w2 ua uc HU.out.2.1 HU.out.1 HW2.out w3 HB3.out).mono ?_
                        rintro e w4 ⟨v,va,vo,vc,vm,vcap,he,v1,v2,v3,v4⟩
                        subst he
                        have hb5:=(Below.refl w4.heap.size w4).alloc (Nat.le_refl _) (.cells #[.int .i64 v.f0,.bool v.f1,.int .u64 v.f2,.string v.f3,.slice va v.f4.length vc] 25)
                        have V5:=Row5.new w4 (.int .i64 v.f0) (.bool v.f1) (.int .u64 v.f2) (.string v.f3) (.slice va v.f4.length vc)
                        have U5:=(HU3.out.below v4).below hb5
                        have R5:=(HR3.out.below v4).below hb5
                        obtain ⟨w5,hw5⟩:∃ w5,w4.alloc (.cells #[.int .i64 v.f0,.bool v.f1,.int .u64 v.f2,.string v.f3,.slice va v.f4.length vc] 25)=w5:=⟨_,rfl⟩
                        rw [hw5] at hb5 V5 U5 R5
                        have d0:=U5.c0
                        have d1:=U5.c1
                        have d2:=U5.c2
                        have d3:=U5.c3
                        have d4:=U5.c4
                        have HV:=Lib.hid (show v.f4.length≤vc∧Tree w4 (·<w4.heap.size) v va∧BecOk g u v vm from ⟨v1,v2,v3⟩)
                        have HB5:=Lib.hid hb5
                        have HS24:=Lib.hid (show w2.heap.size≤w4.heap.size from Nat.le_trans HB3.out.size v4.size)
                        have HB35:=Lib.hid (HB3.out.trans ((v4.trans (hb5.mono v4.size)).mono HB3.out.size))
                        have HV5:=Lib.hid V5
                        have HU5:=Lib.hid U5
                        have HR5:=Lib.hid R5
                        clear v1 v2 v3 v4 hb5 V5 U5 R5)
 obtain ⟨fu,hfu⟩:∃ fu,fitF g u=fu:=⟨_,rfl⟩
 have HFU:=Lib.hid hfu
 have HBU:=Lib.hid (show bulk u≤2147483648∧bulk v≤8796093022208 from ⟨by have:=HU.out.2.2.size;omega,by have:=HU.out.2.2.size;have:=HV.out.2.2.size;omega⟩)
 have HF1:=Lib.hid (HF.out u ua uc w2 w5 HU.out.2.1 HU.out.1 (by have:=HBU.out.1;omega) HU.out.2.2.wf (HU.out.2.2.check HTT.out.2.2.1) HB35.out)
 rw [hfu] at HF1
 clear hfu HP HQ
 go_upto_region 8 with (go_at_call 12
                        refine HF1.out.mono ?_
                        rintro e w6 ⟨he,hb6⟩
                        subst he
                        have V6:=HV5.out.below hb6
                        have U6:=HU5.out.below hb6
                        have R6:=HR5.out.below hb6
                        have d0:=V6.c0
                        have d1:=V6.c1
                        have d2:=V6.c2
                        have d3:=V6.c3
                        have d4:=V6.c4
                        have HV6:=Lib.hid V6
                        have HU6:=Lib.hid U6
                        have HR6:=Lib.hid R6
                        have HB46:=Lib.hid (HB5.out.trans (hb6.mono HB5.out.size))
                        have HB26:=Lib.hid (HB35.out.trans (hb6.mono HB35.out.size))
                        have HF2:=Lib.hid (HF.out v va vc w4 w6 HV.out.2.1 HV.out.1 HBU.out.2 HV.out.2.2.wf (HV.out.2.2.check (HU.out.2.2.check HTT.out.2.2.1)) (HB5.out.trans (hb6.mono HB5.out.size)))
                        rw [HV.out.2.2.fit] at HF2
                        clear V6 U6 R6 hb6)
 go_upto_region 9 with (go_at_call 12
                        refine HF2.out.mono ?_
                        rintro e w7 ⟨he,hb7⟩
                        subst he
                        have V7:=HV6.out.below hb7
                        have U7:=HU6.out.below hb7
                        have R7:=HR6.out.below hb7
                        have HB47:=Lib.hid (HB46.out.trans (hb7.mono HB46.out.size))
                        have HB27:=Lib.hid (HB26.out.trans (hb7.mono HB26.out.size))
                        clear hb7)
 have HBW:=Lib.hid (HW2.out.trans (HB27.out.mono HW2.out.size))
 have HCv:=Lib.hid (fun p:Gb w7=>count_any v va vc p.wd (·<w4.heap.size) (fun b hb=>by have:=HB47.out.size;have:=p.below.size;omega) (Qaq (fun _ h=>h) (fun b hb=>(HB47.out.trans (p.below.mono HB47.out.size)).block b hb) HV.out.2.1) HV.out.1 HBU.out.2)
 have HCt:=Lib.hid (fun p:Gb w7=>count_any t a c p.wd P (fun b hb=>by have:=HTT.out.2.1 b hb;have:=HBW.out.size;have:=p.below.size;omega) (Qaq (fun _ h=>h) (fun b hb=>(HBW.out.trans (p.below.mono HBW.out.size)).block b (HTT.out.2.1 b hb)) HTT.out.1) hc (by omega))
 have HDv:=Lib.hid (fun p:Gb w7=>show Calls Tryz.prog 15 #[.agg #[.int .i64 v.f0,.bool v.f1,.int .u64 v.f2,.string v.f3,.slice va v.f4.length vc]] p.wd (Ret (.int .i64 (depthF v:Nat)) p.wd) from depth_any v va vc p.wd (·<w4.heap.size) (fun b hb=>by have:=HB47.out.size;have:=p.below.size;omega) (Qaq (fun _ h=>h) (fun b hb=>(HB47.out.trans (p.below.mono HB47.out.size)).block b hb) HV.out.2.1) (by have:=HBU.out.2;omega))
 have HDt:=Lib.hid (fun p:Gb w7=>show Calls Tryz.prog 15 #[.agg #[.int .i64 t.f0,.bool t.f1,.int .u64 t.f2,.string t.f3,.slice a t.f4.length c]] p.wd (Ret (.int .i64 (depthF t:Nat)) p.wd) from depth_any t a c p.wd P (fun b hb=>by have:=HTT.out.2.1 b hb;have:=HBW.out.size;have:=p.below.size;omega) (Qaq (fun _ h=>h) (fun b hb=>(HBW.out.trans (p.below.mono HBW.out.size)).block b (HTT.out.2.1 b hb)) HTT.out.1) (by omega))
 have le1:(preF v).length≤(preF t).length:=by have:=HU.out.2.2.cnt;have:=HV.out.2.2.cnt;omega
 have le2:depthF v≤depthF t:=by have:=HU.out.2.2.dep;have:=HV.out.2.2.dep;omega
 obtain ⟨cv,hcv⟩:∃ cv,(preF v).length=cv:=⟨_,rfl⟩
 obtain ⟨ct,hct⟩:∃ ct,(preF t).length=ct:=⟨_,rfl⟩
 obtain ⟨dv,hdv⟩:∃ dv,depthF v=dv:=⟨_,rfl⟩
 obtain ⟨dt,hdt⟩:∃ dt,depthF t=dt:=⟨_,rfl⟩
 rw [hcv] at HCv le1
 rw [hct] at HCt le1
 rw [hdv] at HDv le2
 rw [hdt] at HDt le2
 clear hcv hct hdv hdt
 have r0:∀ p:Gb w7,p.wd.cell? ⟨W.heap.size,0,none⟩=some (.int .i64 t.f0):=fun p=>p.cell R7.c0
 have r1:∀ p:Gb w7,p.wd.cell? ⟨W.heap.size,1,none⟩=some (.bool t.f1):=fun p=>p.cell R7.c1
 have r2:∀ p:Gb w7,p.wd.cell? ⟨W.heap.size,2,none⟩=some (.int .u64 t.f2):=fun p=>p.cell R7.c2
 have r3:∀ p:Gb w7,p.wd.cell? ⟨W.heap.size,3,none⟩=some (.string t.f3):=fun p=>p.cell R7.c3
 have r4:∀ p:Gb w7,p.wd.cell? ⟨W.heap.size,4,none⟩=some (.slice a t.f4.length c):=fun p=>p.cell R7.c4
 have s0:∀ p:Gb w7,p.wd.cell? ⟨w4.heap.size,0,none⟩=some (.int .i64 v.f0):=fun p=>p.cell V7.c0
 have s1:∀ p:Gb w7,p.wd.cell? ⟨w4.heap.size,1,none⟩=some (.bool v.f1):=fun p=>p.cell V7.c1
 have s2:∀ p:Gb w7,p.wd.cell? ⟨w4.heap.size,2,none⟩=some (.int .u64 v.f2):=fun p=>p.cell V7.c2
 have s3:∀ p:Gb w7,p.wd.cell? ⟨w4.heap.size,3,none⟩=some (.string v.f3):=fun p=>p.cell V7.c3
 have s4:∀ p:Gb w7,p.wd.cell? ⟨w4.heap.size,4,none⟩=some (.slice va v.f4.length vc):=fun p=>p.cell V7.c4
 have u0:∀ p:Gb w7,p.wd.cell? ⟨w2.heap.size,0,none⟩=some (.int .i64 u.f0):=fun p=>p.cell U7.c0
 have u1:∀ p:Gb w7,p.wd.cell? ⟨w2.heap.size,1,none⟩=some (.bool u.f1):=fun p=>p.cell U7.c1
 have u2:∀ p:Gb w7,p.wd.cell? ⟨w2.heap.size,2,none⟩=some (.int .u64 u.f2):=fun p=>p.cell U7.c2
 have u3:∀ p:Gb w7,p.wd.cell? ⟨w2.heap.size,3,none⟩=some (.string u.f3):=fun p=>p.cell U7.c3
 have u4:∀ p:Gb w7,p.wd.cell? ⟨w2.heap.size,4,none⟩=some (.slice ua u.f4.length uc):=fun p=>p.cell U7.c4
 clear R7 V7 U7
 clear hx hy hb hc
 have HAW:=Lib.hid (fun p:Gb w7=>show Calls Tryz.prog 6 #[] p.wd (Ret (.bool true) p.wd) from awake_any p.wd)
 cases fu
 · have hvm:((vm:Int) == 0)=false:=by
    have h0:=HV.out.2.2.zero
    rw [HFU.out] at h0
    simp at h0
    simpa using h0
   refine Qal (by kernel_rfl) (by kernel_rfl) ?_
   quiet_step (fail)
   quiet_step (fail)
   quiet_step (fail)
   quiet_step (fail)
   quiet_step (fail)
   quiet_step (fail)
   quiet_step (fail)
   quiet_step (fail)
   quiet_step (fail)
   quiet_step (fail)
   quiet_step (fail)
   quiet_step (fail)
   quiet_step (fail)
   quiet_step (fail)
   quiet_step (fail)
   quiet_step (fail)
   quiet_step (fail)
   quiet_step (fail)
   quiet_step (fail)
   quiet_step (fail)
   go_big_quiet_skip
   go_big_quiet_skip
   go_big_quiet_skip
   quiet_step (fail)
   quiet_step (fail)
   quiet_step (fail)
   quiet_step (fail)
   quiet_step ((go_at_call 14;refine Calls.gb_of (HCv.out _)))
   quiet_step (fail)
   quiet_step ((go_at_call 14;refine Calls.gb_of (HCt.out _)))
   quiet_step (fail)
   quiet_step (fail)
   quiet_step (fail)
   quiet_step (fail)
   quiet_step ((go_at_call 15;refine Calls.gb_of (HDv.out _)))
   quiet_step (fail)
   quiet_step ((go_at_call 15;refine Calls.gb_of (HDt.out _)))
   quiet_step (fail)
   quiet_step (fail)
   quiet_step (fail)
   quiet_step ((go_at_call 6;refine Calls.gb_of (HAW.out _)))
   repeat (quiet_step (fail))
   refine wpQuiet_nil ?_
   intro _ hw'
   obtain ⟨gq,hw''⟩:=hw'
   subst hw''
   have hfin:=HBW.out.trans (gq.below.mono HBW.out.size)
   go_wp2
   go_ret
   exact ⟨rfl,hfin⟩
 · have hvm:vm=0:=HV.out.2.2.zero.2 HFU.out
   subst hvm
   obtain rfl:v=u:=HV.out.2.2.same rfl
   have HS:=Lib.hid (fun p:Gb w7=>same_any v va ua vc uc p.wd (·<w4.heap.size) (fun b hb=>by have:=HB47.out.size;have:=p.below.size;omega) (Qaq (fun _ h=>h) (fun b hb=>(HB47.out.trans (p.below.mono HB47.out.size)).block b hb) HV.out.2.1) (Qaq (fun b hb=>Nat.lt_of_lt_of_le hb (by have h1:=HB3.out.size;have h2:=HS24.out;omega)) (fun b hb=>(HB27.out.trans (p.below.mono HB27.out.size)).block b hb) HU.out.2.1) HBU.out.2)
   refine Qal (by kernel_rfl) (by kernel_rfl) ?_
   quiet_step (fail)
   quiet_step (fail)
   quiet_step (fail)
   quiet_step (fail)
   quiet_step (fail)
   quiet_step (fail)
   quiet_step (fail)
   quiet_step (fail)
   quiet_step (fail)
   quiet_step (fail)
   quiet_step (fail)
   quiet_step (fail)
   quiet_step (fail)
   quiet_step (fail)
   quiet_step (fail)
   quiet_step (fail)
   quiet_step (fail)
   quiet_step (fail)
   quiet_step (fail)
   quiet_step (fail)
   quiet_step (fail)
   quiet_step (fail)
   quiet_step ((go_at_call 13;refine Calls.gb_of (HS.out _)))
   quiet_step (fail)
   quiet_step (fail)
   quiet_step (fail)
   quiet_step (fail)
   quiet_step ((go_at_call 14;refine Calls.gb_of (HCv.out _)))
   quiet_step (fail)
   quiet_step ((go_at_call 14;refine Calls.gb_of (HCt.out _)))
   quiet_step (fail)
   quiet_step (fail)
   quiet_step (fail)
   quiet_step (fail)
   quiet_step ((go_at_call 15;refine Calls.gb_of (HDv.out _)))
   quiet_step (fail)
   quiet_step ((go_at_call 15;refine Calls.gb_of (HDt.out _)))
   quiet_step (fail)
   quiet_step (fail)
   quiet_step (fail)
   quiet_step ((go_at_call 6;refine Calls.gb_of (HAW.out _)))
   repeat (quiet_step (fail))
   refine wpQuiet_nil ?_
   intro _ hw'
   obtain ⟨gq,hw''⟩:=hw'
   subst hw''
   have hfin:=HBW.out.trans (gq.below.mono HBW.out.size)
   go_wp2
   go_ret
   exact ⟨rfl,hfin⟩
theorem mod3_cases (x:Int) (h0:0≤x):x.tmod 3=0 ∨ x.tmod 3=1 ∨ x.tmod 3=2:=by
 rw [Int.tmod_eq_emod_of_nonneg h0]
 omega
theorem wc_any (x y:Int) (hx:0≤x) (hy:0≤y) (t:T) (a:Option Addr) (c:Nat) (W:World) (P:Nat→Prop) (hP:∀ g,P g→g<W.heap.size) (hT:Tree W P t a) (hc:t.f4.length≤c) (hb:bulk t≤1048576) (hwf:Wf t) (ht:Tabs W) :
 Calls Tryz.prog 4 #[.int .u8 x,.int .u8 y,.agg #[.int .i64 t.f0,.bool t.f1,.int .u64 t.f2,.string t.f3,.slice a t.f4.length c]] W (Ret (.bool true) W):=by
 by_cases hck:Qaz t=0
 · exact wc_yes x y _ rfl _ rfl (mod3_cases x hx) (mod3_cases y hy) t a c W P hP hT hc hb hck hwf ht
 · exact wc_not x y _ rfl _ rfl (mod3_cases x hx) (mod3_cases y hy) t a c W P hP hT hc hb hck
end Go.Proofs.YtfmceonbejlhlaaGreatDoor
