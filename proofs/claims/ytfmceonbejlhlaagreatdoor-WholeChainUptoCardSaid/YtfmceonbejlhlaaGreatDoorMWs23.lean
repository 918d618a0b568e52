import Derived.Deep.DeepCutAuto
import Derived.Test.YtfmceonbejlhlaaGreatDoorMWs7
import Derived.Test.YtfmceonbejlhlaaGreatDoorMWs22
namespace Go.Proofs.YtfmceonbejlhlaaGreatDoor
open Go.RowKit Go.Proofs.YtfmceonbejlhlaaGreatDoorW.PrintWords Go.Proofs.YtfmceonbejlhlaaGreatDoorW.PrintLast Go.Proofs.YtfmceonbejlhlaaGreatDoorW.PrintMore
set_option linter.unusedVariables false
def RIn (w W:World) (q A B:Nat) (va vb:Value):Prop:=Row2 W q 271 va vb∧NAt W va A∧NAt W vb B∧Below q w W
theorem RIn.next {w W W':World} {q A B:Nat} {va vb:Value} (h:RIn w W q A B va vb) (hb:Below W.heap.size W W'):RIn w W' q A B va vb:=by
 obtain ⟨h1,h3,h4,h5⟩:=h
 have:=h1.lt
 exact ⟨h1.below hb,h3.below hb,h4.below hb,h5.trans (hb.mono (by omega))⟩
theorem RIn.begin (w:World) (A B:Nat) (va vb:Value) (h1:NAt w va A) (h2:NAt w vb B):RIn w (w.alloc (.cells #[va,vb] 271)) w.heap.size A B va vb:=by
 have hb:=(Below.refl w.heap.size w).alloc (Nat.le_refl _) (.cells #[va,vb] 271)
 exact ⟨Row2.new w 271 va vb,h1.below hb,h2.below hb,hb⟩
def CRet (A B:Nat) (w:World) (e:Ending) (w':World):Prop:=∃ v,e=.returned (.tuple #[v,.int .i64 (cmpF (A % B*2 ^ 1) B)])∧(LAt w' v (limbs (A / B))∧Sm (A / B))∧Below w.heap.size w w'
set_option maxHeartbeats 4000000 in
set_option maxRecDepth 100000 in
theorem cut_any (A B:Nat) (va vb:Value) (w:World) (h1:NAt w va A) (h2:NAt w vb B) (hA:Bt A 130000) (hB:Bt B 130000) (h0:B ≠ 0) :
 Calls Tryz.prog 156 #[.agg #[va,vb]] w (CRet A B w):=by
 have hI:=RIn.begin w A B va vb h1 h2
 obtain ⟨a1,n1,c1,hv1⟩:=h1.slice
 obtain ⟨a2,n2,c2,hv2⟩:=h2.slice
 subst hv1 hv2
 obtain ⟨w1,hw1⟩:∃ w1,w.alloc (.cells #[.slice a1 n1 c1,.slice a2 n2 c2] 271)=w1:=⟨_,rfl⟩
 obtain ⟨q,hq⟩:∃ q,w.heap.size=q:=⟨_,rfl⟩
 rw [hw1,hq] at hI
 have HI:=Lib.hid hI
 have HQ:=Lib.hid hq
 have HS:=Lib.hid (show Bt A 130000∧Bt B 130000∧B ≠ 0∧Bt (A % B) 130000 from ⟨hA,hB,h0,Nat.lt_of_le_of_lt (Nat.mod_le ..) hA⟩)
 have c0:=hI.1.c0
 have c1:=hI.1.c1
 clear h1 h2 hA hB hI h0
 go_enter Tryz.func156,Tryz.ntmps156
 go_wp2_with (first
  | (go_at_call 178;refine (div_n A B _ _ w1 HI.out.2.1 HI.out.2.2.1 HS.out.1 HS.out.2.1 (by omega) (by omega) HS.out.2.2.1).mono ?_;rintro e w2 ⟨v2,r2,he,hl2,hr2,hb2⟩;subst he;have HI2:=Lib.hid (HI.out.next hb2);have HL2:=Lib.hid hl2;have HR2:=Lib.hid hr2;clear hl2 hr2 hb2 c0 c1)
  | (go_at_call 175;refine (shl_n (A % B) 1 _ w2 HR2.out HS.out.2.2.2 (by omega)).mono ?_;rintro e w3 ⟨v3,he,hl3,hb3⟩;subst he;have HI3:=Lib.hid (HI2.out.next hb3);have HL3:=Lib.hid hl3;have HL23:=Lib.hid (show LAt w3 v2 (limbs (A / B))∧Sm (A / B) from ⟨HL2.out.1.below hb3,HL2.out.2⟩);have d1:=HI3.out.1.c1;clear hl3 hb3)
  | (go_at_call 157;refine (cmp_n (A % B*2 ^ 1) B _ _ w3 HL3.out HI3.out.2.2.1).mono ?_;rintro e w4 ⟨he,hb4⟩;subst he;have HI4:=Lib.hid (HI3.out.next hb4);have HL24:=Lib.hid (show LAt w4 v2 (limbs (A / B))∧Sm (A / B) from ⟨HL23.out.1.below hb4,HL23.out.2⟩);clear hb4))
 refine bodyPost_ret (v:=.tuple #[v2,.int .i64 (cmpF (A % B*2 ^ 1) B)]) (by simp [results,Tryz.results156,go_sem]) rfl ⟨_,rfl,HL24.out,?_⟩
 have:=HI4.out.2.2.2
 rw [HQ.out]
 exact this
theorem or_limb {N x k:Nat} (hN:N<4294967296 ^ k) (hx:x<4294967296):Go.bits .or .u64 ((N % 18446744073709551616:Nat):Int) ((x*4294967296 ^ k % 18446744073709551616:Nat):Int)=(((N+4294967296 ^ k*x) % 18446744073709551616:Nat):Int):=by
 rw [u64_or_nat _ _ (by omega) (by omega)]
 match k,hN with
 | 0,hN =>
   simp at hN
   subst hN
   simp
 | 1,hN =>
   rw [Nat.pow_one] at hN
   have h:=or_32 (x:Int) (N:Int) (by omega) (by omega) (by omega) (by omega)
   have e1:((x:Int)*4294967296)=((x*4294967296:Nat):Int):=by omega
   rw [e1,u64_or_nat _ _ (by omega) (by omega)] at h
   rw [Nat.pow_one,Nat.mod_eq_of_lt (show N<18446744073709551616 by omega),Nat.mod_eq_of_lt (show x*4294967296<18446744073709551616 by omega),Nat.or_comm,h]
   omega
 | k+2,hN =>
   have e:(4294967296:Nat) ^ (k+2)=18446744073709551616*4294967296 ^ k:=by rw [Nat.pow_add,Nat.mul_comm]
   have h1:x*4294967296 ^ (k+2) % 18446744073709551616=0:=by rw [e,← Nat.mul_assoc,Nat.mul_comm x,Nat.mul_assoc,Nat.mul_mod_right]
   have h2:(N+4294967296 ^ (k+2)*x) % 18446744073709551616=N % 18446744073709551616:=by rw [e,Nat.mul_assoc,Nat.add_mul_mod_self_left]
   rw [h1,h2]
   simp
theorem shl_limb (x k:Nat):IntKind.u64.wrap ((x:Int)*2 ^ min (32*(k:Int)).toNat IntKind.u64.bits)=((x*4294967296 ^ k % 18446744073709551616:Nat):Int):=by
 have hb:IntKind.u64.bits=64:=rfl
 have ht:(32*(k:Int)).toNat=32*k:=by omega
 have key:∀ m:Nat,IntKind.u64.wrap ((x:Int)*2 ^ m)=((x*2 ^ m % 18446744073709551616:Nat):Int):=fun m=>by
  have e2:((x:Int)*2 ^ m)=((x*2 ^ m:Nat):Int):=by simp
  rw [e2,IntKind.wrap_u64]
  omega
 rw [hb,ht]
 by_cases h:k≤2
 · rw [Nat.min_eq_left (by omega),key,Nat.pow_mul]
 · rw [Nat.min_eq_right (by omega),key]
   have e:(4294967296:Nat) ^ k=18446744073709551616*4294967296 ^ (k - 2):=by
    conv=>lhs;rw [show k=2+(k - 2) by omega,Nat.pow_add]
   rw [e,← Nat.mul_assoc,Nat.mul_comm x,Nat.mul_assoc,Nat.mul_mod_right]
   omega
set_option maxHeartbeats 4000000 in
set_option maxRecDepth 100000 in
theorem small_any (A:Nat) (v:Value) (w:World) (h1:NAt w v A):Calls Tryz.prog 201 #[v] w (Ret (.int .u64 (A % 18446744073709551616:Nat)) w):=by
 obtain ⟨xs,h1,hA,hl⟩:=h1
 obtain ⟨a1,c1,hv1,_⟩:=h1.slice
 obtain ⟨n,hn⟩:∃ n,xs.length=n:=⟨_,rfl⟩
 rw [hn] at hv1 hl
 subst hv1
 have HN:=Lib.hid hn
 have HL:=Lib.hid h1
 have HA:=Lib.hid hA
 clear hn h1 hA
 go_enter Tryz.func201,Tryz.ntmps201
 go_wp2_with fail
 go_loopw [8,3] (fun c x wi=>∃ k:Nat,k≤n∧c=.int .i64 k∧x=.int .u64 (val (xs.take k) % 18446744073709551616:Nat)∧wi=w) (fun c _ _=>n - (intOf c).toNat)
 case atStart=>exact ⟨0,Nat.zero_le _,rfl,rfl,rfl⟩
 case round =>
  obtain ⟨k,hk,rfl,rfl,hwr⟩:=hrel
  subst wr
  by_cases hlt:k<n
  · obtain ⟨g,o,rfl,hg,hx⟩:=HL.out.cells (by omega)
    obtain ⟨x,hxk⟩:=Qbg (xs:=xs) (i:=k) (by have:=HN.out;omega)
    have d1:=hx k x hxk
    have hxl:=HL.out.lim.get hxk
    have hvl:=Qca HL.out.lim k (by have:=HN.out;omega)
    have hor:=or_limb hvl hxl
    rw [← Qbn hxk] at hor
    have f1:(k:Int)<(n:Int):=by omega
    have b1:IntKind.u64.wrap (x:Int)=(x:Int):=by rw [IntKind.wrap_u64];omega
    obtain ⟨c,hc⟩:∃ c,32*k=c:=⟨_,rfl⟩
    have b2:IntKind.i64.wrap (32*(k:Int))=(c:Int):=by rw [IntKind.wrap_i64];omega
    have b3:IntKind.u64.wrap ((x:Int)*2 ^ min c 64)=((x*4294967296 ^ k % 18446744073709551616:Nat):Int):=by
     have:=shl_limb x k
     rwa [show (32*(k:Int)).toNat=c by omega] at this
    obtain ⟨N,hN⟩:∃ N,val (xs.take k) % 18446744073709551616=N:=⟨_,rfl⟩
    obtain ⟨N', hN'⟩ : ∃ N', val (xs.take (k + 1)) % 18446744073709551616 = N' := ⟨_, rfl⟩
    obtain ⟨z,hz⟩:∃ z,x*4294967296 ^ k % 18446744073709551616=z:=⟨_,rfl⟩
    rw [hN, hN', hz] at hor
    rw [hz] at b3
    rw [hN]
    have HN':=Lib.hid hN'
    clear hN hN' hz hvl hxl hx hxk hc
    go_wp2
    go_roundw
    case rel=>exact ⟨k+1,by omega,by go_num,by rw [HN'.out],trivial⟩
    case measure=>simp [intOf];omega
  · obtain rfl:k=n:=by omega
    have f1:¬ (k:Int)<(k:Int):=by omega
    have e:val (xs.take k) % 18446744073709551616=A % 18446744073709551616:=by rw [List.take_of_length_le (by have:=HN.out;omega),HA.out]
    rw [e]
    obtain ⟨N,hN⟩:∃ N,A % 18446744073709551616=N:=⟨_,rfl⟩
    rw [hN]
    go_wp2
    exact bodyPost_ret (v:=.int .u64 N) (by simp [results,Tryz.results201,go_sem]) rfl ⟨rfl,Below.refl _ _⟩
theorem times_two (A B:Nat) (x:Int) (va vb:Value) (w:World) (h1:NAt w va A) (h2:NAt w vb B) (hA:Bt A 20000) (hB:Bt B 20000) (hx : -20000≤x∧x≤20000) :
 Calls Tryz.prog 155 #[.agg #[va,vb],.int .i64 x,.int .i64 0] w (RRet (A*2 ^ x.toNat) (B*2 ^ (-x).toNat) w):=by
 have:=times_any A B x 0 va vb w h1 h2 hA hB hx (by omega)
 rwa [show (0:Int).toNat=0 by decide,show (-(0:Int)).toNat=0 by decide,Nat.pow_zero,Nat.mul_one,Nat.mul_one] at this
theorem Bt.shift {A:Nat} {x:Int} (h:Bt A 20000) (hx:x≤20000):Bt (A*2 ^ x.toNat) 50000:=(h.mul (Bt.two x.toNat)).mono (by omega)
theorem cmpF_lt {a b:Nat} (h:a<b):cmpF a b = -1:=by unfold cmpF;rw [if_pos h]
theorem cmpF_ge {a b:Nat} (h:¬ a<b):¬ cmpF a b<0:=by unfold cmpF;rw [if_neg h];split <;> omega
set_option maxHeartbeats 4000000 in
set_option maxRecDepth 100000 in
theorem nearest_any (A B:Nat) (va vb:Value) (w:World) (h1:NAt w va A) (h2:NAt w vb B) (hA:Bt A 15000) (hB:Bt B 15000) (h0:B ≠ 0) :
 Calls Tryz.prog 181 #[.agg #[va,vb]] w (Ret (.tuple #[.int .u64 (nearF A B).1,.int .i64 (nearF A B).2]) w):=by
 have hI:=RIn.begin w A B va vb h1 h2
 obtain ⟨a1,n1,p1,hv1⟩:=h1.slice
 obtain ⟨a2,n2,p2,hv2⟩:=h2.slice
 subst hv1 hv2
 obtain ⟨w1,hw1⟩:∃ w1,w.alloc (.cells #[.slice a1 n1 p1,.slice a2 n2 p2] 271)=w1:=⟨_,rfl⟩
 obtain ⟨q,hq⟩:∃ q,w.heap.size=q:=⟨_,rfl⟩
 rw [hw1,hq] at hI
 have hA1:=hA.blen
 have hB1:=hB.blen
 obtain ⟨ba,hba⟩:∃ ba,blen A=ba:=⟨_,rfl⟩
 obtain ⟨bb,hbb⟩:∃ bb,blen B=bb:=⟨_,rfl⟩
 obtain ⟨e0,he0⟩:∃ e0,(ba:Int) - bb=e0:=⟨_,rfl⟩
 obtain ⟨me,hme⟩:∃ me,-e0=me:=⟨_,rfl⟩
 obtain ⟨e,he⟩:∃ e,nearE A B=e:=⟨_,rfl⟩
 obtain ⟨u,hu⟩:∃ u,nearU A B=u:=⟨_,rfl⟩
 obtain ⟨mu,hmu⟩:∃ mu,-u=mu:=⟨_,rfl⟩
 have hue:u=max (e - 52) (-1074):=by rw [← hu,nearU,he]
 have HBa:=Lib.hid fun (p:Gb w1)=>bits_n A _ p.wd (hI.2.1.below p.below)
 have HBb:=Lib.hid fun (p:Gb w1)=>bits_n B _ p.wd (hI.2.2.1.below p.below)
 rw [hba] at HBa hA1
 rw [hbb] at HBb hB1
 have HI:=Lib.hid hI
 have HQ:=Lib.hid hq
 have HS:=Lib.hid (show Bt A 20000∧Bt B 20000∧B ≠ 0∧ba≤15000∧bb≤15000∧(ba:Int) - bb=e0 from ⟨hA.mono (by omega),hB.mono (by omega),h0,hA1,hB1,he0⟩)
 have c0:=hI.1.c0
 have c1:=hI.1.c1
 have x1:IntKind.i64.wrap ((ba:Int) - (bb:Int))=e0:=by rw [IntKind.wrap_i64];omega
 have x2:IntKind.i64.wrap (-e0)=me:=by rw [IntKind.wrap_i64];omega
 have hbaA:=Lib.hid hba
 have hbbB:=Lib.hid hbb
 have HE:=Lib.hid (show -e0=me∧nearE A B=e∧nearU A B=u∧-u=mu∧u=max (e - 52) (-1074) from ⟨hme,he,hu,hmu,hue⟩)
 clear h1 h2 hA hB hI h0 he0 hme he hu hmu hue hba hbb hA1 hB1
 go_enter Tryz.func181,Tryz.ntmps181
 go_wp2_with fail
 have l0:∀ p:Gb w1,p.wd.cell? ⟨q,0,none⟩=some (.slice a1 n1 p1):=fun p=>p.cell c0
 have l1:∀ p:Gb w1,p.wd.cell? ⟨q,1,none⟩=some (.slice a2 n2 p2):=fun p=>p.cell c1
 refine Qal (by kernel_rfl) (by kernel_rfl) ?_
 quiet_step (fail)
 quiet_step (fail)
 quiet_step ((go_at_call 195;refine Calls.gb_of (HBa.out _)))
 quiet_step (fail)
 quiet_step (fail)
 quiet_step ((go_at_call 195;refine Calls.gb_of (HBb.out _)))
 quiet_step (fail)
 quiet_step (fail)
 refine wpQuiet_nil ?_
 intro _ hw'
 obtain ⟨gq,hw''⟩:=hw'
 subst hw''
 have HI2:=Lib.hid (HI.out.next gq.below)
 have k0:=HI2.out.1.c0
 have k1:=HI2.out.1.c1
 clear l0 l1 c0 c1
 generalize gq.wd=W2 at HI2 k0 k1 ⊢
 obtain ⟨P,hP⟩:∃ P,A*2 ^ me.toNat=P:=⟨_,rfl⟩
 obtain ⟨Q,hQ⟩:∃ Q,B*2 ^ (-me).toNat=Q:=⟨_,rfl⟩
 have hT:=times_two A B me _ _ W2 HI2.out.2.1 HI2.out.2.2.1 HS.out.1 HS.out.2.1 (by have:=HS.out;have:=HE.out.1;omega)
 rw [hP,hQ] at hT
 have HT:=Lib.hid hT
 obtain ⟨cc,hcc⟩:∃ cc,cmpF P Q=cc:=⟨_,rfl⟩
 have hcase:(cc<0∧e=e0 - 1) ∨ (¬ cc<0∧e=e0):=by
  have h1:=HE.out.2.1
  unfold nearE at h1
  rw [hbaA.out,hbbB.out,HS.out.2.2.2.2.2,HE.out.1,show e0 = -me by have:=HE.out.1;omega,hP,hQ] at h1
  have h2:=HE.out.1
  by_cases hlt:P<Q
  · rw [if_pos hlt] at h1
    exact .inl ⟨by rw [← hcc,cmpF_lt hlt];omega,by omega⟩
  · rw [if_neg hlt] at h1
    exact .inr ⟨by rw [← hcc];exact cmpF_ge hlt,by omega⟩
 have HC:=Lib.hid hcc
 have y1:IntKind.i64.wrap (e - 52)=e - 52:=by have:=HS.out;rw [IntKind.wrap_i64];omega
 have y2:IntKind.i64.wrap (-u)=mu:=by have:=HS.out;have:=HE.out;rw [IntKind.wrap_i64];omega
 have HCase:=Lib.hid hcase
 clear hT hcc hcase
 go_upto_if 27 with (first
  | (go_at_call 155;refine HT.out.mono ?_;rintro ee w3 ⟨v3,u3,he,hl3,hm3,hb3⟩;subst he;obtain ⟨a3,n3,p3,hv3⟩:=hl3.slice;subst hv3;obtain ⟨a4,n4,p4,hv4⟩:=hm3.slice;subst hv4;have hb3':=(Below.refl w3.heap.size w3).alloc (Nat.le_refl _) (.cells #[.slice a3 n3 p3,.slice a4 n4 p4] 271);have HI3:=Lib.hid ((HI2.out.next hb3).next hb3');have HL3:=Lib.hid (hl3.below hb3');have HM3:=Lib.hid (hm3.below hb3');clear hl3 hm3 hb3 HT k0 k1 hb3')
  | (go_at_call 157;refine (cmp_n P Q _ _ _ HL3.out HM3.out).mono ?_;rw [HC.out];rintro ee w4 ⟨he,hb4⟩;subst he;have HI4:=Lib.hid (HI3.out.next hb4);have k0:=HI4.out.1.c0;have k1:=HI4.out.1.c1;clear hb4))
 go_cut [4] (fun ev wx=>ev=.int .i64 e∧wx=w4)
 case first =>
  rcases HCase.out with ⟨hlt,hee⟩ | ⟨hge,hee⟩
  · have z1:IntKind.i64.wrap (e0 - 1)=e:=by have:=HS.out;rw [IntKind.wrap_i64];omega
    clear hee
    go_wp2_with fail
    go_meet
    exact ⟨rfl,rfl⟩
  · subst hee
    go_wp2_with fail
    go_meet
    exact ⟨rfl,rfl⟩
 case rest =>
  obtain ⟨rfl,hwc⟩:=hcut
  subst wc
  obtain ⟨Au,hAu⟩:∃ Au,A*2 ^ mu.toNat=Au:=⟨_,rfl⟩
  obtain ⟨Bu,hBu⟩:∃ Bu,B*2 ^ (-mu).toNat=Bu:=⟨_,rfl⟩
  have hur : -16000≤u∧u≤16000:=by have:=HS.out;have:=HE.out;have:=HCase.out;omega
  have hT:=times_two A B mu _ _ w4 HI4.out.2.1 HI4.out.2.2.1 HS.out.1 HS.out.2.1 (by have:=HE.out;omega)
  rw [hAu,hBu] at hT
  have HT:=Lib.hid hT
  have HBz:=Lib.hid (show Bt Au 130000∧Bt Bu 130000∧Bu ≠ 0 from by
   refine ⟨?_,?_,?_⟩
   · rw [← hAu];exact (HS.out.1.shift (by have:=HE.out;omega)).mono (by omega)
   · rw [← hBu];exact (HS.out.2.1.shift (by have:=HE.out;omega)).mono (by omega)
   · rw [← hBu];exact Nat.ne_of_gt (Nat.mul_pos (Nat.pos_of_ne_zero HS.out.2.2.1) (Nat.two_pow_pos _)))
  obtain ⟨hf,hhf⟩:∃ hf,cmpF (Au % Bu*2 ^ 1) Bu=hf:=⟨_,rfl⟩
  obtain ⟨N0,hN0⟩:∃ N0,Au / Bu % 18446744073709551616=N0:=⟨_,rfl⟩
  obtain ⟨N,hN⟩:∃ N,nearN Au Bu=N:=⟨_,rfl⟩
  have hF:nearF A B=nearR u N:=by
   unfold nearF
   rw [HE.out.2.2.1,HE.out.2.2.2.1,hAu,show u = -mu by have:=HE.out;omega,hBu,hN]
  have hNl:N<18446744073709551616:=by
   rw [← hN];unfold nearN;split <;> exact Nat.mod_lt _ (by decide)
  have hNc:(0<hf∧N=(N0+1) % 18446744073709551616) ∨ (hf=0∧N0 % 2=1∧N=(N0+1) % 18446744073709551616) ∨ (hf=0∧N0 % 2=0∧N=N0) ∨ (hf<0∧N=N0):=by
   rw [← hN,← hhf,← hN0]
   unfold nearN cmpF
   rw [Nat.mul_comm 2]
   rcases Nat.lt_trichotomy (Au % Bu*2) Bu with h | h | h
   · right;right;right
     rw [show Au % Bu*2 ^ 1=Au % Bu*2 by omega,if_pos h,if_neg (by omega)]
     exact ⟨by omega,rfl⟩
   · right
     rw [show Au % Bu*2 ^ 1=Au % Bu*2 by omega,if_neg (by omega),if_neg (by omega)]
     by_cases ho:Au / Bu % 18446744073709551616 % 2=1
     · left;rw [if_pos (.inr ⟨h,ho⟩)];exact ⟨rfl,ho,rfl⟩
     · right;left;rw [if_neg (by omega)];exact ⟨rfl,by omega,rfl⟩
   · left
     rw [show Au % Bu*2 ^ 1=Au % Bu*2 by omega,if_neg (by omega),if_pos h,if_pos (.inl h)]
     exact ⟨by omega,rfl⟩
  have HN:=Lib.hid hNc
  have HF:=Lib.hid hF
  have HT2:=Lib.hid (show N0<18446744073709551616∧N<18446744073709551616 from ⟨by rw [← hN0];exact Nat.mod_lt _ (by decide),hNl⟩)
  have HH:=Lib.hid hhf
  have HN0:=Lib.hid hN0
  clear hT hNc hF hN hN0 hhf hAu hBu hNl
  have mx1:max (e - 52) (-1074)=u:=HE.out.2.2.2.2.symm
  go_upto_region 8 with (first
   | (go_at_call 155;refine HT.out.mono ?_;rintro ee w5 ⟨v5,u5,he,hl5,hm5,hb5⟩;subst he;have HI5:=Lib.hid (HI4.out.next hb5);have HL5:=Lib.hid hl5;have HM5:=Lib.hid hm5;clear hl5 hm5 hb5 HT k0 k1)
   | (go_at_call 156;refine (cut_any Au Bu _ _ w5 HL5.out HM5.out HBz.out.1 HBz.out.2.1 HBz.out.2.2).mono ?_;rintro ee w6 ⟨v6,he,hl6,hb6⟩;rw [HH.out] at he;subst he;have HI6:=Lib.hid (HI5.out.next hb6);have HL6:=Lib.hid (NAt.of hl6.1 hl6.2);clear hl6 hb6)
   | (go_at_call 201;refine (small_any (Au / Bu) _ w6 HL6.out).mono ?_;rw [HN0.out];rintro ee w7 ⟨he,hb7⟩;subst he;have HI7:=Lib.hid (HI6.out.next hb7);clear hb7))
  clear mx1
  obtain ⟨dec,hdec⟩:∃ dec:Bool,(dec=true∧N=(N0+1) % 18446744073709551616∧(0<hf ∨ hf=0∧N0 % 2=1)) ∨ (dec=false∧N=N0∧(hf<0 ∨ hf=0∧N0 % 2=0)):=by
   rcases HN.out with ⟨h1,h2⟩ | ⟨h1,h3,h2⟩ | ⟨h1,h3,h2⟩ | ⟨h1,h2⟩
   · exact ⟨true,.inl ⟨rfl,h2,.inl h1⟩⟩
   · exact ⟨true,.inl ⟨rfl,h2,.inr ⟨h1,h3⟩⟩⟩
   · exact ⟨false,.inr ⟨rfl,h2,.inr ⟨h1,h3⟩⟩⟩
   · exact ⟨false,.inr ⟨rfl,h2,.inl h1⟩⟩
  have HDec:=Lib.hid hdec
  clear hdec
  go_cut [53] (fun bv wx=>bv=.bool dec∧wx=w7)
  case first =>
   have HB1:Go.bits .and .u64 (N0:Int) 1=((N0 % 2:Nat):Int):=by
    have:=u64_mask 1 (by decide) (b:=N0) ⟨by omega,by have:=HT2.out.1;omega⟩
    simpa using this
   rcases HDec.out with ⟨rfl,_,hf1 | ⟨hf1,ho⟩⟩ | ⟨rfl,_,hf1 | ⟨hf1,ho⟩⟩
   · clear HB1
     go_wp2_with fail
     go_meet
     exact ⟨rfl,rfl⟩
   · rw [ho] at HB1
     subst hf1
     clear ho
     go_wp2_with fail
     go_meet
     exact ⟨rfl,rfl⟩
   · have hf2:¬ (0:Int)<hf:=by omega
     have hf3:(hf == 0)=false:=by rw [beq_eq_false_iff_ne];omega
     clear hf1 HB1
     go_wp2_with fail
     go_meet
     exact ⟨rfl,rfl⟩
   · rw [ho] at HB1
     subst hf1
     clear ho
     go_wp2_with fail
     go_meet
     exact ⟨rfl,rfl⟩
  case rest =>
  obtain ⟨rfl,hwc⟩:=hcut
  subst wc
  go_upto_if 53 with fail
  go_cut [9] (fun nv wx=>nv=.int .u64 N∧wx=w7)
  case first =>
   rcases HDec.out with ⟨rfl,hN1,_⟩ | ⟨rfl,hN1,_⟩
   · have z1:IntKind.u64.wrap ((N0:Int)+1)=(N:Int):=by rw [IntKind.wrap_u64];omega
     clear hN1
     go_wp2_with fail
     go_meet
     exact ⟨rfl,rfl⟩
   · have HNe:=Lib.hid hN1
     clear hN1
     go_wp2_with fail
     go_meet
     exact ⟨by rw [HNe.out],rfl⟩
  case rest =>
   obtain ⟨rfl,hwc⟩:=hcut
   subst wc
   have hbw:Below w.heap.size w w7:=by rw [HQ.out];exact HI7.out.2.2.2
   have HBw:=Lib.hid hbw
   have hu1 : -1074≤u:=by have:=HE.out.2.2.2.2;omega
   clear hbw
   by_cases hn:N<4503599627370496
   · have f1:(N:Int)<4503599627370496:=by omega
     have HR:=Lib.hid (show nearR u N=(N,0) by unfold nearR;rw [if_pos hn])
     clear hn
     go_wp2
     exact bodyPost_ret (v:=.tuple #[.int .u64 N,.int .i64 0]) (by simp [results,Tryz.results181,go_sem]) rfl ⟨by rw [HF.out,HR.out],HBw.out⟩
   · have f1:¬ (N:Int)<4503599627370496:=by omega
     obtain ⟨k,hk⟩:∃ k,(u+1074).toNat=k:=⟨_,rfl⟩
     obtain ⟨ks,hks⟩:∃ ks,k*4503599627370496 % 18446744073709551616=ks:=⟨_,rfl⟩
     obtain ⟨b,hb⟩:∃ b,(k*4503599627370496+N) % 18446744073709551616=b:=⟨_,rfl⟩
     have g1:IntKind.i64.wrap (u+1074)=(k:Int):=by rw [IntKind.wrap_i64];omega
     have g2:IntKind.u64.wrap (k:Int)=(k:Int):=by rw [IntKind.wrap_u64];omega
     have g3:IntKind.u64.wrap ((k:Int)*4503599627370496)=(ks:Int):=by rw [IntKind.wrap_u64];omega
     have g4:IntKind.u64.wrap ((ks:Int)+(N:Int))=(b:Int):=by rw [IntKind.wrap_u64];omega
     have HK:=Lib.hid (show nearR u N=if u≤971∧b<9218868437227405312 then (b,0) else (0,8) by unfold nearR;rw [if_neg hn,hk,hb])
     clear hn hk hks hb
     by_cases hu2:u≤971
     · by_cases hb2:b<9218868437227405312
       · have f2:(b:Int)<9218868437227405312:=by omega
         have HR:=Lib.hid (show nearR u N=(b,0) by rw [HK.out,if_pos ⟨hu2,hb2⟩])
         clear hb2
         go_wp2
         exact bodyPost_ret (v:=.tuple #[.int .u64 b,.int .i64 0]) (by simp [results,Tryz.results181,go_sem]) rfl ⟨by rw [HF.out,HR.out],HBw.out⟩
       · have f2:¬ (b:Int)<9218868437227405312:=by omega
         have HR:=Lib.hid (show nearR u N=(0,8) by rw [HK.out,if_neg (fun h=>hb2 h.2)])
         clear hb2
         go_wp2
         exact bodyPost_ret (v:=.tuple #[.int .u64 0,.int .i64 8]) (by simp [results,Tryz.results181,go_sem]) rfl ⟨by rw [HF.out,HR.out];rfl,HBw.out⟩
     · have HR:=Lib.hid (show nearR u N=(0,8) by rw [HK.out,if_neg (fun h=>hu2 h.1)])
       go_wp2
       exact bodyPost_ret (v:=.tuple #[.int .u64 0,.int .i64 8]) (by simp [results,Tryz.results181,go_sem]) rfl ⟨by rw [HF.out,HR.out];rfl,HBw.out⟩
theorem lowD_dig (n:Nat):∀ x ∈ lowD n,48≤x∧x≤57:=by
 induction n using Nat.strongRecOn with
 | _ n ih =>
   intro x hx
   by_cases h0:n=0
   · subst h0;rw [lowD_zero] at hx;simp at hx
   · rw [lowD_pos h0] at hx
     rcases List.mem_cons.1 hx with rfl | hx
     · omega
     · exact ih _ (by omega) x hx
theorem lowD_val (n:Nat):dV ((lowD n).map fun x=>x.toNat - 48).reverse=n:=by
 induction n using Nat.strongRecOn with
 | _ n ih =>
   by_cases h0:n=0
   · subst h0;rw [lowD_zero];rfl
   · rw [lowD_pos h0,List.map_cons,List.reverse_cons,dV_snoc,ih _ (by omega)]
     omega
theorem dgs_nums (l:List Int) (h:∀ x ∈ l,48≤x∧x≤57):dgs (strOfNums l)=l.map (fun x=>x.toNat - 48)∧Dig (strOfNums l)∧(strOfNums l).size=l.length:=by
 have e1:∀ x ∈ l,(UInt8.ofNat x.toNat).toNat=x.toNat:=fun x hx=>by
  have:=h x hx
  rw [UInt8.toNat_ofNat']
  omega
 refine ⟨?_,?_,strOfNums_size l⟩
 · unfold dgs
   rw [strOfNums_data,List.map_map]
   exact List.map_congr_left fun x hx=>by show (UInt8.ofNat x.toNat).toNat - 48=_;rw [e1 x hx]
 · intro c hc
   rw [strOfNums_data] at hc
   obtain ⟨x,hx,rfl⟩:=List.mem_map.1 hc
   have:=h x hx
   rw [e1 x hx]
   omega
theorem decS_dgs (n:Nat):dV (dgs (decS n))=n∧Dig (decS n)∧(decS n).size ≠ 0:=by
 unfold decS
 split
 · rename_i h
   subst h
   refine ⟨rfl,?_,by decide⟩
   intro c hc
   have:c=48:=by simpa using hc
   subst this
   decide
 · rename_i h
   have hd:=lowD_dig n
   obtain ⟨h1,h2,h3⟩:=dgs_nums (lowD n).reverse (fun x hx=>hd x (List.mem_reverse.1 hx))
   refine ⟨?_,h2,?_⟩
   · rw [h1,List.map_reverse,lowD_val]
   · rw [h3,List.length_reverse,lowD_pos h,List.length_cons]
     omega
theorem decS_len {n k:Nat} (h:n<10 ^ k) (hk:0<k):(decS n).size≤k:=by
 unfold decS
 split
 · exact hk
 · have hd:=lowD_dig n
   obtain ⟨h1,h2,h3⟩:=dgs_nums (lowD n).reverse (fun x hx=>hd x (List.mem_reverse.1 hx))
   rw [h3,List.length_reverse]
   exact lowD_len k n h
theorem decS_ge {n:Nat} (h:n ≠ 0):10 ^ ((decS n).size - 1)≤n:=by
 have h1:=decS_dgs n
 have key:∀ m:Nat,m ≠ 0→10 ^ ((lowD m).length - 1)≤m:=by
  intro m
  induction m using Nat.strongRecOn with
  | _ m ih =>
    intro hm
    rw [lowD_pos hm,List.length_cons,Nat.add_sub_cancel]
    by_cases h0:m / 10=0
    · rw [h0,lowD_zero]
      show 10 ^ 0≤m
      omega
    · have:=ih (m / 10) (by omega) h0
      rw [lowD_pos h0,List.length_cons,Nat.pow_succ]
      rw [lowD_pos h0,List.length_cons,Nat.add_sub_cancel] at this
      omega
 unfold decS
 rw [if_neg h]
 obtain ⟨_,_,h3⟩:=dgs_nums (lowD n).reverse (fun x hx=>lowD_dig n x (List.mem_reverse.1 hx))
 rw [h3,List.length_reverse]
 exact key n h
theorem Bt.of_lt {n m k:Nat} (h:n<m) (hm:Bt m k):Bt n k:=Nat.lt_trans h hm
theorem times_ten (A B:Nat) (y:Int) (va vb:Value) (w:World) (h1:NAt w va A) (h2:NAt w vb B) (hA:Bt A 20000) (hB:Bt B 20000) (hy : -4000≤y∧y≤4000) :
 Calls Tryz.prog 155 #[.agg #[va,vb],.int .i64 0,.int .i64 y] w (RRet (A*10 ^ y.toNat) (B*10 ^ (-y).toNat) w):=by
 have:=times_any A B 0 y va vb w h1 h2 hA hB (by omega) hy
 rwa [show (0:Int).toNat=0 by decide,show (-(0:Int)).toNat=0 by decide,Nat.pow_zero,Nat.mul_one,Nat.mul_one] at this
theorem nearF_or (A B:Nat):(nearF A B).2=0 ∨ nearF A B=(0,8):=by
 unfold nearF nearR
 split
 · exact .inl rfl
 · split
   · exact .inl rfl
   · exact .inr rfl
set_option maxHeartbeats 1000000 in
theorem signed_any (b:Nat) (w:World):Calls Tryz.prog 180 #[.bool false,.int .u64 b] w (Ret (.int .u64 b) w):=by
 go_enter Tryz.func180,Tryz.ntmps180
 go_wp2
 exact bodyPost_ret (v:=.int .u64 b) (by simp [results,Tryz.results180,go_sem]) rfl ⟨rfl,Below.refl _ _⟩
set_option maxHeartbeats 4000000 in
set_option maxRecDepth 100000 in
theorem round_any (D:Nat) (e:Int) (w:World) (hD:D ≠ 0) (hl:(decS D).size≤800) (he : -1100≤e∧e≤1100) :
 Calls Tryz.prog 158 #[.bool false,.string (decS D),.int .i64 e] w (Ret (.tuple #[.int .u64 (nearF (D*10 ^ e.toNat) (10 ^ (-e).toNat)).1,.int .i64 (nearF (D*10 ^ e.toNat) (10 ^ (-e).toNat)).2]) w):=by
 obtain ⟨hv,hdig,hs0⟩:=decS_dgs D
 have hDl:=dV_lt hdig.dgs
 rw [dgs_len,hv] at hDl
 have hsm:Sm D:=sm_ten hDl (by omega)
 have hDb:Bt D 3300:=by
  have h2:=Bt.ten (decS D).size
  exact Bt.of_lt hDl (h2.mono (by omega))
 have HFd:=fromdigits_any (decS D) w hdig hs0 hl
 rw [hv] at HFd
 have HFD:=Lib.hid HFd
 obtain ⟨s,hs⟩:∃ s,decS D=s:=⟨_,rfl⟩
 rw [hs] at HFD hl ⊢
 obtain ⟨P,hP⟩:∃ P,D*10 ^ e.toNat=P:=⟨_,rfl⟩
 obtain ⟨Q,hQ⟩:∃ Q,10 ^ (-e).toNat=Q:=⟨_,rfl⟩
 have hPb:Bt P 15000:=by rw [← hP];exact (hDb.mul (Bt.ten e.toNat)).mono (by omega)
 have hQb:Bt Q 15000:=by rw [← hQ];exact (Bt.ten (-e).toNat).mono (by omega)
 have hQ0:Q ≠ 0:=by rw [← hQ];exact Nat.ne_of_gt (Nat.pow_pos (by decide))
 have HT:=Lib.hid fun (w1:World) (v1:Value) (h:NAt w1 v1 D)=>times_ten D 1 e v1 _ _ (h.below ((Below.refl w1.heap.size w1).alloc (Nat.le_refl _) (.cells #[.int .u32 1] 152))) (NAt.one w1 1 (by omega)) (hDb.mono (by omega)) (Bt.mono (k:=1) (by unfold Bt;omega) (by omega)) (by omega)
 rw [hP,hQ] at ⊢
 rw [Nat.one_mul,hP,hQ] at HT
 obtain ⟨N,hN⟩:∃ N,nearF P Q=N:=⟨_,rfl⟩
 have HNr:=Lib.hid fun (w2:World) (va vb:Value) (h1:NAt w2 va P) (h2:NAt w2 vb Q)=>nearest_any P Q va vb w2 h1 h2 hPb hQb hQ0
 have hor:=nearF_or P Q
 rw [hN] at hor HNr ⊢
 obtain ⟨b,f⟩:=N
 have HS:=Lib.hid (show Sm D∧D ≠ 0 from ⟨hsm,hD⟩)
 have f0:¬ (800:Int)<(s.size:Int):=by omega
 have f1:¬ e < -2000:=by omega
 have f2:¬ (2000:Int)<e:=by omega
 clear hv hdig hs0 hDl hsm hDb HFd hs hN hD hl he hP hQ hPb hQb hQ0
 have hor2:f=0 ∨ (b=0∧f=8):=by
  rcases hor with h | h
  · exact .inl h
  · injection h with h1 h2
    exact .inr ⟨h1,h2⟩
 clear hor
 rcases hor2 with h | ⟨h,h'⟩
 · subst h
   go_enter Tryz.func158,Tryz.ntmps158
   go_wp2_with (first
    | (go_at_call 179;refine HFD.out.mono ?_;rintro ee w1 ⟨v1,he,hl1,hb1⟩;subst he;obtain ⟨a1,p1,hv1,_⟩:=hl1.slice;obtain ⟨n1,hn1⟩:∃ n,(limbs D).length=n:=⟨_,rfl⟩;rw [hn1] at hv1;subst hv1;have hn0:((n1:Int) == 0)=false:=(by rw [beq_eq_false_iff_ne];intro h;exact HS.out.2 (limbs_nil.1 (List.eq_nil_of_length_eq_zero (by omega))));have HL1:=Lib.hid (NAt.of hl1 HS.out.1);have HB1:=Lib.hid hb1;clear hl1 hb1 hn1 HFD)
    | (go_at_call 155;refine (HT.out w1 _ HL1.out).mono ?_;rintro ee w2 ⟨va,vb,he,hl2,hm2,hb2⟩;subst he;have HL2:=Lib.hid hl2;have HM2:=Lib.hid hm2;have HB2:=Lib.hid ((HB1.out.alloc HB1.out.size _).trans (hb2.mono (HB1.out.alloc HB1.out.size _).size));clear hl2 hm2 hb2)
    | (go_at_call 181;refine (HNr.out w2 _ _ HL2.out HM2.out).mono ?_;rintro ee w3 ⟨he,hb3⟩;subst he;have HB3:=Lib.hid (HB2.out.trans (hb3.mono HB2.out.size));clear hb3)
    | (go_at_call 180;refine (signed_any b w3).mono ?_;rintro ee w4 ⟨he,hb4⟩;subst he;have HB4:=Lib.hid (HB3.out.trans (hb4.mono HB3.out.size));clear hb4))
   exact bodyPost_ret (v:=.tuple #[.int .u64 b,.int .i64 0]) (by simp [results,Tryz.results158,go_sem]) rfl ⟨rfl,HB4.out⟩
 · subst h h'
   go_enter Tryz.func158,Tryz.ntmps158
   go_wp2_with (first
    | (go_at_call 179;refine HFD.out.mono ?_;rintro ee w1 ⟨v1,he,hl1,hb1⟩;subst he;obtain ⟨a1,p1,hv1,_⟩:=hl1.slice;obtain ⟨n1,hn1⟩:∃ n,(limbs D).length=n:=⟨_,rfl⟩;rw [hn1] at hv1;subst hv1;have hn0:((n1:Int) == 0)=false:=(by rw [beq_eq_false_iff_ne];intro h;exact HS.out.2 (limbs_nil.1 (List.eq_nil_of_length_eq_zero (by omega))));have HL1:=Lib.hid (NAt.of hl1 HS.out.1);have HB1:=Lib.hid hb1;clear hl1 hb1 hn1 HFD)
    | (go_at_call 155;refine (HT.out w1 _ HL1.out).mono ?_;rintro ee w2 ⟨va,vb,he,hl2,hm2,hb2⟩;subst he;have HL2:=Lib.hid hl2;have HM2:=Lib.hid hm2;have HB2:=Lib.hid ((HB1.out.alloc HB1.out.size _).trans (hb2.mono (HB1.out.alloc HB1.out.size _).size));clear hl2 hm2 hb2)
    | (go_at_call 181;refine (HNr.out w2 _ _ HL2.out HM2.out).mono ?_;rintro ee w3 ⟨he,hb3⟩;subst he;have HB3:=Lib.hid (HB2.out.trans (hb3.mono HB2.out.size));clear hb3))
   exact bodyPost_ret (v:=.tuple #[.int .u64 0,.int .i64 8]) (by simp [results,Tryz.results158,go_sem]) rfl ⟨rfl,HB3.out⟩
def DcPost (e:Int) (m:Nat) (w:World) (en:Ending) (w':World):Prop:=∃ (t:ByteArray) (e':Int),en=.returned (.tuple #[.string t,.int .i64 e'])∧Dig t∧1≤t.size∧t.size≤m∧e≤e'∧e'≤e+m∧Below w.heap.size w w'
set_option maxHeartbeats 4000000 in
set_option maxRecDepth 100000 in
theorem decimal_any (D:Nat) (e:Int) (v:Value) (w:World) (h:NAt w v D) (hl:(decS D).size≤800) (hb:Bt D 4000) (he : -1100≤e∧e≤1100):Calls Tryz.prog 159 #[v,.int .i64 e] w (DcPost e 800 w):=by
 obtain ⟨hv,hdig,hs0⟩:=decS_dgs D
 have hD:=digits_n D v w h hb (by omega)
 obtain ⟨s,hs⟩:∃ s,decS D=s:=⟨_,rfl⟩
 unfold DsPost at hD
 rw [hs] at hD hdig hs0 hl
 have HD:=Lib.hid hD
 have HS:=Lib.hid (show Dig s∧s.size ≠ 0∧s.size≤800 from ⟨hdig,hs0,hl⟩)
 clear hv hdig hs0 hD hs hb
 go_enter Tryz.func159,Tryz.ntmps159
 go_wp2_with (go_at_call 87;refine HD.out.mono ?_;rintro ee w1 ⟨he,hb1⟩;subst he;have HB1:=Lib.hid hb1;clear hb1)
 go_loopw [8] (fun tv wi=>∃ t:ByteArray,tv=.string t∧Hid (Dig t∧1≤t.size∧t.size≤s.size)∧wi=w1) (fun tv _=>bsize tv)
 case atStart=>exact ⟨s,rfl,⟨HS.out.1,by have:=HS.out;omega,Nat.le_refl _⟩,rfl⟩
 case round =>
  obtain ⟨t,rfl,HT,hwr⟩:=hrel
  subst wr
  have hss:=HS.out.2.2
  have hts:=HT.out.2
  by_cases h1:1<t.size
  · obtain ⟨m,hm⟩:∃ m,t.size - 1=m:=⟨_,rfl⟩
    have f1:(1:Int)<(t.size:Int):=by omega
    have e1:IntKind.i64.wrap ((t.size:Int) - 1)=(m:Int):=by rw [IntKind.wrap_i64];omega
    have e2:m<t.size:=by omega
    have HM:=Lib.hid hm
    clear hm
    by_cases hz:((t[m].toNat:Int) == 48)=true
    · go_wp2
      go_roundw
      case rel =>
       have hsz:(t.extract 0 m).size=m:=by rw [ByteArray.size_extract];omega
       refine ⟨_,rfl,(show Hid _ from ⟨HT.out.1.part _ _,?_,?_⟩),trivial⟩
       · rw [hsz];have:=HM.out;omega
       · rw [hsz];have:=HM.out;omega
      case measure =>
       have hsz:(t.extract 0 m).size=m:=by rw [ByteArray.size_extract];omega
       simp only [bsize]
       rw [hsz]
       exact e2
    · rw [Bool.not_eq_true] at hz
      have g1:IntKind.i64.wrap (e+(s.size:Int))=e+(s.size:Int):=by rw [IntKind.wrap_i64];omega
      have g2:IntKind.i64.wrap (e+(s.size:Int) - (t.size:Int))=e+(s.size:Int) - (t.size:Int):=by rw [IntKind.wrap_i64];omega
      go_wp2
      exact bodyPost_ret (v:=.tuple #[.string t,.int .i64 (e+(s.size:Int) - (t.size:Int))]) (by simp [results,Tryz.results159,go_sem]) rfl ⟨t,_,rfl,HT.out.1,by omega,by omega,by omega,by omega,HB1.out⟩
  · have f1:¬ (1:Int)<(t.size:Int):=by omega
    have g1:IntKind.i64.wrap (e+(s.size:Int))=e+(s.size:Int):=by rw [IntKind.wrap_i64];omega
    have g2:IntKind.i64.wrap (e+(s.size:Int) - (t.size:Int))=e+(s.size:Int) - (t.size:Int):=by rw [IntKind.wrap_i64];omega
    go_wp2
    exact bodyPost_ret (v:=.tuple #[.string t,.int .i64 (e+(s.size:Int) - (t.size:Int))]) (by simp [results,Tryz.results159,go_sem]) rfl ⟨t,_,rfl,HT.out.1,by omega,by omega,by omega,by omega,HB1.out⟩
end Go.Proofs.YtfmceonbejlhlaaGreatDoor
