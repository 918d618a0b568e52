import Derived.Test.YtfmceonbejlhlaaGreatDoorMWs7
import Derived.Test.YtfmceonbejlhlaaGreatDoorMWs8
namespace Go.Proofs.YtfmceonbejlhlaaGreatDoor
open Go.RowKit Go.Proofs.YtfmceonbejlhlaaGreatDoorW.PrintWords Go.Proofs.YtfmceonbejlhlaaGreatDoorW.PrintLast Go.Proofs.YtfmceonbejlhlaaGreatDoorW.PrintMore
set_option linter.unusedVariables false
theorem index_duo0 (t:Value) (W:World):(Instr.index 180 (.agg #[.int .i64 0,t]) (.int .i64 0)).run Tryz.prog W=.ok (.int .i64 0) W:=by kernel_rfl
theorem index_duo1 (t:Value) (W:World):(Instr.index 180 (.agg #[.int .i64 0,t]) (.int .i64 1)).run Tryz.prog W=.ok t W:=by kernel_rfl
theorem or_lt (n:Nat) {x y:Int} (hn:n≤64) (h0:0≤x) (h1:0≤y) (hx:x<2 ^ n) (hy:y<2 ^ n):Go.bits .or .u64 x y<2 ^ n:=by
 obtain ⟨p,rfl⟩:∃ p:Nat,x=p:=⟨x.toNat,by omega⟩
 obtain ⟨q,rfl⟩:∃ q:Nat,y=q:=⟨y.toNat,by omega⟩
 have hp:p<2 ^ n:=by exact_mod_cast hx
 have hq:q<2 ^ n:=by exact_mod_cast hy
 have h64:2 ^ n≤2 ^ 64:=Nat.pow_le_pow_right (by decide) hn
 rw [u64_or_nat p q (by omega) (by omega)]
 have:=Nat.or_lt_two_pow hp hq
 exact_mod_cast this
theorem top_lt {a e f:Int} (h:Wd a e f):∃ t,((31≤t∧t≤2047)∧(a=32→t=255))∧Det 99 #[.agg #[.int .i64 a,.int .i64 e,.int .i64 f]] (.int .i64 t):=by
 rcases h with ⟨rfl,rfl,rfl⟩ | ⟨rfl,rfl,rfl⟩ | ⟨rfl,rfl,rfl⟩
 · exact ⟨31,by omega,fun w=>P.Qas.calls 16 5 10 31 w (by kernel_rfl)⟩
 · exact ⟨255,by omega,fun w=>P.Qas.calls 32 8 23 255 w (by kernel_rfl)⟩
 · exact ⟨2047,by omega,fun w=>P.Qas.calls 64 11 52 2047 w (by kernel_rfl)⟩
theorem join_lt {a e f:Int} (h:Wd a e f) (neg:Bool) (x y:Int):∃ r,(U64 r∧(a=32→0≤x→x≤255→0≤y→y<8388608→r<4294967296))∧Det 98 #[.agg #[.int .i64 a,.int .i64 e,.int .i64 f],.agg #[.bool neg,.int .i64 x,.int .u64 y]] (.int .u64 r):=by
 by_cases ha:a=32
 · have he:e=8∧f=23:=by rcases h with ⟨rfl,rfl,rfl⟩ | ⟨rfl,rfl,rfl⟩ | ⟨rfl,rfl,rfl⟩ <;> first | exact ⟨rfl,rfl⟩ | exact absurd ha (by decide)
   obtain ⟨rfl,rfl⟩:=he
   subst ha
   by_cases hb:0≤x∧x≤255∧0≤y∧y<8388608
   · obtain ⟨h1,h2,h3,h4⟩:=hb
     have hf:∃ r,P.Qbi.f 32 8 23 neg x y=some r∧U64 r∧r<4294967296:=by
      have e1:shl .u64 (IntKind.u64.wrap x) 23=x*8388608:=by
       have:(2:Int) ^ min (Int.toNat 23) IntKind.u64.bits=8388608:=by decide
       simp only [shl,this,IntKind.wrap_u64]
       omega
      have e2:shl .u64 1 (wrap64 (32 - 1))=2147483648:=by kernel_rfl
      unfold P.Qbi.f
      rw [e1,e2]
      have o1:=or_lt 31 (x:=x*8388608) (y:=y) (by decide) (by omega) h3 (by omega) (by omega)
      have u1:=bits_U64 .or (x*8388608) y (.inl rfl)
      cases neg
      · exact ⟨_,by rw [if_pos (by decide),if_neg (by decide)],u1,by omega⟩
      · exact ⟨_,by rw [if_pos (by decide),if_pos rfl,if_pos (by unfold wrap64;omega)],bits_U64 .or _ _ (.inl rfl),or_lt 32 (by decide) u1.1 (by decide) (by omega) (by decide)⟩
     obtain ⟨r,hr,hu,hl⟩:=hf
     exact ⟨r,⟨hu,fun _ _ _ _ _=>hl⟩,fun w=>P.Qbi.calls 32 8 23 neg x y r w hr⟩
   · obtain ⟨r,hr,hd⟩:=join_det h neg x y
     exact ⟨r,⟨hr,fun _ h1 h2 h3 h4=>absurd ⟨h1,h2,h3,h4⟩ hb⟩,hd⟩
 · obtain ⟨r,hr,hd⟩:=join_det h neg x y
   exact ⟨r,⟨hr,fun h=>absurd h ha⟩,hd⟩
theorem sh32 {y Z f a:Int} (hW:a=32→f=23) (hy:0≤y∧y*2 ^ (52 - (52:Int)).toNat<4503599627370496) (hZ:y / 2 ^ (52 - f).toNat=Z):a=32→0≤Z∧Z<8388608:=by
 intro h
 rw [hW h] at hZ
 have e1:(2:Int) ^ (52 - (52:Int)).toNat=1:=by decide
 have e2:(2:Int) ^ (52 - (23:Int)).toNat=536870912:=by decide
 rw [e1] at hy
 rw [e2] at hZ
 omega
theorem sh32b {y Y Z f a X:Int} (hW:a=32→f=23) (hy:0≤y∧y*2 ^ (52 - (52:Int)).toNat<4503599627370496) (hX:¬ 0<X) (hY:Go.bits .or .u64 y 4503599627370496=Y) (hZ:Y / 2 ^ (52 - f+1 - X).toNat=Z):a=32→0≤Z∧Z<8388608:=by
 intro h
 rw [hW h] at hZ
 have e1:(2:Int) ^ (52 - (52:Int)).toNat=1:=by decide
 rw [e1] at hy
 have h1:=or_lt 53 (x:=y) (y:=4503599627370496) (by decide) hy.1 (by decide) (by omega) (by decide)
 have h0:=(bits_U64 .or y 4503599627370496 (.inl rfl)).1
 rw [hY] at h0 h1
 obtain ⟨k,hk⟩:∃ k:Nat,(52 - (23:Int)+1 - X).toNat=30+k:=⟨(-X).toNat,by omega⟩
 rw [hk,Int.pow_add,← Int.ediv_ediv_of_nonneg (by decide)] at hZ
 have h2:0≤Y / 2 ^ 30∧Y / 2 ^ 30<8388608:=by omega
 have h3:(0:Int)<2 ^ k:=Int.pow_pos (by decide)
 subst hZ
 refine ⟨Int.ediv_nonneg h2.1 (Int.le_of_lt h3),?_⟩
 have:=Int.ediv_le_self (2 ^ k) h2.1
 omega
set_option maxHeartbeats 8000000 in
set_option maxRecDepth 100000 in
theorem narrow_lt {a e f:Int} (h:Wd a e f) (b:Int) (hb:U64 b):∃ rx ok er,(U64 rx∧(a=32→rx<4294967296))∧Det 54 #[.int .i64 a,.int .u64 b] (.tuple #[.int .u64 rx,.bool ok,.int .i64 er]):=by
 obtain ⟨ok,hOf⟩:=of_det h 0
 have HOf:=Lib.hid hOf
 clear hOf
 cases ok
 · refine ⟨0,false,1,⟨by unfold U64;omega,fun _=>by omega⟩,fun w=>?_⟩
   go_enter Tryz.func54,Tryz.ntmps54
   go_wp2_with (go_at_call 92;refine (HOf.out _).mono ?_;rintro ee w1 ⟨rfl,hb1⟩)
   exact bodyPost_ret (v:=.tuple #[.int .u64 0,.bool false,.int .i64 1]) (by simp [results,Tryz.results54,go_sem]) rfl ⟨rfl,hb1.alloc hb1.size _⟩
 obtain ⟨neg,x,y,hx,hy,hS⟩:=split_det (a:=64) (e:=11) (f:=52) (.inr (.inr ⟨rfl,rfl,rfl⟩)) b hb
 obtain ⟨t,⟨ht,ht32⟩,hT⟩:=top_lt h
 obtain ⟨bi,hbi,hB⟩:=bias_det h
 have hf:10≤f∧f≤52:=by rcases h with ⟨rfl,rfl,rfl⟩ | ⟨rfl,rfl,rfl⟩ | ⟨rfl,rfl,rfl⟩ <;> omega
 obtain ⟨Z,hZ⟩:∃ Z,y / 2 ^ (52 - f).toNat=Z:=⟨_,rfl⟩
 have hW3:a=32→f=23:=fun h3=>by rcases h with ⟨rfl,rfl,rfl⟩ | ⟨rfl,rfl,rfl⟩ | ⟨rfl,rfl,rfl⟩ <;> omega
 have hZq:=Lib.hid (sh32 hW3 hy hZ)
 have ht32:=Lib.hid ht32
 obtain ⟨r0,⟨hr0,hr0q⟩,hJ0⟩:=join_lt h neg 0 Z
 obtain ⟨r1,⟨hr1,hr1q⟩,hJ1⟩:=join_lt h neg t Z
 obtain ⟨v0,e0,hv0,hW0⟩:=Qb2 h r0 hr0
 obtain ⟨v1,e1,hv1,hW1⟩:=Qb2 h r1 hr1
 have HS:=Lib.hid hS
 have HT:=Lib.hid hT
 have HB:=Lib.hid hB
 have HJ0:=Lib.hid hJ0
 have HJ1:=Lib.hid hJ1
 have HW0:=Lib.hid hW0
 have HW1:=Lib.hid hW1
 clear hS hT hB hJ0 hJ1 hW0 hW1
 have hr0q:=Lib.hid hr0q
 have hr1q:=Lib.hid hr1q
 have wf:IntKind.i64.wrap (52 - f)=52 - f:=by rw [IntKind.wrap_i64];omega
 have wf2:(0:Int)≤52 - f:=by omega
 have wf3:¬ (52 - f<0):=by omega
 have i2:=fun W=>Qch W
 have j0:=fun t W=>index_duo0 t W
 have j1:=fun t W=>index_duo1 t W
 by_cases q0:v0=b
 · have z0:(v0 == b)=true:=by simpa using q0
   clear q0
   refine ⟨r0,true,0,⟨hr0,fun h3=>hr0q.out h3 (by decide) (by decide) (hZq.out h3).1 (hZq.out h3).2⟩,fun w=>?_⟩
   go_enter Tryz.func54,Tryz.ntmps54
   go_wp2_with (first
    | (go_at_call 92;refine (HOf.out _).mono ?_;rintro ee w1 ⟨rfl,hb1⟩;have R1:=Row3.new w1 168 (.int .i64 a) (.int .i64 e) (.int .i64 f);have hb1:=hb1.alloc hb1.size (.cells #[.int .i64 a,.int .i64 e,.int .i64 f] 168))
    | (go_at_call 97;refine (Qa1 _).mono ?_;rintro ee w2 ⟨rfl,hb2⟩;have R2:=R1.below hb2;have hb2:=hb1.trans (hb2.mono hb1.size))
    | (go_at_call 93;refine (HS.out _).mono ?_;rintro ee w3 ⟨rfl,hb3⟩;have R3:=(R2.below hb3).alloc (.cells #[.bool neg,.int .i64 x,.int .u64 y] 172);have S3:=Row3.new w3 172 (.bool neg) (.int .i64 x) (.int .u64 y);have c0:=R3.c0;have c1:=R3.c1;have c2:=R3.c2;have hb4:=hb2.trans (hb3.mono hb2.size);have hq4:=hb4.size;have hb5:=hb4.alloc hb4.size (.cells #[.bool neg,.int .i64 x,.int .u64 y] 172))
    | (go_at_call 99;refine (HT.out _).mono ?_;rintro ee w6 ⟨rfl,hb6⟩;have R6:=R3.below hb6;have S6:=S3.below hb6;have hB6:=hb5.trans (hb6.mono hb5.size);have hne:w1.heap.size ≠ w3.heap.size:=(by have:=R1.lt;have:=R2.lt;have:=hb3.size;omega)))
   obtain ⟨q7,hq7⟩:∃ q,w1.heap.size=q:=⟨_,rfl⟩
   obtain ⟨q9,hq9⟩:∃ q,w3.heap.size=q:=⟨_,rfl⟩
   rw [hq7] at R6 hne
   rw [hq9] at S6 hne hq4
   rw [hq7,hq9]
   clear R1 hb1 R2 hb2 R3 S3 c0 c1 c2 hb4 hb5 hq7 hq9
   have HR6:=Lib.hid R6
   have HS6:=Lib.hid S6
   have HB6:=Lib.hid hB6
   clear R6 S6 hB6
   go_loopw [33] (fun i wr=>∃ k:Nat,k≤0∧i=.int .i64 k∧Hid (Row3 wr q7 168 (.int .i64 a) (.int .i64 e) (.int .i64 f))∧Hid (Row3 wr q9 172 (.bool neg) (.int .i64 x) (.int .u64 y))∧Hid (Below w.heap.size w wr)) (fun i _=>3 - (intOf i).toNat)
   case atStart=>exact ⟨0,by omega,rfl,HR6,HS6,HB6⟩
   case round =>
    clear HR6 HS6 HB6
    obtain ⟨k,hk,rfl,HR,HS1,HB1⟩:=hrel
    have c0:=HR.out.c0
    have c1:=HR.out.c1
    have c2:=HR.out.c2
    have d0:=HS1.out.c0
    have d1:=HS1.out.c1
    have d2:=HS1.out.c2
    have d3:=HS1.out.fz 0
    have d4:=HS1.out.fz 1
    have d5:=HS1.out.fz 2
    obtain rfl:k=0:=by omega
    go_wp2_with fail
    have l0:∀ p:Gb wr,p.wd.cell? ⟨q7,0,none⟩=some (.int .i64 a):=fun p=>p.cell c0
    have l1:∀ p:Gb wr,p.wd.cell? ⟨q7,1,none⟩=some (.int .i64 e):=fun p=>p.cell c1
    have l2:∀ p:Gb wr,p.wd.cell? ⟨q7,2,none⟩=some (.int .i64 f):=fun p=>p.cell c2
    have m0:∀ p:Gb wr,p.wd.cell? ⟨q9,0,none⟩=some (.bool neg):=fun p=>p.cell d0
    have m2:∀ p:Gb wr,p.wd.cell? ⟨q9,2,none⟩=some (.int .u64 y):=fun p=>p.cell d2
    refine Qal (by kernel_rfl) (by kernel_rfl) ?_
    repeat (quiet_step ((go_at_call 98;refine Calls.gb_of (HJ0.out _))))
    refine wpQuiet_nil ?_
    intro _ hw'
    obtain ⟨gq,hw''⟩:=hw'
    subst hw''
    have R7:=HR.out.below gq.below
    have S7:=HS1.out.below gq.below
    have hB7:=HB1.out.trans (gq.below.mono HB1.out.size)
    go_wp2_with (go_at_call 53;refine (HW0.out _).mono ?_;rintro ee w8 ⟨rfl,hb8⟩;have R8:=R7.below hb8;have S8:=S7.below hb8;have hB8:=hB7.trans (hb8.mono hB7.size))
    exact bodyPost_ret (v:=.tuple #[.int .u64 r0,.bool true,.int .i64 0]) (by simp [results,Tryz.results54,go_sem]) rfl ⟨rfl,hB8⟩
 have z0:(v0 == b)=false:=by simpa using q0
 clear q0
 by_cases q1:v1=b
 · have z1:(v1 == b)=true:=by simpa using q1
   clear q1
   refine ⟨r1,true,0,⟨hr1,fun h3=>hr1q.out h3 (by omega) (by have:=ht32.out h3;omega) (hZq.out h3).1 (hZq.out h3).2⟩,fun w=>?_⟩
   go_enter Tryz.func54,Tryz.ntmps54
   go_wp2_with (first
    | (go_at_call 92;refine (HOf.out _).mono ?_;rintro ee w1 ⟨rfl,hb1⟩;have R1:=Row3.new w1 168 (.int .i64 a) (.int .i64 e) (.int .i64 f);have hb1:=hb1.alloc hb1.size (.cells #[.int .i64 a,.int .i64 e,.int .i64 f] 168))
    | (go_at_call 97;refine (Qa1 _).mono ?_;rintro ee w2 ⟨rfl,hb2⟩;have R2:=R1.below hb2;have hb2:=hb1.trans (hb2.mono hb1.size))
    | (go_at_call 93;refine (HS.out _).mono ?_;rintro ee w3 ⟨rfl,hb3⟩;have R3:=(R2.below hb3).alloc (.cells #[.bool neg,.int .i64 x,.int .u64 y] 172);have S3:=Row3.new w3 172 (.bool neg) (.int .i64 x) (.int .u64 y);have c0:=R3.c0;have c1:=R3.c1;have c2:=R3.c2;have hb4:=hb2.trans (hb3.mono hb2.size);have hq4:=hb4.size;have hb5:=hb4.alloc hb4.size (.cells #[.bool neg,.int .i64 x,.int .u64 y] 172))
    | (go_at_call 99;refine (HT.out _).mono ?_;rintro ee w6 ⟨rfl,hb6⟩;have R6:=R3.below hb6;have S6:=S3.below hb6;have hB6:=hb5.trans (hb6.mono hb5.size);have hne:w1.heap.size ≠ w3.heap.size:=(by have:=R1.lt;have:=R2.lt;have:=hb3.size;omega)))
   obtain ⟨q7,hq7⟩:∃ q,w1.heap.size=q:=⟨_,rfl⟩
   obtain ⟨q9,hq9⟩:∃ q,w3.heap.size=q:=⟨_,rfl⟩
   rw [hq7] at R6 hne
   rw [hq9] at S6 hne hq4
   rw [hq7,hq9]
   clear R1 hb1 R2 hb2 R3 S3 c0 c1 c2 hb4 hb5 hq7 hq9
   have HR6:=Lib.hid R6
   have HS6:=Lib.hid S6
   have HB6:=Lib.hid hB6
   clear R6 S6 hB6
   go_loopw [33] (fun i wr=>∃ k:Nat,k≤1∧i=.int .i64 k∧Hid (Row3 wr q7 168 (.int .i64 a) (.int .i64 e) (.int .i64 f))∧Hid (Row3 wr q9 172 (.bool neg) (.int .i64 x) (.int .u64 y))∧Hid (Below w.heap.size w wr)) (fun i _=>3 - (intOf i).toNat)
   case atStart=>exact ⟨0,by omega,rfl,HR6,HS6,HB6⟩
   case round =>
    clear HR6 HS6 HB6
    obtain ⟨k,hk,rfl,HR,HS1,HB1⟩:=hrel
    have c0:=HR.out.c0
    have c1:=HR.out.c1
    have c2:=HR.out.c2
    have d0:=HS1.out.c0
    have d1:=HS1.out.c1
    have d2:=HS1.out.c2
    have d3:=HS1.out.fz 0
    have d4:=HS1.out.fz 1
    have d5:=HS1.out.fz 2
    obtain rfl | rfl:k=0 ∨ k=1:=by omega
    · go_wp2_with fail
      have l0:∀ p:Gb wr,p.wd.cell? ⟨q7,0,none⟩=some (.int .i64 a):=fun p=>p.cell c0
      have l1:∀ p:Gb wr,p.wd.cell? ⟨q7,1,none⟩=some (.int .i64 e):=fun p=>p.cell c1
      have l2:∀ p:Gb wr,p.wd.cell? ⟨q7,2,none⟩=some (.int .i64 f):=fun p=>p.cell c2
      have m0:∀ p:Gb wr,p.wd.cell? ⟨q9,0,none⟩=some (.bool neg):=fun p=>p.cell d0
      have m2:∀ p:Gb wr,p.wd.cell? ⟨q9,2,none⟩=some (.int .u64 y):=fun p=>p.cell d2
      refine Qal (by kernel_rfl) (by kernel_rfl) ?_
      repeat (quiet_step ((go_at_call 98;refine Calls.gb_of (HJ0.out _))))
      refine wpQuiet_nil ?_
      intro _ hw'
      obtain ⟨gq,hw''⟩:=hw'
      subst hw''
      have R7:=HR.out.below gq.below
      have S7:=HS1.out.below gq.below
      have hB7:=HB1.out.trans (gq.below.mono HB1.out.size)
      go_wp2_with (go_at_call 53;refine (HW0.out _).mono ?_;rintro ee w8 ⟨rfl,hb8⟩;have R8:=R7.below hb8;have S8:=S7.below hb8;have hB8:=hB7.trans (hb8.mono hB7.size))
      go_roundw
      case rel=>exact ⟨1,by omega,by go_num,R8,S8,hB8⟩
      case measure=>simp [intOf]
    · go_wp2_with fail
      have l0:∀ p:Gb wr,p.wd.cell? ⟨q7,0,none⟩=some (.int .i64 a):=fun p=>p.cell c0
      have l1:∀ p:Gb wr,p.wd.cell? ⟨q7,1,none⟩=some (.int .i64 e):=fun p=>p.cell c1
      have l2:∀ p:Gb wr,p.wd.cell? ⟨q7,2,none⟩=some (.int .i64 f):=fun p=>p.cell c2
      have m0:∀ p:Gb wr,p.wd.cell? ⟨q9,0,none⟩=some (.bool neg):=fun p=>p.cell d0
      have m2:∀ p:Gb wr,p.wd.cell? ⟨q9,2,none⟩=some (.int .u64 y):=fun p=>p.cell d2
      refine Qal (by kernel_rfl) (by kernel_rfl) ?_
      repeat (quiet_step ((go_at_call 98;refine Calls.gb_of (HJ1.out _))))
      refine wpQuiet_nil ?_
      intro _ hw'
      obtain ⟨gq,hw''⟩:=hw'
      subst hw''
      have R7:=HR.out.below gq.below
      have S7:=HS1.out.below gq.below
      have hB7:=HB1.out.trans (gq.below.mono HB1.out.size)
      go_wp2_with (go_at_call 53;refine (HW1.out _).mono ?_;rintro ee w8 ⟨rfl,hb8⟩;have R8:=R7.below hb8;have S8:=S7.below hb8;have hB8:=hB7.trans (hb8.mono hB7.size))
      exact bodyPost_ret (v:=.tuple #[.int .u64 r1,.bool true,.int .i64 0]) (by simp [results,Tryz.results54,go_sem]) rfl ⟨rfl,hB8⟩
 have z1:(v1 == b)=false:=by simpa using q1
 clear q1
 have x1:IntKind.i64.wrap (x - 1023)=x - 1023:=by rw [IntKind.wrap_i64];omega
 have x2:IntKind.i64.wrap (x - 1023+bi)=x - 1023+bi:=by rw [IntKind.wrap_i64];omega
 have x3:IntKind.i64.wrap (-f) = -f:=by rw [IntKind.wrap_i64];omega
 obtain ⟨X,hX⟩:∃ X,x - 1023+bi=X:=⟨_,rfl⟩
 rw [hX] at x2
 have hXr : -1023≤X∧X≤2047:=by omega
 by_cases qa:t≤X
 · refine ⟨0,false,0,⟨by unfold U64;omega,fun _=>by omega⟩,fun w=>?_⟩
   go_enter Tryz.func54,Tryz.ntmps54
   go_wp2_with (first
    | (go_at_call 92;refine (HOf.out _).mono ?_;rintro ee w1 ⟨rfl,hb1⟩;have R1:=Row3.new w1 168 (.int .i64 a) (.int .i64 e) (.int .i64 f);have hb1:=hb1.alloc hb1.size (.cells #[.int .i64 a,.int .i64 e,.int .i64 f] 168))
    | (go_at_call 97;refine (Qa1 _).mono ?_;rintro ee w2 ⟨rfl,hb2⟩;have R2:=R1.below hb2;have hb2:=hb1.trans (hb2.mono hb1.size))
    | (go_at_call 93;refine (HS.out _).mono ?_;rintro ee w3 ⟨rfl,hb3⟩;have R3:=(R2.below hb3).alloc (.cells #[.bool neg,.int .i64 x,.int .u64 y] 172);have S3:=Row3.new w3 172 (.bool neg) (.int .i64 x) (.int .u64 y);have c0:=R3.c0;have c1:=R3.c1;have c2:=R3.c2;have hb4:=hb2.trans (hb3.mono hb2.size);have hq4:=hb4.size;have hb5:=hb4.alloc hb4.size (.cells #[.bool neg,.int .i64 x,.int .u64 y] 172))
    | (go_at_call 99;refine (HT.out _).mono ?_;rintro ee w6 ⟨rfl,hb6⟩;have R6:=R3.below hb6;have S6:=S3.below hb6;have hB6:=hb5.trans (hb6.mono hb5.size);have hne:w1.heap.size ≠ w3.heap.size:=(by have:=R1.lt;have:=R2.lt;have:=hb3.size;omega)))
   obtain ⟨q7,hq7⟩:∃ q,w1.heap.size=q:=⟨_,rfl⟩
   obtain ⟨q9,hq9⟩:∃ q,w3.heap.size=q:=⟨_,rfl⟩
   rw [hq7] at R6 hne
   rw [hq9] at S6 hne hq4
   rw [hq7,hq9]
   clear R1 hb1 R2 hb2 R3 S3 c0 c1 c2 hb4 hb5 hq7 hq9
   have HR6:=Lib.hid R6
   have HS6:=Lib.hid S6
   have HB6:=Lib.hid hB6
   clear R6 S6 hB6
   go_loopw [33] (fun i wr=>∃ k:Nat,k≤2∧i=.int .i64 k∧Hid (Row3 wr q7 168 (.int .i64 a) (.int .i64 e) (.int .i64 f))∧Hid (Row3 wr q9 172 (.bool neg) (.int .i64 x) (.int .u64 y))∧Hid (Below w.heap.size w wr)) (fun i _=>3 - (intOf i).toNat)
   case atStart=>exact ⟨0,by omega,rfl,HR6,HS6,HB6⟩
   case round =>
    clear HR6 HS6 HB6
    obtain ⟨k,hk,rfl,HR,HS1,HB1⟩:=hrel
    have c0:=HR.out.c0
    have c1:=HR.out.c1
    have c2:=HR.out.c2
    have d0:=HS1.out.c0
    have d1:=HS1.out.c1
    have d2:=HS1.out.c2
    have d3:=HS1.out.fz 0
    have d4:=HS1.out.fz 1
    have d5:=HS1.out.fz 2
    obtain rfl | rfl | rfl:k=0 ∨ k=1 ∨ k=2:=by omega
    · go_wp2_with fail
      have l0:∀ p:Gb wr,p.wd.cell? ⟨q7,0,none⟩=some (.int .i64 a):=fun p=>p.cell c0
      have l1:∀ p:Gb wr,p.wd.cell? ⟨q7,1,none⟩=some (.int .i64 e):=fun p=>p.cell c1
      have l2:∀ p:Gb wr,p.wd.cell? ⟨q7,2,none⟩=some (.int .i64 f):=fun p=>p.cell c2
      have m0:∀ p:Gb wr,p.wd.cell? ⟨q9,0,none⟩=some (.bool neg):=fun p=>p.cell d0
      have m2:∀ p:Gb wr,p.wd.cell? ⟨q9,2,none⟩=some (.int .u64 y):=fun p=>p.cell d2
      refine Qal (by kernel_rfl) (by kernel_rfl) ?_
      repeat (quiet_step ((go_at_call 98;refine Calls.gb_of (HJ0.out _))))
      refine wpQuiet_nil ?_
      intro _ hw'
      obtain ⟨gq,hw''⟩:=hw'
      subst hw''
      have R7:=HR.out.below gq.below
      have S7:=HS1.out.below gq.below
      have hB7:=HB1.out.trans (gq.below.mono HB1.out.size)
      go_wp2_with (go_at_call 53;refine (HW0.out _).mono ?_;rintro ee w8 ⟨rfl,hb8⟩;have R8:=R7.below hb8;have S8:=S7.below hb8;have hB8:=hB7.trans (hb8.mono hB7.size))
      go_roundw
      case rel=>exact ⟨1,by omega,by go_num,R8,S8,hB8⟩
      case measure=>simp [intOf]
    · go_wp2_with fail
      have l0:∀ p:Gb wr,p.wd.cell? ⟨q7,0,none⟩=some (.int .i64 a):=fun p=>p.cell c0
      have l1:∀ p:Gb wr,p.wd.cell? ⟨q7,1,none⟩=some (.int .i64 e):=fun p=>p.cell c1
      have l2:∀ p:Gb wr,p.wd.cell? ⟨q7,2,none⟩=some (.int .i64 f):=fun p=>p.cell c2
      have m0:∀ p:Gb wr,p.wd.cell? ⟨q9,0,none⟩=some (.bool neg):=fun p=>p.cell d0
      have m2:∀ p:Gb wr,p.wd.cell? ⟨q9,2,none⟩=some (.int .u64 y):=fun p=>p.cell d2
      refine Qal (by kernel_rfl) (by kernel_rfl) ?_
      repeat (quiet_step ((go_at_call 98;refine Calls.gb_of (HJ1.out _))))
      refine wpQuiet_nil ?_
      intro _ hw'
      obtain ⟨gq,hw''⟩:=hw'
      subst hw''
      have R7:=HR.out.below gq.below
      have S7:=HS1.out.below gq.below
      have hB7:=HB1.out.trans (gq.below.mono HB1.out.size)
      go_wp2_with (go_at_call 53;refine (HW1.out _).mono ?_;rintro ee w8 ⟨rfl,hb8⟩;have R8:=R7.below hb8;have S8:=S7.below hb8;have hB8:=hB7.trans (hb8.mono hB7.size))
      go_roundw
      case rel=>exact ⟨2,by omega,by go_num,R8,S8,hB8⟩
      case measure=>simp [intOf]
    ·
     go_wp2_with fail
     have l0:∀ p:Gb wr,p.wd.cell? ⟨q7,0,none⟩=some (.int .i64 a):=fun p=>p.cell c0
     have l1:∀ p:Gb wr,p.wd.cell? ⟨q7,1,none⟩=some (.int .i64 e):=fun p=>p.cell c1
     have l2:∀ p:Gb wr,p.wd.cell? ⟨q7,2,none⟩=some (.int .i64 f):=fun p=>p.cell c2
     have m1:∀ p:Gb wr,p.wd.cell? ⟨q9,1,none⟩=some (.int .i64 x):=fun p=>p.cell d1
     refine Qal (by kernel_rfl) (by kernel_rfl) ?_
     repeat (quiet_step ((go_at_call 95;refine Calls.gb_of (HB.out _))))
     refine wpQuiet_nil ?_
     intro _ hw'
     obtain ⟨gq,hw''⟩:=hw'
     subst hw''
     have R7:=HR.out.below gq.below
     have S7:=HS1.out.below gq.below
     have hB7:=HB1.out.trans (gq.below.mono HB1.out.size)
     have c0:=R7.c0
     have c1:=R7.c1
     have c2:=R7.c2
     go_wp2_with (go_at_call 99;refine (HT.out _).mono ?_;rintro ee w8 ⟨rfl,hb8⟩;have R8:=R7.below hb8;have S8:=S7.below hb8;have hB8:=hB7.trans (hb8.mono hB7.size);have c0:=R8.c0;have c1:=R8.c1;have c2:=R8.c2;have d0:=S8.c0;have d1:=S8.c1;have d2:=S8.c2;have d3:=S8.fz 0;have d4:=S8.fz 1;have d5:=S8.fz 2)
     exact bodyPost_ret (v:=.tuple #[.int .u64 0,.bool false,.int .i64 0]) (by simp [results,Tryz.results54,go_sem]) rfl ⟨rfl,hB8⟩
 by_cases qb:X≤-f
 · have qa':¬ t≤X:=qa
   refine ⟨0,false,0,⟨by unfold U64;omega,fun _=>by omega⟩,fun w=>?_⟩
   go_enter Tryz.func54,Tryz.ntmps54
   go_wp2_with (first
    | (go_at_call 92;refine (HOf.out _).mono ?_;rintro ee w1 ⟨rfl,hb1⟩;have R1:=Row3.new w1 168 (.int .i64 a) (.int .i64 e) (.int .i64 f);have hb1:=hb1.alloc hb1.size (.cells #[.int .i64 a,.int .i64 e,.int .i64 f] 168))
    | (go_at_call 97;refine (Qa1 _).mono ?_;rintro ee w2 ⟨rfl,hb2⟩;have R2:=R1.below hb2;have hb2:=hb1.trans (hb2.mono hb1.size))
    | (go_at_call 93;refine (HS.out _).mono ?_;rintro ee w3 ⟨rfl,hb3⟩;have R3:=(R2.below hb3).alloc (.cells #[.bool neg,.int .i64 x,.int .u64 y] 172);have S3:=Row3.new w3 172 (.bool neg) (.int .i64 x) (.int .u64 y);have c0:=R3.c0;have c1:=R3.c1;have c2:=R3.c2;have hb4:=hb2.trans (hb3.mono hb2.size);have hq4:=hb4.size;have hb5:=hb4.alloc hb4.size (.cells #[.bool neg,.int .i64 x,.int .u64 y] 172))
    | (go_at_call 99;refine (HT.out _).mono ?_;rintro ee w6 ⟨rfl,hb6⟩;have R6:=R3.below hb6;have S6:=S3.below hb6;have hB6:=hb5.trans (hb6.mono hb5.size);have hne:w1.heap.size ≠ w3.heap.size:=(by have:=R1.lt;have:=R2.lt;have:=hb3.size;omega)))
   obtain ⟨q7,hq7⟩:∃ q,w1.heap.size=q:=⟨_,rfl⟩
   obtain ⟨q9,hq9⟩:∃ q,w3.heap.size=q:=⟨_,rfl⟩
   rw [hq7] at R6 hne
   rw [hq9] at S6 hne hq4
   rw [hq7,hq9]
   clear R1 hb1 R2 hb2 R3 S3 c0 c1 c2 hb4 hb5 hq7 hq9
   have HR6:=Lib.hid R6
   have HS6:=Lib.hid S6
   have HB6:=Lib.hid hB6
   clear R6 S6 hB6
   go_loopw [33] (fun i wr=>∃ k:Nat,k≤2∧i=.int .i64 k∧Hid (Row3 wr q7 168 (.int .i64 a) (.int .i64 e) (.int .i64 f))∧Hid (Row3 wr q9 172 (.bool neg) (.int .i64 x) (.int .u64 y))∧Hid (Below w.heap.size w wr)) (fun i _=>3 - (intOf i).toNat)
   case atStart=>exact ⟨0,by omega,rfl,HR6,HS6,HB6⟩
   case round =>
    clear HR6 HS6 HB6
    obtain ⟨k,hk,rfl,HR,HS1,HB1⟩:=hrel
    have c0:=HR.out.c0
    have c1:=HR.out.c1
    have c2:=HR.out.c2
    have d0:=HS1.out.c0
    have d1:=HS1.out.c1
    have d2:=HS1.out.c2
    have d3:=HS1.out.fz 0
    have d4:=HS1.out.fz 1
    have d5:=HS1.out.fz 2
    obtain rfl | rfl | rfl:k=0 ∨ k=1 ∨ k=2:=by omega
    · go_wp2_with fail
      have l0:∀ p:Gb wr,p.wd.cell? ⟨q7,0,none⟩=some (.int .i64 a):=fun p=>p.cell c0
      have l1:∀ p:Gb wr,p.wd.cell? ⟨q7,1,none⟩=some (.int .i64 e):=fun p=>p.cell c1
      have l2:∀ p:Gb wr,p.wd.cell? ⟨q7,2,none⟩=some (.int .i64 f):=fun p=>p.cell c2
      have m0:∀ p:Gb wr,p.wd.cell? ⟨q9,0,none⟩=some (.bool neg):=fun p=>p.cell d0
      have m2:∀ p:Gb wr,p.wd.cell? ⟨q9,2,none⟩=some (.int .u64 y):=fun p=>p.cell d2
      refine Qal (by kernel_rfl) (by kernel_rfl) ?_
      repeat (quiet_step ((go_at_call 98;refine Calls.gb_of (HJ0.out _))))
      refine wpQuiet_nil ?_
      intro _ hw'
      obtain ⟨gq,hw''⟩:=hw'
      subst hw''
      have R7:=HR.out.below gq.below
      have S7:=HS1.out.below gq.below
      have hB7:=HB1.out.trans (gq.below.mono HB1.out.size)
      go_wp2_with (go_at_call 53;refine (HW0.out _).mono ?_;rintro ee w8 ⟨rfl,hb8⟩;have R8:=R7.below hb8;have S8:=S7.below hb8;have hB8:=hB7.trans (hb8.mono hB7.size))
      go_roundw
      case rel=>exact ⟨1,by omega,by go_num,R8,S8,hB8⟩
      case measure=>simp [intOf]
    · go_wp2_with fail
      have l0:∀ p:Gb wr,p.wd.cell? ⟨q7,0,none⟩=some (.int .i64 a):=fun p=>p.cell c0
      have l1:∀ p:Gb wr,p.wd.cell? ⟨q7,1,none⟩=some (.int .i64 e):=fun p=>p.cell c1
      have l2:∀ p:Gb wr,p.wd.cell? ⟨q7,2,none⟩=some (.int .i64 f):=fun p=>p.cell c2
      have m0:∀ p:Gb wr,p.wd.cell? ⟨q9,0,none⟩=some (.bool neg):=fun p=>p.cell d0
      have m2:∀ p:Gb wr,p.wd.cell? ⟨q9,2,none⟩=some (.int .u64 y):=fun p=>p.cell d2
      refine Qal (by kernel_rfl) (by kernel_rfl) ?_
      repeat (quiet_step ((go_at_call 98;refine Calls.gb_of (HJ1.out _))))
      refine wpQuiet_nil ?_
      intro _ hw'
      obtain ⟨gq,hw''⟩:=hw'
      subst hw''
      have R7:=HR.out.below gq.below
      have S7:=HS1.out.below gq.below
      have hB7:=HB1.out.trans (gq.below.mono HB1.out.size)
      go_wp2_with (go_at_call 53;refine (HW1.out _).mono ?_;rintro ee w8 ⟨rfl,hb8⟩;have R8:=R7.below hb8;have S8:=S7.below hb8;have hB8:=hB7.trans (hb8.mono hB7.size))
      go_roundw
      case rel=>exact ⟨2,by omega,by go_num,R8,S8,hB8⟩
      case measure=>simp [intOf]
    ·
     go_wp2_with fail
     have l0:∀ p:Gb wr,p.wd.cell? ⟨q7,0,none⟩=some (.int .i64 a):=fun p=>p.cell c0
     have l1:∀ p:Gb wr,p.wd.cell? ⟨q7,1,none⟩=some (.int .i64 e):=fun p=>p.cell c1
     have l2:∀ p:Gb wr,p.wd.cell? ⟨q7,2,none⟩=some (.int .i64 f):=fun p=>p.cell c2
     have m1:∀ p:Gb wr,p.wd.cell? ⟨q9,1,none⟩=some (.int .i64 x):=fun p=>p.cell d1
     refine Qal (by kernel_rfl) (by kernel_rfl) ?_
     repeat (quiet_step ((go_at_call 95;refine Calls.gb_of (HB.out _))))
     refine wpQuiet_nil ?_
     intro _ hw'
     obtain ⟨gq,hw''⟩:=hw'
     subst hw''
     have R7:=HR.out.below gq.below
     have S7:=HS1.out.below gq.below
     have hB7:=HB1.out.trans (gq.below.mono HB1.out.size)
     have c0:=R7.c0
     have c1:=R7.c1
     have c2:=R7.c2
     go_wp2_with (go_at_call 99;refine (HT.out _).mono ?_;rintro ee w8 ⟨rfl,hb8⟩;have R8:=R7.below hb8;have S8:=S7.below hb8;have hB8:=hB7.trans (hb8.mono hB7.size);have c0:=R8.c0;have c1:=R8.c1;have c2:=R8.c2;have d0:=S8.c0;have d1:=S8.c1;have d2:=S8.c2;have d3:=S8.fz 0;have d4:=S8.fz 1;have d5:=S8.fz 2)
     exact bodyPost_ret (v:=.tuple #[.int .u64 0,.bool false,.int .i64 0]) (by simp [results,Tryz.results54,go_sem]) rfl ⟨rfl,hB8⟩
 have qa':¬ t≤X:=qa
 have qb':¬ X≤-f:=qb
 by_cases qc:0<X
 · obtain ⟨r2,⟨hr2,hr2q⟩,hJ2⟩:=join_lt h neg (X) (Z)
   have hr2q:=Lib.hid hr2q
   obtain ⟨v2,e2,hv2,hW2⟩:=Qb2 h r2 hr2
   have HJ2:=Lib.hid hJ2
   have HW2:=Lib.hid hW2
   clear hJ2 hW2
   by_cases q2:v2=b
   · have z2:(v2 != b)=false:=by simpa using q2
     clear q2
     refine ⟨r2,true,0,⟨hr2,fun h3=>hr2q.out h3 (by omega) (by have:=ht32.out h3;omega) (hZq.out h3).1 (hZq.out h3).2⟩,fun w=>?_⟩
     go_enter Tryz.func54,Tryz.ntmps54
     go_wp2_with (first
      | (go_at_call 92;refine (HOf.out _).mono ?_;rintro ee w1 ⟨rfl,hb1⟩;have R1:=Row3.new w1 168 (.int .i64 a) (.int .i64 e) (.int .i64 f);have hb1:=hb1.alloc hb1.size (.cells #[.int .i64 a,.int .i64 e,.int .i64 f] 168))
      | (go_at_call 97;refine (Qa1 _).mono ?_;rintro ee w2 ⟨rfl,hb2⟩;have R2:=R1.below hb2;have hb2:=hb1.trans (hb2.mono hb1.size))
      | (go_at_call 93;refine (HS.out _).mono ?_;rintro ee w3 ⟨rfl,hb3⟩;have R3:=(R2.below hb3).alloc (.cells #[.bool neg,.int .i64 x,.int .u64 y] 172);have S3:=Row3.new w3 172 (.bool neg) (.int .i64 x) (.int .u64 y);have c0:=R3.c0;have c1:=R3.c1;have c2:=R3.c2;have hb4:=hb2.trans (hb3.mono hb2.size);have hq4:=hb4.size;have hb5:=hb4.alloc hb4.size (.cells #[.bool neg,.int .i64 x,.int .u64 y] 172))
      | (go_at_call 99;refine (HT.out _).mono ?_;rintro ee w6 ⟨rfl,hb6⟩;have R6:=R3.below hb6;have S6:=S3.below hb6;have hB6:=hb5.trans (hb6.mono hb5.size);have hne:w1.heap.size ≠ w3.heap.size:=(by have:=R1.lt;have:=R2.lt;have:=hb3.size;omega)))
     obtain ⟨q7,hq7⟩:∃ q,w1.heap.size=q:=⟨_,rfl⟩
     obtain ⟨q9,hq9⟩:∃ q,w3.heap.size=q:=⟨_,rfl⟩
     rw [hq7] at R6 hne
     rw [hq9] at S6 hne hq4
     rw [hq7,hq9]
     clear R1 hb1 R2 hb2 R3 S3 c0 c1 c2 hb4 hb5 hq7 hq9
     have HR6:=Lib.hid R6
     have HS6:=Lib.hid S6
     have HB6:=Lib.hid hB6
     clear R6 S6 hB6
     go_loopw [33] (fun i wr=>∃ k:Nat,k≤2∧i=.int .i64 k∧Hid (Row3 wr q7 168 (.int .i64 a) (.int .i64 e) (.int .i64 f))∧Hid (Row3 wr q9 172 (.bool neg) (.int .i64 x) (.int .u64 y))∧Hid (Below w.heap.size w wr)) (fun i _=>3 - (intOf i).toNat)
     case atStart=>exact ⟨0,by omega,rfl,HR6,HS6,HB6⟩
     case round =>
      clear HR6 HS6 HB6
      obtain ⟨k,hk,rfl,HR,HS1,HB1⟩:=hrel
      have c0:=HR.out.c0
      have c1:=HR.out.c1
      have c2:=HR.out.c2
      have d0:=HS1.out.c0
      have d1:=HS1.out.c1
      have d2:=HS1.out.c2
      have d3:=HS1.out.fz 0
      have d4:=HS1.out.fz 1
      have d5:=HS1.out.fz 2
      obtain rfl | rfl | rfl:k=0 ∨ k=1 ∨ k=2:=by omega
      · go_wp2_with fail
        have l0:∀ p:Gb wr,p.wd.cell? ⟨q7,0,none⟩=some (.int .i64 a):=fun p=>p.cell c0
        have l1:∀ p:Gb wr,p.wd.cell? ⟨q7,1,none⟩=some (.int .i64 e):=fun p=>p.cell c1
        have l2:∀ p:Gb wr,p.wd.cell? ⟨q7,2,none⟩=some (.int .i64 f):=fun p=>p.cell c2
        have m0:∀ p:Gb wr,p.wd.cell? ⟨q9,0,none⟩=some (.bool neg):=fun p=>p.cell d0
        have m2:∀ p:Gb wr,p.wd.cell? ⟨q9,2,none⟩=some (.int .u64 y):=fun p=>p.cell d2
        refine Qal (by kernel_rfl) (by kernel_rfl) ?_
        repeat (quiet_step ((go_at_call 98;refine Calls.gb_of (HJ0.out _))))
        refine wpQuiet_nil ?_
        intro _ hw'
        obtain ⟨gq,hw''⟩:=hw'
        subst hw''
        have R7:=HR.out.below gq.below
        have S7:=HS1.out.below gq.below
        have hB7:=HB1.out.trans (gq.below.mono HB1.out.size)
        go_wp2_with (go_at_call 53;refine (HW0.out _).mono ?_;rintro ee w8 ⟨rfl,hb8⟩;have R8:=R7.below hb8;have S8:=S7.below hb8;have hB8:=hB7.trans (hb8.mono hB7.size))
        go_roundw
        case rel=>exact ⟨1,by omega,by go_num,R8,S8,hB8⟩
        case measure=>simp [intOf]
      · go_wp2_with fail
        have l0:∀ p:Gb wr,p.wd.cell? ⟨q7,0,none⟩=some (.int .i64 a):=fun p=>p.cell c0
        have l1:∀ p:Gb wr,p.wd.cell? ⟨q7,1,none⟩=some (.int .i64 e):=fun p=>p.cell c1
        have l2:∀ p:Gb wr,p.wd.cell? ⟨q7,2,none⟩=some (.int .i64 f):=fun p=>p.cell c2
        have m0:∀ p:Gb wr,p.wd.cell? ⟨q9,0,none⟩=some (.bool neg):=fun p=>p.cell d0
        have m2:∀ p:Gb wr,p.wd.cell? ⟨q9,2,none⟩=some (.int .u64 y):=fun p=>p.cell d2
        refine Qal (by kernel_rfl) (by kernel_rfl) ?_
        repeat (quiet_step ((go_at_call 98;refine Calls.gb_of (HJ1.out _))))
        refine wpQuiet_nil ?_
        intro _ hw'
        obtain ⟨gq,hw''⟩:=hw'
        subst hw''
        have R7:=HR.out.below gq.below
        have S7:=HS1.out.below gq.below
        have hB7:=HB1.out.trans (gq.below.mono HB1.out.size)
        go_wp2_with (go_at_call 53;refine (HW1.out _).mono ?_;rintro ee w8 ⟨rfl,hb8⟩;have R8:=R7.below hb8;have S8:=S7.below hb8;have hB8:=hB7.trans (hb8.mono hB7.size))
        go_roundw
        case rel=>exact ⟨2,by omega,by go_num,R8,S8,hB8⟩
        case measure=>simp [intOf]
      ·
       go_wp2_with fail
       have l0:∀ p:Gb wr,p.wd.cell? ⟨q7,0,none⟩=some (.int .i64 a):=fun p=>p.cell c0
       have l1:∀ p:Gb wr,p.wd.cell? ⟨q7,1,none⟩=some (.int .i64 e):=fun p=>p.cell c1
       have l2:∀ p:Gb wr,p.wd.cell? ⟨q7,2,none⟩=some (.int .i64 f):=fun p=>p.cell c2
       have m1:∀ p:Gb wr,p.wd.cell? ⟨q9,1,none⟩=some (.int .i64 x):=fun p=>p.cell d1
       refine Qal (by kernel_rfl) (by kernel_rfl) ?_
       repeat (quiet_step ((go_at_call 95;refine Calls.gb_of (HB.out _))))
       refine wpQuiet_nil ?_
       intro _ hw'
       obtain ⟨gq,hw''⟩:=hw'
       subst hw''
       have R7:=HR.out.below gq.below
       have S7:=HS1.out.below gq.below
       have hB7:=HB1.out.trans (gq.below.mono HB1.out.size)
       have c0:=R7.c0
       have c1:=R7.c1
       have c2:=R7.c2
       go_wp2_with (go_at_call 99;refine (HT.out _).mono ?_;rintro ee w8 ⟨rfl,hb8⟩;have R8:=R7.below hb8;have S8:=S7.below hb8;have hB8:=hB7.trans (hb8.mono hB7.size);have c0:=R8.c0;have c1:=R8.c1;have c2:=R8.c2;have d0:=S8.c0;have d1:=S8.c1;have d2:=S8.c2;have d3:=S8.fz 0;have d4:=S8.fz 1;have d5:=S8.fz 2)
       go_region
       have S9:=((S8.s0 (.bool neg)).s1 (.int .i64 (X))).s2 (.int .u64 (Z))
       have R9:Row3 ((((w8.setCell ⟨q9,0,none⟩ (.bool neg)).setCell ⟨q9,1,none⟩ (.int .i64 (X))).setCell ⟨q9,2,none⟩ (.int .u64 (Z)))) q7 168 (.int .i64 a) (.int .i64 e) (.int .i64 f):=by
        unfold Row3
        rw [Below.heap_setCell _ ⟨q9,2,none⟩ _ q7 hne,Below.heap_setCell _ ⟨q9,1,none⟩ _ q7 hne,Below.heap_setCell _ ⟨q9,0,none⟩ _ q7 hne]
        exact R8
       have hB9:=((hB8.setCell (p:=⟨q9,0,none⟩) hq4 (.bool neg)).setCell (p:=⟨q9,1,none⟩) hq4 (.int .i64 (X))).setCell (p:=⟨q9,2,none⟩) hq4 (.int .u64 (Z))
       generalize ((w8.setCell ⟨q9,0,none⟩ (.bool neg)).setCell ⟨q9,1,none⟩ (.int .i64 (X))).setCell ⟨q9,2,none⟩ (.int .u64 (Z))=W9 at S9 R9 hB9 ⊢
       have c0:=R9.c0
       have c1:=R9.c1
       have c2:=R9.c2
       have g0:=S9.c0
       have g1:=S9.c1
       have g2:=S9.c2
       have hB9:=hB9.drew
       go_wp2_with (first
        | (go_at_call 98;refine (HJ2.out _).mono ?_;rintro ee w10 ⟨rfl,hb10⟩;have hB10:=hB9.trans (hb10.mono hB9.size))
        | (go_at_call 53;refine (HW2.out _).mono ?_;rintro ee w11 ⟨rfl,hb11⟩;have hB11:=hB10.trans (hb11.mono hB10.size)))
       exact bodyPost_ret (v:=.tuple #[.int .u64 r2,.bool true,.int .i64 0]) (by simp [results,Tryz.results54,go_sem]) rfl ⟨rfl,hB11⟩
   have z2:(v2 != b)=true:=by simpa using q2
   clear q2
   refine ⟨0,false,0,⟨by unfold U64;omega,fun _=>by omega⟩,fun w=>?_⟩
   go_enter Tryz.func54,Tryz.ntmps54
   go_wp2_with (first
    | (go_at_call 92;refine (HOf.out _).mono ?_;rintro ee w1 ⟨rfl,hb1⟩;have R1:=Row3.new w1 168 (.int .i64 a) (.int .i64 e) (.int .i64 f);have hb1:=hb1.alloc hb1.size (.cells #[.int .i64 a,.int .i64 e,.int .i64 f] 168))
    | (go_at_call 97;refine (Qa1 _).mono ?_;rintro ee w2 ⟨rfl,hb2⟩;have R2:=R1.below hb2;have hb2:=hb1.trans (hb2.mono hb1.size))
    | (go_at_call 93;refine (HS.out _).mono ?_;rintro ee w3 ⟨rfl,hb3⟩;have R3:=(R2.below hb3).alloc (.cells #[.bool neg,.int .i64 x,.int .u64 y] 172);have S3:=Row3.new w3 172 (.bool neg) (.int .i64 x) (.int .u64 y);have c0:=R3.c0;have c1:=R3.c1;have c2:=R3.c2;have hb4:=hb2.trans (hb3.mono hb2.size);have hq4:=hb4.size;have hb5:=hb4.alloc hb4.size (.cells #[.bool neg,.int .i64 x,.int .u64 y] 172))
    | (go_at_call 99;refine (HT.out _).mono ?_;rintro ee w6 ⟨rfl,hb6⟩;have R6:=R3.below hb6;have S6:=S3.below hb6;have hB6:=hb5.trans (hb6.mono hb5.size);have hne:w1.heap.size ≠ w3.heap.size:=(by have:=R1.lt;have:=R2.lt;have:=hb3.size;omega)))
   obtain ⟨q7,hq7⟩:∃ q,w1.heap.size=q:=⟨_,rfl⟩
   obtain ⟨q9,hq9⟩:∃ q,w3.heap.size=q:=⟨_,rfl⟩
   rw [hq7] at R6 hne
   rw [hq9] at S6 hne hq4
   rw [hq7,hq9]
   clear R1 hb1 R2 hb2 R3 S3 c0 c1 c2 hb4 hb5 hq7 hq9
   have HR6:=Lib.hid R6
   have HS6:=Lib.hid S6
   have HB6:=Lib.hid hB6
   clear R6 S6 hB6
   go_loopw [33] (fun i wr=>∃ k:Nat,k≤2∧i=.int .i64 k∧Hid (Row3 wr q7 168 (.int .i64 a) (.int .i64 e) (.int .i64 f))∧Hid (Row3 wr q9 172 (.bool neg) (.int .i64 x) (.int .u64 y))∧Hid (Below w.heap.size w wr)) (fun i _=>3 - (intOf i).toNat)
   case atStart=>exact ⟨0,by omega,rfl,HR6,HS6,HB6⟩
   case round =>
    clear HR6 HS6 HB6
    obtain ⟨k,hk,rfl,HR,HS1,HB1⟩:=hrel
    have c0:=HR.out.c0
    have c1:=HR.out.c1
    have c2:=HR.out.c2
    have d0:=HS1.out.c0
    have d1:=HS1.out.c1
    have d2:=HS1.out.c2
    have d3:=HS1.out.fz 0
    have d4:=HS1.out.fz 1
    have d5:=HS1.out.fz 2
    obtain rfl | rfl | rfl:k=0 ∨ k=1 ∨ k=2:=by omega
    · go_wp2_with fail
      have l0:∀ p:Gb wr,p.wd.cell? ⟨q7,0,none⟩=some (.int .i64 a):=fun p=>p.cell c0
      have l1:∀ p:Gb wr,p.wd.cell? ⟨q7,1,none⟩=some (.int .i64 e):=fun p=>p.cell c1
      have l2:∀ p:Gb wr,p.wd.cell? ⟨q7,2,none⟩=some (.int .i64 f):=fun p=>p.cell c2
      have m0:∀ p:Gb wr,p.wd.cell? ⟨q9,0,none⟩=some (.bool neg):=fun p=>p.cell d0
      have m2:∀ p:Gb wr,p.wd.cell? ⟨q9,2,none⟩=some (.int .u64 y):=fun p=>p.cell d2
      refine Qal (by kernel_rfl) (by kernel_rfl) ?_
      repeat (quiet_step ((go_at_call 98;refine Calls.gb_of (HJ0.out _))))
      refine wpQuiet_nil ?_
      intro _ hw'
      obtain ⟨gq,hw''⟩:=hw'
      subst hw''
      have R7:=HR.out.below gq.below
      have S7:=HS1.out.below gq.below
      have hB7:=HB1.out.trans (gq.below.mono HB1.out.size)
      go_wp2_with (go_at_call 53;refine (HW0.out _).mono ?_;rintro ee w8 ⟨rfl,hb8⟩;have R8:=R7.below hb8;have S8:=S7.below hb8;have hB8:=hB7.trans (hb8.mono hB7.size))
      go_roundw
      case rel=>exact ⟨1,by omega,by go_num,R8,S8,hB8⟩
      case measure=>simp [intOf]
    · go_wp2_with fail
      have l0:∀ p:Gb wr,p.wd.cell? ⟨q7,0,none⟩=some (.int .i64 a):=fun p=>p.cell c0
      have l1:∀ p:Gb wr,p.wd.cell? ⟨q7,1,none⟩=some (.int .i64 e):=fun p=>p.cell c1
      have l2:∀ p:Gb wr,p.wd.cell? ⟨q7,2,none⟩=some (.int .i64 f):=fun p=>p.cell c2
      have m0:∀ p:Gb wr,p.wd.cell? ⟨q9,0,none⟩=some (.bool neg):=fun p=>p.cell d0
      have m2:∀ p:Gb wr,p.wd.cell? ⟨q9,2,none⟩=some (.int .u64 y):=fun p=>p.cell d2
      refine Qal (by kernel_rfl) (by kernel_rfl) ?_
      repeat (quiet_step ((go_at_call 98;refine Calls.gb_of (HJ1.out _))))
      refine wpQuiet_nil ?_
      intro _ hw'
      obtain ⟨gq,hw''⟩:=hw'
      subst hw''
      have R7:=HR.out.below gq.below
      have S7:=HS1.out.below gq.below
      have hB7:=HB1.out.trans (gq.below.mono HB1.out.size)
      go_wp2_with (go_at_call 53;refine (HW1.out _).mono ?_;rintro ee w8 ⟨rfl,hb8⟩;have R8:=R7.below hb8;have S8:=S7.below hb8;have hB8:=hB7.trans (hb8.mono hB7.size))
      go_roundw
      case rel=>exact ⟨2,by omega,by go_num,R8,S8,hB8⟩
      case measure=>simp [intOf]
    ·
     go_wp2_with fail
     have l0:∀ p:Gb wr,p.wd.cell? ⟨q7,0,none⟩=some (.int .i64 a):=fun p=>p.cell c0
     have l1:∀ p:Gb wr,p.wd.cell? ⟨q7,1,none⟩=some (.int .i64 e):=fun p=>p.cell c1
     have l2:∀ p:Gb wr,p.wd.cell? ⟨q7,2,none⟩=some (.int .i64 f):=fun p=>p.cell c2
     have m1:∀ p:Gb wr,p.wd.cell? ⟨q9,1,none⟩=some (.int .i64 x):=fun p=>p.cell d1
     refine Qal (by kernel_rfl) (by kernel_rfl) ?_
     repeat (quiet_step ((go_at_call 95;refine Calls.gb_of (HB.out _))))
     refine wpQuiet_nil ?_
     intro _ hw'
     obtain ⟨gq,hw''⟩:=hw'
     subst hw''
     have R7:=HR.out.below gq.below
     have S7:=HS1.out.below gq.below
     have hB7:=HB1.out.trans (gq.below.mono HB1.out.size)
     have c0:=R7.c0
     have c1:=R7.c1
     have c2:=R7.c2
     go_wp2_with (go_at_call 99;refine (HT.out _).mono ?_;rintro ee w8 ⟨rfl,hb8⟩;have R8:=R7.below hb8;have S8:=S7.below hb8;have hB8:=hB7.trans (hb8.mono hB7.size);have c0:=R8.c0;have c1:=R8.c1;have c2:=R8.c2;have d0:=S8.c0;have d1:=S8.c1;have d2:=S8.c2;have d3:=S8.fz 0;have d4:=S8.fz 1;have d5:=S8.fz 2)
     go_region
     have S9:=((S8.s0 (.bool neg)).s1 (.int .i64 (X))).s2 (.int .u64 (Z))
     have R9:Row3 ((((w8.setCell ⟨q9,0,none⟩ (.bool neg)).setCell ⟨q9,1,none⟩ (.int .i64 (X))).setCell ⟨q9,2,none⟩ (.int .u64 (Z)))) q7 168 (.int .i64 a) (.int .i64 e) (.int .i64 f):=by
      unfold Row3
      rw [Below.heap_setCell _ ⟨q9,2,none⟩ _ q7 hne,Below.heap_setCell _ ⟨q9,1,none⟩ _ q7 hne,Below.heap_setCell _ ⟨q9,0,none⟩ _ q7 hne]
      exact R8
     have hB9:=((hB8.setCell (p:=⟨q9,0,none⟩) hq4 (.bool neg)).setCell (p:=⟨q9,1,none⟩) hq4 (.int .i64 (X))).setCell (p:=⟨q9,2,none⟩) hq4 (.int .u64 (Z))
     generalize ((w8.setCell ⟨q9,0,none⟩ (.bool neg)).setCell ⟨q9,1,none⟩ (.int .i64 (X))).setCell ⟨q9,2,none⟩ (.int .u64 (Z))=W9 at S9 R9 hB9 ⊢
     have c0:=R9.c0
     have c1:=R9.c1
     have c2:=R9.c2
     have g0:=S9.c0
     have g1:=S9.c1
     have g2:=S9.c2
     have hB9:=hB9.drew
     go_wp2_with (first
      | (go_at_call 98;refine (HJ2.out _).mono ?_;rintro ee w10 ⟨rfl,hb10⟩;have hB10:=hB9.trans (hb10.mono hB9.size))
      | (go_at_call 53;refine (HW2.out _).mono ?_;rintro ee w11 ⟨rfl,hb11⟩;have hB11:=hB10.trans (hb11.mono hB10.size)))
     exact bodyPost_ret (v:=.tuple #[.int .u64 0,.bool false,.int .i64 0]) (by simp [results,Tryz.results54,go_sem]) rfl ⟨rfl,hB11⟩
 have qc':¬ 0<X:=qc
 have n1:IntKind.i64.wrap (52 - f+1)=52 - f+1:=by rw [IntKind.wrap_i64];omega
 have n2:IntKind.i64.wrap (52 - f+1 - X)=52 - f+1 - X:=by rw [IntKind.wrap_i64];omega
 have n3:(0:Int)≤52 - f+1 - X:=by omega
 have n4:¬ (52 - f+1 - X<0):=by omega
 obtain ⟨Y,hY⟩:∃ Y,Go.bits .or .u64 y 4503599627370496=Y:=⟨_,rfl⟩
 obtain ⟨Z2,hZ2⟩:∃ Z2,Y / 2 ^ (52 - f+1 - X).toNat=Z2:=⟨_,rfl⟩
 have hZ2q:=Lib.hid (sh32b hW3 hy qc' hY hZ2)
 obtain ⟨r2,⟨hr2,hr2q⟩,hJ2⟩:=join_lt h neg (0) (Z2)
 have hr2q:=Lib.hid hr2q
 obtain ⟨v2,e2,hv2,hW2⟩:=Qb2 h r2 hr2
 have HJ2:=Lib.hid hJ2
 have HW2:=Lib.hid hW2
 clear hJ2 hW2
 by_cases q2:v2=b
 · have z2:(v2 != b)=false:=by simpa using q2
   clear q2
   refine ⟨r2,true,0,⟨hr2,fun h3=>hr2q.out h3 (by decide) (by decide) (hZ2q.out h3).1 (hZ2q.out h3).2⟩,fun w=>?_⟩
   go_enter Tryz.func54,Tryz.ntmps54
   go_wp2_with (first
    | (go_at_call 92;refine (HOf.out _).mono ?_;rintro ee w1 ⟨rfl,hb1⟩;have R1:=Row3.new w1 168 (.int .i64 a) (.int .i64 e) (.int .i64 f);have hb1:=hb1.alloc hb1.size (.cells #[.int .i64 a,.int .i64 e,.int .i64 f] 168))
    | (go_at_call 97;refine (Qa1 _).mono ?_;rintro ee w2 ⟨rfl,hb2⟩;have R2:=R1.below hb2;have hb2:=hb1.trans (hb2.mono hb1.size))
    | (go_at_call 93;refine (HS.out _).mono ?_;rintro ee w3 ⟨rfl,hb3⟩;have R3:=(R2.below hb3).alloc (.cells #[.bool neg,.int .i64 x,.int .u64 y] 172);have S3:=Row3.new w3 172 (.bool neg) (.int .i64 x) (.int .u64 y);have c0:=R3.c0;have c1:=R3.c1;have c2:=R3.c2;have hb4:=hb2.trans (hb3.mono hb2.size);have hq4:=hb4.size;have hb5:=hb4.alloc hb4.size (.cells #[.bool neg,.int .i64 x,.int .u64 y] 172))
    | (go_at_call 99;refine (HT.out _).mono ?_;rintro ee w6 ⟨rfl,hb6⟩;have R6:=R3.below hb6;have S6:=S3.below hb6;have hB6:=hb5.trans (hb6.mono hb5.size);have hne:w1.heap.size ≠ w3.heap.size:=(by have:=R1.lt;have:=R2.lt;have:=hb3.size;omega)))
   obtain ⟨q7,hq7⟩:∃ q,w1.heap.size=q:=⟨_,rfl⟩
   obtain ⟨q9,hq9⟩:∃ q,w3.heap.size=q:=⟨_,rfl⟩
   rw [hq7] at R6 hne
   rw [hq9] at S6 hne hq4
   rw [hq7,hq9]
   clear R1 hb1 R2 hb2 R3 S3 c0 c1 c2 hb4 hb5 hq7 hq9
   have HR6:=Lib.hid R6
   have HS6:=Lib.hid S6
   have HB6:=Lib.hid hB6
   clear R6 S6 hB6
   go_loopw [33] (fun i wr=>∃ k:Nat,k≤2∧i=.int .i64 k∧Hid (Row3 wr q7 168 (.int .i64 a) (.int .i64 e) (.int .i64 f))∧Hid (Row3 wr q9 172 (.bool neg) (.int .i64 x) (.int .u64 y))∧Hid (Below w.heap.size w wr)) (fun i _=>3 - (intOf i).toNat)
   case atStart=>exact ⟨0,by omega,rfl,HR6,HS6,HB6⟩
   case round =>
    clear HR6 HS6 HB6
    obtain ⟨k,hk,rfl,HR,HS1,HB1⟩:=hrel
    have c0:=HR.out.c0
    have c1:=HR.out.c1
    have c2:=HR.out.c2
    have d0:=HS1.out.c0
    have d1:=HS1.out.c1
    have d2:=HS1.out.c2
    have d3:=HS1.out.fz 0
    have d4:=HS1.out.fz 1
    have d5:=HS1.out.fz 2
    obtain rfl | rfl | rfl:k=0 ∨ k=1 ∨ k=2:=by omega
    · go_wp2_with fail
      have l0:∀ p:Gb wr,p.wd.cell? ⟨q7,0,none⟩=some (.int .i64 a):=fun p=>p.cell c0
      have l1:∀ p:Gb wr,p.wd.cell? ⟨q7,1,none⟩=some (.int .i64 e):=fun p=>p.cell c1
      have l2:∀ p:Gb wr,p.wd.cell? ⟨q7,2,none⟩=some (.int .i64 f):=fun p=>p.cell c2
      have m0:∀ p:Gb wr,p.wd.cell? ⟨q9,0,none⟩=some (.bool neg):=fun p=>p.cell d0
      have m2:∀ p:Gb wr,p.wd.cell? ⟨q9,2,none⟩=some (.int .u64 y):=fun p=>p.cell d2
      refine Qal (by kernel_rfl) (by kernel_rfl) ?_
      repeat (quiet_step ((go_at_call 98;refine Calls.gb_of (HJ0.out _))))
      refine wpQuiet_nil ?_
      intro _ hw'
      obtain ⟨gq,hw''⟩:=hw'
      subst hw''
      have R7:=HR.out.below gq.below
      have S7:=HS1.out.below gq.below
      have hB7:=HB1.out.trans (gq.below.mono HB1.out.size)
      go_wp2_with (go_at_call 53;refine (HW0.out _).mono ?_;rintro ee w8 ⟨rfl,hb8⟩;have R8:=R7.below hb8;have S8:=S7.below hb8;have hB8:=hB7.trans (hb8.mono hB7.size))
      go_roundw
      case rel=>exact ⟨1,by omega,by go_num,R8,S8,hB8⟩
      case measure=>simp [intOf]
    · go_wp2_with fail
      have l0:∀ p:Gb wr,p.wd.cell? ⟨q7,0,none⟩=some (.int .i64 a):=fun p=>p.cell c0
      have l1:∀ p:Gb wr,p.wd.cell? ⟨q7,1,none⟩=some (.int .i64 e):=fun p=>p.cell c1
      have l2:∀ p:Gb wr,p.wd.cell? ⟨q7,2,none⟩=some (.int .i64 f):=fun p=>p.cell c2
      have m0:∀ p:Gb wr,p.wd.cell? ⟨q9,0,none⟩=some (.bool neg):=fun p=>p.cell d0
      have m2:∀ p:Gb wr,p.wd.cell? ⟨q9,2,none⟩=some (.int .u64 y):=fun p=>p.cell d2
      refine Qal (by kernel_rfl) (by kernel_rfl) ?_
      repeat (quiet_step ((go_at_call 98;refine Calls.gb_of (HJ1.out _))))
      refine wpQuiet_nil ?_
      intro _ hw'
      obtain ⟨gq,hw''⟩:=hw'
      subst hw''
      have R7:=HR.out.below gq.below
      have S7:=HS1.out.below gq.below
      have hB7:=HB1.out.trans (gq.below.mono HB1.out.size)
      go_wp2_with (go_at_call 53;refine (HW1.out _).mono ?_;rintro ee w8 ⟨rfl,hb8⟩;have R8:=R7.below hb8;have S8:=S7.below hb8;have hB8:=hB7.trans (hb8.mono hB7.size))
      go_roundw
      case rel=>exact ⟨2,by omega,by go_num,R8,S8,hB8⟩
      case measure=>simp [intOf]
    ·
     go_wp2_with fail
     have l0:∀ p:Gb wr,p.wd.cell? ⟨q7,0,none⟩=some (.int .i64 a):=fun p=>p.cell c0
     have l1:∀ p:Gb wr,p.wd.cell? ⟨q7,1,none⟩=some (.int .i64 e):=fun p=>p.cell c1
     have l2:∀ p:Gb wr,p.wd.cell? ⟨q7,2,none⟩=some (.int .i64 f):=fun p=>p.cell c2
     have m1:∀ p:Gb wr,p.wd.cell? ⟨q9,1,none⟩=some (.int .i64 x):=fun p=>p.cell d1
     refine Qal (by kernel_rfl) (by kernel_rfl) ?_
     repeat (quiet_step ((go_at_call 95;refine Calls.gb_of (HB.out _))))
     refine wpQuiet_nil ?_
     intro _ hw'
     obtain ⟨gq,hw''⟩:=hw'
     subst hw''
     have R7:=HR.out.below gq.below
     have S7:=HS1.out.below gq.below
     have hB7:=HB1.out.trans (gq.below.mono HB1.out.size)
     have c0:=R7.c0
     have c1:=R7.c1
     have c2:=R7.c2
     go_wp2_with (go_at_call 99;refine (HT.out _).mono ?_;rintro ee w8 ⟨rfl,hb8⟩;have R8:=R7.below hb8;have S8:=S7.below hb8;have hB8:=hB7.trans (hb8.mono hB7.size);have c0:=R8.c0;have c1:=R8.c1;have c2:=R8.c2;have d0:=S8.c0;have d1:=S8.c1;have d2:=S8.c2;have d3:=S8.fz 0;have d4:=S8.fz 1;have d5:=S8.fz 2)
     go_region
     have S9:=((S8.s0 (.bool neg)).s1 (.int .i64 (0))).s2 (.int .u64 (Z2))
     have R9:Row3 ((((w8.setCell ⟨q9,0,none⟩ (.bool neg)).setCell ⟨q9,1,none⟩ (.int .i64 (0))).setCell ⟨q9,2,none⟩ (.int .u64 (Z2)))) q7 168 (.int .i64 a) (.int .i64 e) (.int .i64 f):=by
      unfold Row3
      rw [Below.heap_setCell _ ⟨q9,2,none⟩ _ q7 hne,Below.heap_setCell _ ⟨q9,1,none⟩ _ q7 hne,Below.heap_setCell _ ⟨q9,0,none⟩ _ q7 hne]
      exact R8
     have hB9:=((hB8.setCell (p:=⟨q9,0,none⟩) hq4 (.bool neg)).setCell (p:=⟨q9,1,none⟩) hq4 (.int .i64 (0))).setCell (p:=⟨q9,2,none⟩) hq4 (.int .u64 (Z2))
     generalize ((w8.setCell ⟨q9,0,none⟩ (.bool neg)).setCell ⟨q9,1,none⟩ (.int .i64 (0))).setCell ⟨q9,2,none⟩ (.int .u64 (Z2))=W9 at S9 R9 hB9 ⊢
     have c0:=R9.c0
     have c1:=R9.c1
     have c2:=R9.c2
     have g0:=S9.c0
     have g1:=S9.c1
     have g2:=S9.c2
     have hB9:=hB9.drew
     go_wp2_with (first
      | (go_at_call 98;refine (HJ2.out _).mono ?_;rintro ee w10 ⟨rfl,hb10⟩;have hB10:=hB9.trans (hb10.mono hB9.size))
      | (go_at_call 53;refine (HW2.out _).mono ?_;rintro ee w11 ⟨rfl,hb11⟩;have hB11:=hB10.trans (hb11.mono hB10.size)))
     exact bodyPost_ret (v:=.tuple #[.int .u64 r2,.bool true,.int .i64 0]) (by simp [results,Tryz.results54,go_sem]) rfl ⟨rfl,hB11⟩
 have z2:(v2 != b)=true:=by simpa using q2
 clear q2
 refine ⟨0,false,0,⟨by unfold U64;omega,fun _=>by omega⟩,fun w=>?_⟩
 go_enter Tryz.func54,Tryz.ntmps54
 go_wp2_with (first
  | (go_at_call 92;refine (HOf.out _).mono ?_;rintro ee w1 ⟨rfl,hb1⟩;have R1:=Row3.new w1 168 (.int .i64 a) (.int .i64 e) (.int .i64 f);have hb1:=hb1.alloc hb1.size (.cells #[.int .i64 a,.int .i64 e,.int .i64 f] 168))
  | (go_at_call 97;refine (Qa1 _).mono ?_;rintro ee w2 ⟨rfl,hb2⟩;have R2:=R1.below hb2;have hb2:=hb1.trans (hb2.mono hb1.size))
  | (go_at_call 93;refine (HS.out _).mono ?_;rintro ee w3 ⟨rfl,hb3⟩;have R3:=(R2.below hb3).alloc (.cells #[.bool neg,.int .i64 x,.int .u64 y] 172);have S3:=Row3.new w3 172 (.bool neg) (.int .i64 x) (.int .u64 y);have c0:=R3.c0;have c1:=R3.c1;have c2:=R3.c2;have hb4:=hb2.trans (hb3.mono hb2.size);have hq4:=hb4.size;have hb5:=hb4.alloc hb4.size (.cells #[.bool neg,.int .i64 x,.int .u64 y] 172))
  | (go_at_call 99;refine (HT.out _).mono ?_;rintro ee w6 ⟨rfl,hb6⟩;have R6:=R3.below hb6;have S6:=S3.below hb6;have hB6:=hb5.trans (hb6.mono hb5.size);have hne:w1.heap.size ≠ w3.heap.size:=(by have:=R1.lt;have:=R2.lt;have:=hb3.size;omega)))
 obtain ⟨q7,hq7⟩:∃ q,w1.heap.size=q:=⟨_,rfl⟩
 obtain ⟨q9,hq9⟩:∃ q,w3.heap.size=q:=⟨_,rfl⟩
 rw [hq7] at R6 hne
 rw [hq9] at S6 hne hq4
 rw [hq7,hq9]
 clear R1 hb1 R2 hb2 R3 S3 c0 c1 c2 hb4 hb5 hq7 hq9
 have HR6:=Lib.hid R6
 have HS6:=Lib.hid S6
 have HB6:=Lib.hid hB6
 clear R6 S6 hB6
 go_loopw [33] (fun i wr=>∃ k:Nat,k≤2∧i=.int .i64 k∧Hid (Row3 wr q7 168 (.int .i64 a) (.int .i64 e) (.int .i64 f))∧Hid (Row3 wr q9 172 (.bool neg) (.int .i64 x) (.int .u64 y))∧Hid (Below w.heap.size w wr)) (fun i _=>3 - (intOf i).toNat)
 case atStart=>exact ⟨0,by omega,rfl,HR6,HS6,HB6⟩
 case round =>
  clear HR6 HS6 HB6
  obtain ⟨k,hk,rfl,HR,HS1,HB1⟩:=hrel
  have c0:=HR.out.c0
  have c1:=HR.out.c1
  have c2:=HR.out.c2
  have d0:=HS1.out.c0
  have d1:=HS1.out.c1
  have d2:=HS1.out.c2
  have d3:=HS1.out.fz 0
  have d4:=HS1.out.fz 1
  have d5:=HS1.out.fz 2
  obtain rfl | rfl | rfl:k=0 ∨ k=1 ∨ k=2:=by omega
  · go_wp2_with fail
    have l0:∀ p:Gb wr,p.wd.cell? ⟨q7,0,none⟩=some (.int .i64 a):=fun p=>p.cell c0
    have l1:∀ p:Gb wr,p.wd.cell? ⟨q7,1,none⟩=some (.int .i64 e):=fun p=>p.cell c1
    have l2:∀ p:Gb wr,p.wd.cell? ⟨q7,2,none⟩=some (.int .i64 f):=fun p=>p.cell c2
    have m0:∀ p:Gb wr,p.wd.cell? ⟨q9,0,none⟩=some (.bool neg):=fun p=>p.cell d0
    have m2:∀ p:Gb wr,p.wd.cell? ⟨q9,2,none⟩=some (.int .u64 y):=fun p=>p.cell d2
    refine Qal (by kernel_rfl) (by kernel_rfl) ?_
    repeat (quiet_step ((go_at_call 98;refine Calls.gb_of (HJ0.out _))))
    refine wpQuiet_nil ?_
    intro _ hw'
    obtain ⟨gq,hw''⟩:=hw'
    subst hw''
    have R7:=HR.out.below gq.below
    have S7:=HS1.out.below gq.below
    have hB7:=HB1.out.trans (gq.below.mono HB1.out.size)
    go_wp2_with (go_at_call 53;refine (HW0.out _).mono ?_;rintro ee w8 ⟨rfl,hb8⟩;have R8:=R7.below hb8;have S8:=S7.below hb8;have hB8:=hB7.trans (hb8.mono hB7.size))
    go_roundw
    case rel=>exact ⟨1,by omega,by go_num,R8,S8,hB8⟩
    case measure=>simp [intOf]
  · go_wp2_with fail
    have l0:∀ p:Gb wr,p.wd.cell? ⟨q7,0,none⟩=some (.int .i64 a):=fun p=>p.cell c0
    have l1:∀ p:Gb wr,p.wd.cell? ⟨q7,1,none⟩=some (.int .i64 e):=fun p=>p.cell c1
    have l2:∀ p:Gb wr,p.wd.cell? ⟨q7,2,none⟩=some (.int .i64 f):=fun p=>p.cell c2
    have m0:∀ p:Gb wr,p.wd.cell? ⟨q9,0,none⟩=some (.bool neg):=fun p=>p.cell d0
    have m2:∀ p:Gb wr,p.wd.cell? ⟨q9,2,none⟩=some (.int .u64 y):=fun p=>p.cell d2
    refine Qal (by kernel_rfl) (by kernel_rfl) ?_
    repeat (quiet_step ((go_at_call 98;refine Calls.gb_of (HJ1.out _))))
    refine wpQuiet_nil ?_
    intro _ hw'
    obtain ⟨gq,hw''⟩:=hw'
    subst hw''
    have R7:=HR.out.below gq.below
    have S7:=HS1.out.below gq.below
    have hB7:=HB1.out.trans (gq.below.mono HB1.out.size)
    go_wp2_with (go_at_call 53;refine (HW1.out _).mono ?_;rintro ee w8 ⟨rfl,hb8⟩;have R8:=R7.below hb8;have S8:=S7.below hb8;have hB8:=hB7.trans (hb8.mono hB7.size))
    go_roundw
    case rel=>exact ⟨2,by omega,by go_num,R8,S8,hB8⟩
    case measure=>simp [intOf]
  ·
   go_wp2_with fail
   have l0:∀ p:Gb wr,p.wd.cell? ⟨q7,0,none⟩=some (.int .i64 a):=fun p=>p.cell c0
   have l1:∀ p:Gb wr,p.wd.cell? ⟨q7,1,none⟩=some (.int .i64 e):=fun p=>p.cell c1
   have l2:∀ p:Gb wr,p.wd.cell? ⟨q7,2,none⟩=some (.int .i64 f):=fun p=>p.cell c2
   have m1:∀ p:Gb wr,p.wd.cell? ⟨q9,1,none⟩=some (.int .i64 x):=fun p=>p.cell d1
   refine Qal (by kernel_rfl) (by kernel_rfl) ?_
   repeat (quiet_step ((go_at_call 95;refine Calls.gb_of (HB.out _))))
   refine wpQuiet_nil ?_
   intro _ hw'
   obtain ⟨gq,hw''⟩:=hw'
   subst hw''
   have R7:=HR.out.below gq.below
   have S7:=HS1.out.below gq.below
   have hB7:=HB1.out.trans (gq.below.mono HB1.out.size)
   have c0:=R7.c0
   have c1:=R7.c1
   have c2:=R7.c2
   go_wp2_with (go_at_call 99;refine (HT.out _).mono ?_;rintro ee w8 ⟨rfl,hb8⟩;have R8:=R7.below hb8;have S8:=S7.below hb8;have hB8:=hB7.trans (hb8.mono hB7.size);have c0:=R8.c0;have c1:=R8.c1;have c2:=R8.c2;have d0:=S8.c0;have d1:=S8.c1;have d2:=S8.c2;have d3:=S8.fz 0;have d4:=S8.fz 1;have d5:=S8.fz 2)
   go_region
   have S9:=((S8.s0 (.bool neg)).s1 (.int .i64 (0))).s2 (.int .u64 (Z2))
   have R9:Row3 ((((w8.setCell ⟨q9,0,none⟩ (.bool neg)).setCell ⟨q9,1,none⟩ (.int .i64 (0))).setCell ⟨q9,2,none⟩ (.int .u64 (Z2)))) q7 168 (.int .i64 a) (.int .i64 e) (.int .i64 f):=by
    unfold Row3
    rw [Below.heap_setCell _ ⟨q9,2,none⟩ _ q7 hne,Below.heap_setCell _ ⟨q9,1,none⟩ _ q7 hne,Below.heap_setCell _ ⟨q9,0,none⟩ _ q7 hne]
    exact R8
   have hB9:=((hB8.setCell (p:=⟨q9,0,none⟩) hq4 (.bool neg)).setCell (p:=⟨q9,1,none⟩) hq4 (.int .i64 (0))).setCell (p:=⟨q9,2,none⟩) hq4 (.int .u64 (Z2))
   generalize ((w8.setCell ⟨q9,0,none⟩ (.bool neg)).setCell ⟨q9,1,none⟩ (.int .i64 (0))).setCell ⟨q9,2,none⟩ (.int .u64 (Z2))=W9 at S9 R9 hB9 ⊢
   have c0:=R9.c0
   have c1:=R9.c1
   have c2:=R9.c2
   have g0:=S9.c0
   have g1:=S9.c1
   have g2:=S9.c2
   have hB9:=hB9.drew
   go_wp2_with (first
    | (go_at_call 98;refine (HJ2.out _).mono ?_;rintro ee w10 ⟨rfl,hb10⟩;have hB10:=hB9.trans (hb10.mono hB9.size))
    | (go_at_call 53;refine (HW2.out _).mono ?_;rintro ee w11 ⟨rfl,hb11⟩;have hB11:=hB10.trans (hb11.mono hB10.size)))
   exact bodyPost_ret (v:=.tuple #[.int .u64 0,.bool false,.int .i64 0]) (by simp [results,Tryz.results54,go_sem]) rfl ⟨rfl,hB11⟩
end Go.Proofs.YtfmceonbejlhlaaGreatDoor
