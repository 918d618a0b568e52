import Derived.Deep.RegionWith
import Derived.Laws.BitsLemmas
import Derived.OwnWalk
import Derived.Laws.OwnMore
import Derived.RegionTactic
import Derived.Test.YtfmceonbejlhlaaGreatDoorMWs0
import Derived.Test.YtfmceonbejlhlaaGreatDoorMWs5
import Derived.Test.YtfmceonbejlhlaaGreatDoorMWs7
namespace Go.Proofs.YtfmceonbejlhlaaGreatDoor
open Go.RowKit Go.Proofs.YtfmceonbejlhlaaGreatDoorW.PrintWords Go.Proofs.YtfmceonbejlhlaaGreatDoorW.PrintLast Go.Proofs.YtfmceonbejlhlaaGreatDoorW.PrintMore
set_option linter.unusedVariables false
def Wd (a e f:Int):Prop:=(a=16∧e=5∧f=10) ∨ (a=32∧e=8∧f=23) ∨ (a=64∧e=11∧f=52)
def U64 (n:Int):Prop:=0≤n∧n<18446744073709551616
def Det (f:FuncId) (args:Array Value) (r:Value):Prop:=∀ w,Calls Tryz.prog f args w (Ret r w)
theorem wrap_u64_U64 (n:Int):U64 (IntKind.u64.wrap n):=by rw [IntKind.wrap_u64];unfold U64;omega
theorem bits_U64 (op:BinOp) (x y:Int) (h:op=.or ∨ op=.and):U64 (Go.bits op .u64 x y):=by
 rcases h with rfl | rfl <;> exact wrap_u64_U64 _
theorem of_det {a e f:Int} (h:Wd a e f) (b:Int):∃ ok,Det 92 #[.int .i64 a,.int .u64 b] (.tuple #[.agg #[.int .i64 a,.int .i64 e,.int .i64 f],.bool ok]):=by
 rcases h with ⟨rfl,rfl,rfl⟩ | ⟨rfl,rfl,rfl⟩ | ⟨rfl,rfl,rfl⟩
 · exact ⟨_,fun w=>of16 b w⟩
 · exact ⟨_,fun w=>of32 b w⟩
 · exact ⟨_,fun w=>of64 b w⟩
theorem u64_mask (k:Nat) (hk:k≤64) {b:Int} (hb:U64 b):Go.bits .and .u64 b (2 ^ k - 1)=b % 2 ^ k :=
 bits_mask .u64 64 (by decide) (fun n h0 h1=>by rw [IntKind.wrap_u64];omega) k hk b hb.1 (by have:=hb.2;omega)
theorem i64_mask (k:Nat) (hk:k≤63) {b:Int} (h0:0≤b) (h1:b<9223372036854775808):Go.bits .and .i64 b (2 ^ k - 1)=b % 2 ^ k :=
 bits_mask .i64 63 (by decide) (fun n h0 h1=>by rw [IntKind.wrap_i64];omega) k hk b h0 (by omega)
theorem split_det {a e f:Int} (h:Wd a e f) (b:Int) (hb:U64 b):∃ neg x y,(0≤x∧x≤2047)∧(0≤y∧y*2 ^ (52 - f).toNat<4503599627370496)∧Det 93 #[.agg #[.int .i64 a,.int .i64 e,.int .i64 f],.int .u64 b] (.agg #[.bool neg,.int .i64 x,.int .u64 y]):=by
 have hb2:=hb
 obtain ⟨h0,h1⟩:=hb2
 rcases h with ⟨rfl,rfl,rfl⟩ | ⟨rfl,rfl,rfl⟩ | ⟨rfl,rfl,rfl⟩
 · refine ⟨_,(b / 1024) % 32,b % 1024,by omega,⟨by omega,by show b % 1024*4398046511104<_;omega⟩,fun w=>P.Qau.calls 16 5 10 b (b / 32768 == 1) _ _ w ?_⟩
   have e1:P.Qau.f 16 5 10 b=some ((b / 32768 == 1),Go.bits .and .i64 (wrap64 (b / 1024)) (2 ^ 5 - 1),Go.bits .and .u64 b (2 ^ 10 - 1)):=by kernel_rfl
   have e2:wrap64 (b / 1024)=b / 1024:=by unfold wrap64;omega
   rw [e1,e2,i64_mask 5 (by decide) (by omega) (by omega),u64_mask 10 (by decide) hb]
   rfl
 · refine ⟨_,(b / 8388608) % 256,b % 8388608,by omega,⟨by omega,by show b % 8388608*536870912<_;omega⟩,fun w=>P.Qau.calls 32 8 23 b (b / 2147483648 == 1) _ _ w ?_⟩
   have e1:P.Qau.f 32 8 23 b=some ((b / 2147483648 == 1),Go.bits .and .i64 (wrap64 (b / 8388608)) (2 ^ 8 - 1),Go.bits .and .u64 b (2 ^ 23 - 1)):=by kernel_rfl
   have e2:wrap64 (b / 8388608)=b / 8388608:=by unfold wrap64;omega
   rw [e1,e2,i64_mask 8 (by decide) (by omega) (by omega),u64_mask 23 (by decide) hb]
   rfl
 · refine ⟨_,(b / 4503599627370496) % 2048,b % 4503599627370496,by omega,⟨by omega,by show b % 4503599627370496*1<_;omega⟩,fun w=>P.Qau.calls 64 11 52 b (b / 9223372036854775808 == 1) _ _ w ?_⟩
   have e1:P.Qau.f 64 11 52 b=some ((b / 9223372036854775808 == 1),Go.bits .and .i64 (wrap64 (b / 4503599627370496)) (2 ^ 11 - 1),Go.bits .and .u64 b (2 ^ 52 - 1)):=by kernel_rfl
   have e2:wrap64 (b / 4503599627370496)=b / 4503599627370496:=by unfold wrap64;omega
   rw [e1,e2,i64_mask 11 (by decide) (by omega) (by omega),u64_mask 52 (by decide) hb]
   rfl
theorem bias_det {a e f:Int} (h:Wd a e f):∃ t,(15≤t∧t≤1023)∧Det 95 #[.agg #[.int .i64 a,.int .i64 e,.int .i64 f]] (.int .i64 t):=by
 rcases h with ⟨rfl,rfl,rfl⟩ | ⟨rfl,rfl,rfl⟩ | ⟨rfl,rfl,rfl⟩
 · exact ⟨15,by omega,fun w=>P.Qb9.calls 16 5 10 15 w (by kernel_rfl)⟩
 · exact ⟨127,by omega,fun w=>P.Qb9.calls 32 8 23 127 w (by kernel_rfl)⟩
 · exact ⟨1023,by omega,fun w=>P.Qb9.calls 64 11 52 1023 w (by kernel_rfl)⟩
theorem class_det {a e f:Int} (h:Wd a e f) (neg:Bool) (x y:Int):∃ c,Det 94 #[.agg #[.int .i64 a,.int .i64 e,.int .i64 f],.agg #[.bool neg,.int .i64 x,.int .u64 y]] (.int .i64 c):=by
 have hf:∃ t,P.Qas.f a e f=some t:=by
  rcases h with ⟨rfl,rfl,rfl⟩ | ⟨rfl,rfl,rfl⟩ | ⟨rfl,rfl,rfl⟩
  · exact ⟨31,by kernel_rfl⟩
  · exact ⟨255,by kernel_rfl⟩
  · exact ⟨2047,by kernel_rfl⟩
 obtain ⟨t,ht⟩:=hf
 have:∃ c,P.Qah.f 1 a e f neg x y=some c:=by
  unfold P.Qah.f
  rw [ht,Option.bind_some]
  by_cases h1:x=t
  · rw [if_pos h1]
    simp only [P.Qah.j0,ht,Option.bind_some]
    by_cases h2:(y != 0)=true
    · exact ⟨_,by rw [if_pos h2]⟩
    · exact ⟨_,by rw [if_neg h2,if_pos h1]⟩
  · rw [if_neg h1]
    simp only [P.Qah.j0,ht,Option.bind_some]
    by_cases h2:x=0
    · by_cases h3:y=0
      · exact ⟨_,by rw [if_neg (by decide),if_neg h1,if_pos h2,if_pos h3]⟩
      · exact ⟨_,by rw [if_neg (by decide),if_neg h1,if_pos h2,if_neg h3]⟩
    · exact ⟨_,by rw [if_neg (by decide),if_neg h1,if_neg h2]⟩
 obtain ⟨c,hc⟩:=this
 exact ⟨c,fun w=>P.Qah.calls 1 a e f neg x y c w hc⟩
theorem join_det {a e f:Int} (h:Wd a e f) (neg:Bool) (x y:Int):∃ r,U64 r∧Det 98 #[.agg #[.int .i64 a,.int .i64 e,.int .i64 f],.agg #[.bool neg,.int .i64 x,.int .u64 y]] (.int .u64 r):=by
 have hf:0≤f:=by rcases h with ⟨rfl,rfl,rfl⟩ | ⟨rfl,rfl,rfl⟩ | ⟨rfl,rfl,rfl⟩ <;> decide
 have ha:0≤wrap64 (a - 1):=by unfold wrap64;rcases h with ⟨rfl,rfl,rfl⟩ | ⟨rfl,rfl,rfl⟩ | ⟨rfl,rfl,rfl⟩ <;> omega
 cases neg
 · refine ⟨_,bits_U64 .or _ _ (.inl rfl),fun w=>P.Qbi.calls a e f false x y _ w (by unfold P.Qbi.f;rw [if_pos hf,if_neg (by decide)])⟩
 · refine ⟨_,bits_U64 .or _ _ (.inl rfl),fun w=>P.Qbi.calls a e f true x y _ w (by unfold P.Qbi.f;rw [if_pos hf,if_pos rfl,if_pos ha])⟩
theorem bitLenAux_le:∀ f x:Nat,Lib.bitLenAux f x≤f
 | 0,_=>by simp [Lib.bitLenAux]
 | f+1,x=>by
   have:=bitLenAux_le f (x / 2)
   unfold Lib.bitLenAux
   split <;> omega
theorem bitLen_52 (x:Nat) (h:x<4503599627370496):Lib.bitLen x≤52:=by
 have:=Lib.bitLenAux_fuel 52 x (by omega) 64 (by omega)
 unfold Lib.bitLen
 rw [this]
 exact bitLenAux_le _ _
set_option maxHeartbeats 4000000 in
set_option maxRecDepth 100000 in
theorem Qb2 {a e f:Int} (h:Wd a e f) (b:Int) (hb:U64 b):∃ r er,U64 r∧Det 53 #[.int .i64 a,.int .u64 b] (.tuple #[.int .u64 r,.int .i64 er]):=by
 obtain ⟨ok,hOf⟩:=of_det h b
 have HOf:=Lib.hid hOf
 clear hOf
 cases ok
 · refine ⟨0,1,by unfold U64;omega,fun w=>?_⟩
   go_enter Tryz.func53,Tryz.ntmps53
   go_wp2_with (go_at_call 92;refine (HOf.out _).mono ?_;rintro ee w1 ⟨rfl,hb1⟩)
   exact bodyPost_ret (v:=.tuple #[.int .u64 0,.int .i64 1]) (by simp [results,Tryz.results53,go_sem]) rfl ⟨rfl,hb1.alloc hb1.size _⟩
 obtain ⟨neg,x,y,hx,hy,hS⟩:=split_det h b hb
 obtain ⟨c,hC⟩:=class_det h neg x y
 obtain ⟨t,ht,hB⟩:=bias_det h
 have hf:10≤f∧f≤52:=by rcases h with ⟨rfl,rfl,rfl⟩ | ⟨rfl,rfl,rfl⟩ | ⟨rfl,rfl,rfl⟩ <;> omega
 obtain ⟨F,hF⟩:∃ F,y*2 ^ (52 - f).toNat=F:=⟨_,rfl⟩
 have hF0:0≤F∧F<4503599627370496:=⟨by rw [← hF];exact Int.mul_nonneg hy.1 (Int.pow_nonneg (by decide)),by rw [← hF];exact hy.2⟩
 have wF:IntKind.u64.wrap F=F:=by rw [IntKind.wrap_u64];omega
 have HS:=Lib.hid hS
 have HC:=Lib.hid hC
 have HB:=Lib.hid hB
 clear hS hC hB
 have wf:IntKind.i64.wrap (52 - f)=52 - f:=by rw [IntKind.wrap_i64];omega
 have wf2:(0:Int)≤52 - f:=by omega
 have wf3:¬ (52 - f<0):=by omega
 have i2:=fun W=>Qch W
 by_cases h3:c=3
 · subst h3
   obtain ⟨r,hr,hJ⟩:=join_det (a:=64) (e:=11) (f:=52) (.inr (.inr ⟨rfl,rfl,rfl⟩)) neg (2047) (F)
   have HJ:=Lib.hid hJ
   clear hJ
   refine ⟨r,0,hr,fun w=>?_⟩
   go_enter Tryz.func53,Tryz.ntmps53
   go_wp2_with (first
    | (go_at_call 92;refine (HOf.out _).mono ?_;rintro ee w1 ⟨rfl,hb1⟩;have R1:=Row3.new w1 168 (.int .i64 a) (.int .i64 e) (.int .i64 f);have c0:=R1.c0;have c1:=R1.c1;have c2:=R1.c2;have hb1:=hb1.alloc hb1.size (.cells #[.int .i64 a,.int .i64 e,.int .i64 f] 168))
    | (go_at_call 93;refine (HS.out _).mono ?_;rintro ee w2 ⟨rfl,hb2⟩;have R2:=R1.below hb2;have c0:=R2.c0;have c1:=R2.c1;have c2:=R2.c2;have hb2:=hb1.trans (hb2.mono hb1.size);have R3:=R2.alloc (.cells #[.bool neg,.int .i64 x,.int .u64 y] 172);have S3:=Row3.new w2 172 (.bool neg) (.int .i64 x) (.int .u64 y);have c0:=R3.c0;have c1:=R3.c1;have c2:=R3.c2;have d0:=S3.c0;have d1:=S3.c1;have d2:=S3.c2;have hb3:=hb2.alloc hb2.size (.cells #[.bool neg,.int .i64 x,.int .u64 y] 172))
    | (go_at_call 94;refine (HC.out _).mono ?_;rintro ee w4 ⟨rfl,hb4⟩;have R5:=R3.below hb4;have S5:=S3.below hb4;have c0:=R5.c0;have c1:=R5.c1;have c2:=R5.c2;have d0:=S5.c0;have d1:=S5.c1;have d2:=S5.c2;have d3:=S5.fz 0;have d4:=S5.fz 1;have d5:=S5.fz 2;have hb5:=hb3.trans (hb4.mono hb3.size);have hne:w1.heap.size ≠ w2.heap.size:=(by have:=R1.lt;have:=hb2.size;have:=R2.lt;omega);have hqw:=hb2.size;have hq4:=S5.lt;have S6:=S5.s2 (.int .u64 F);have hb6:=hb5.setCell (p:=⟨w2.heap.size,2,none⟩) hqw (.int .u64 F);have R6:=(show Row3 (w4.setCell ⟨w2.heap.size,2,none⟩ (.int .u64 F)) w1.heap.size 168 (.int .i64 a) (.int .i64 e) (.int .i64 f) from (Below.heap_setCell w4 ⟨w2.heap.size,2,none⟩ _ _ hne).trans R5)))
   have hS7:=S6.s1 (.int .i64 2047)
   have hB7:=hb6.setCell (p:=⟨w2.heap.size,1,none⟩) hqw (.int .i64 2047)
   generalize (w4.setCell ⟨w2.heap.size,2,none⟩ (.int .u64 F)).setCell ⟨w2.heap.size,1,none⟩ (.int .i64 2047)=W6 at hS7 hB7 ⊢
   have k0:=hS7.c0
   have k1:=hS7.c1
   have k2:=hS7.c2
   have HS7:=Lib.hid hS7
   have HB7:=Lib.hid hB7
   clear hS7 hB7 S6 hb6 R6 hb5 R5 S5 hb3 R3 S3 R1 R2 hb2 hb1
   go_region_with (first
    | (go_at_call 97;refine (Qa1 _).mono ?_;rintro ee w7 ⟨rfl,hb7⟩;have S8:=Row3.below (show Row3 W6.drew _ _ _ _ _ from HS7.out) hb7;have k0:=S8.c0;have k1:=S8.c1;have k2:=S8.c2;have HB8:=Lib.hid (HB7.out.drew.trans (hb7.mono HB7.out.drew.size));clear hb7 S8)
    | (go_at_call 98;refine (HJ.out _).mono ?_;rintro ee w8 ⟨rfl,hb8⟩;have HB9:=Lib.hid (HB8.out.trans (Below.mono hb8 HB8.out.size));clear hb8))
   all_goals
    go_wp2
    exact bodyPost_ret (v:=.tuple #[.int .u64 r,.int .i64 0]) (by simp [results,Tryz.results53,go_sem]) rfl ⟨rfl,HB9.out⟩
 by_cases h4:c=4
 · subst h4
   obtain ⟨r,hr,hJ⟩:=join_det (a:=64) (e:=11) (f:=52) (.inr (.inr ⟨rfl,rfl,rfl⟩)) neg (2047) (F)
   have HJ:=Lib.hid hJ
   clear hJ
   refine ⟨r,0,hr,fun w=>?_⟩
   go_enter Tryz.func53,Tryz.ntmps53
   go_wp2_with (first
    | (go_at_call 92;refine (HOf.out _).mono ?_;rintro ee w1 ⟨rfl,hb1⟩;have R1:=Row3.new w1 168 (.int .i64 a) (.int .i64 e) (.int .i64 f);have c0:=R1.c0;have c1:=R1.c1;have c2:=R1.c2;have hb1:=hb1.alloc hb1.size (.cells #[.int .i64 a,.int .i64 e,.int .i64 f] 168))
    | (go_at_call 93;refine (HS.out _).mono ?_;rintro ee w2 ⟨rfl,hb2⟩;have R2:=R1.below hb2;have c0:=R2.c0;have c1:=R2.c1;have c2:=R2.c2;have hb2:=hb1.trans (hb2.mono hb1.size);have R3:=R2.alloc (.cells #[.bool neg,.int .i64 x,.int .u64 y] 172);have S3:=Row3.new w2 172 (.bool neg) (.int .i64 x) (.int .u64 y);have c0:=R3.c0;have c1:=R3.c1;have c2:=R3.c2;have d0:=S3.c0;have d1:=S3.c1;have d2:=S3.c2;have hb3:=hb2.alloc hb2.size (.cells #[.bool neg,.int .i64 x,.int .u64 y] 172))
    | (go_at_call 94;refine (HC.out _).mono ?_;rintro ee w4 ⟨rfl,hb4⟩;have R5:=R3.below hb4;have S5:=S3.below hb4;have c0:=R5.c0;have c1:=R5.c1;have c2:=R5.c2;have d0:=S5.c0;have d1:=S5.c1;have d2:=S5.c2;have d3:=S5.fz 0;have d4:=S5.fz 1;have d5:=S5.fz 2;have hb5:=hb3.trans (hb4.mono hb3.size);have hne:w1.heap.size ≠ w2.heap.size:=(by have:=R1.lt;have:=hb2.size;have:=R2.lt;omega);have hqw:=hb2.size;have hq4:=S5.lt;have S6:=S5.s2 (.int .u64 F);have hb6:=hb5.setCell (p:=⟨w2.heap.size,2,none⟩) hqw (.int .u64 F);have R6:=(show Row3 (w4.setCell ⟨w2.heap.size,2,none⟩ (.int .u64 F)) w1.heap.size 168 (.int .i64 a) (.int .i64 e) (.int .i64 f) from (Below.heap_setCell w4 ⟨w2.heap.size,2,none⟩ _ _ hne).trans R5)))
   have hS7:=S6.s1 (.int .i64 2047)
   have hB7:=hb6.setCell (p:=⟨w2.heap.size,1,none⟩) hqw (.int .i64 2047)
   generalize (w4.setCell ⟨w2.heap.size,2,none⟩ (.int .u64 F)).setCell ⟨w2.heap.size,1,none⟩ (.int .i64 2047)=W6 at hS7 hB7 ⊢
   have k0:=hS7.c0
   have k1:=hS7.c1
   have k2:=hS7.c2
   have HS7:=Lib.hid hS7
   have HB7:=Lib.hid hB7
   clear hS7 hB7 S6 hb6 R6 hb5 R5 S5 hb3 R3 S3 R1 R2 hb2 hb1
   go_region_with (first
    | (go_at_call 97;refine (Qa1 _).mono ?_;rintro ee w7 ⟨rfl,hb7⟩;have S8:=Row3.below (show Row3 W6.drew _ _ _ _ _ from HS7.out) hb7;have k0:=S8.c0;have k1:=S8.c1;have k2:=S8.c2;have HB8:=Lib.hid (HB7.out.drew.trans (hb7.mono HB7.out.drew.size));clear hb7 S8)
    | (go_at_call 98;refine (HJ.out _).mono ?_;rintro ee w8 ⟨rfl,hb8⟩;have HB9:=Lib.hid (HB8.out.trans (Below.mono hb8 HB8.out.size));clear hb8))
   all_goals
    go_wp2
    exact bodyPost_ret (v:=.tuple #[.int .u64 r,.int .i64 0]) (by simp [results,Tryz.results53,go_sem]) rfl ⟨rfl,HB9.out⟩
 by_cases h2:c=2
 · subst h2
   have e1:IntKind.i64.wrap (1023 - t)=1023 - t:=by rw [IntKind.wrap_i64];omega
   have e2:IntKind.i64.wrap (x+(1023 - t))=x+(1023 - t):=by rw [IntKind.wrap_i64];omega
   obtain ⟨r,hr,hJ⟩:=join_det (a:=64) (e:=11) (f:=52) (.inr (.inr ⟨rfl,rfl,rfl⟩)) neg (x+(1023 - t)) (F)
   have HJ:=Lib.hid hJ
   clear hJ
   refine ⟨r,0,hr,fun w=>?_⟩
   go_enter Tryz.func53,Tryz.ntmps53
   go_wp2_with (first
    | (go_at_call 92;refine (HOf.out _).mono ?_;rintro ee w1 ⟨rfl,hb1⟩;have R1:=Row3.new w1 168 (.int .i64 a) (.int .i64 e) (.int .i64 f);have c0:=R1.c0;have c1:=R1.c1;have c2:=R1.c2;have hb1:=hb1.alloc hb1.size (.cells #[.int .i64 a,.int .i64 e,.int .i64 f] 168))
    | (go_at_call 93;refine (HS.out _).mono ?_;rintro ee w2 ⟨rfl,hb2⟩;have R2:=R1.below hb2;have c0:=R2.c0;have c1:=R2.c1;have c2:=R2.c2;have hb2:=hb1.trans (hb2.mono hb1.size);have R3:=R2.alloc (.cells #[.bool neg,.int .i64 x,.int .u64 y] 172);have S3:=Row3.new w2 172 (.bool neg) (.int .i64 x) (.int .u64 y);have c0:=R3.c0;have c1:=R3.c1;have c2:=R3.c2;have d0:=S3.c0;have d1:=S3.c1;have d2:=S3.c2;have hb3:=hb2.alloc hb2.size (.cells #[.bool neg,.int .i64 x,.int .u64 y] 172))
    | (go_at_call 94;refine (HC.out _).mono ?_;rintro ee w4 ⟨rfl,hb4⟩;have R5:=R3.below hb4;have S5:=S3.below hb4;have c0:=R5.c0;have c1:=R5.c1;have c2:=R5.c2;have d0:=S5.c0;have d1:=S5.c1;have d2:=S5.c2;have d3:=S5.fz 0;have d4:=S5.fz 1;have d5:=S5.fz 2;have hb5:=hb3.trans (hb4.mono hb3.size);have hne:w1.heap.size ≠ w2.heap.size:=(by have:=R1.lt;have:=hb2.size;have:=R2.lt;omega);have hqw:=hb2.size;have hq4:=S5.lt;have S6:=S5.s2 (.int .u64 F);have hb6:=hb5.setCell (p:=⟨w2.heap.size,2,none⟩) hqw (.int .u64 F);have R6:=(show Row3 (w4.setCell ⟨w2.heap.size,2,none⟩ (.int .u64 F)) w1.heap.size 168 (.int .i64 a) (.int .i64 e) (.int .i64 f) from (Below.heap_setCell w4 ⟨w2.heap.size,2,none⟩ _ _ hne).trans R5)))
   have x0:=S6.c0
   have x1:=S6.c1
   have x2:=S6.c2
   have y0:=R6.c0
   have y1:=R6.c1
   have y2:=R6.c2
   have hq6:=S6.lt
   have HS6:=Lib.hid S6
   have HR6:=Lib.hid R6
   have HB6:=Lib.hid hb6
   clear hb5 R5 S5 hb3 R3 S3 R1 R2 hb2 hb1 S6 R6 hb6 c0 c1 c2 d0 d1 d2 d3 d4 d5
   generalize w4.setCell ⟨w2.heap.size,2,none⟩ (.int .u64 F)=W6 at HS6 HR6 HB6 x0 x1 x2 y0 y1 y2 hq6 ⊢
   go_region_with (first
    | (go_at_call 95;refine (HB.out _).mono ?_;rintro ee w5 ⟨rfl,hb5⟩;have S8:=Row3.below (show Row3 W6.drew _ _ _ _ _ from HS6.out) hb5;have x0:=S8.c0;have x1:=S8.c1;have x2:=S8.c2;have x3:=S8.fz 1;have hb8:=HB6.out.drew.trans (hb5.mono HB6.out.drew.size)))
   all_goals
    go_wp2_with fail
    have hS7:=S8.s1 (.int .i64 (x+(1023 - t)))
    have hB7:=hb8.setCell (p:=⟨w2.heap.size,1,none⟩) hqw (.int .i64 (x+(1023 - t)))
    generalize w5.setCell ⟨w2.heap.size,1,none⟩ (.int .i64 (x+(1023 - t)))=W6 at hS7 hB7 ⊢
    have k0:=hS7.c0
    have k1:=hS7.c1
    have k2:=hS7.c2
    have HS7:=Lib.hid hS7
    have HB7:=Lib.hid hB7
    clear hS7 hB7 S8 hb8 hb5
    go_region_with (first
     | (go_at_call 97;refine (Qa1 _).mono ?_;rintro ee w7 ⟨rfl,hb7⟩;have S8:=Row3.below (show Row3 W6.drew _ _ _ _ _ from HS7.out) hb7;have k0:=S8.c0;have k1:=S8.c1;have k2:=S8.c2;have HB8:=Lib.hid (HB7.out.drew.trans (hb7.mono HB7.out.drew.size));clear hb7 S8)
     | (go_at_call 98;refine (HJ.out _).mono ?_;rintro ee w8 ⟨rfl,hb8⟩;have HB9:=Lib.hid (HB8.out.trans (Below.mono hb8 HB8.out.size));clear hb8))
    all_goals
     go_wp2
     exact bodyPost_ret (v:=.tuple #[.int .u64 r,.int .i64 0]) (by simp [results,Tryz.results53,go_sem]) rfl ⟨rfl,HB9.out⟩
 by_cases h1:c=1
 · subst h1
   by_cases h64:a=64
   · have n64:(a == 64)=true:=by simpa using h64
     clear h64
     obtain ⟨r,hr,hJ⟩:=join_det (a:=64) (e:=11) (f:=52) (.inr (.inr ⟨rfl,rfl,rfl⟩)) neg (x) (F)
     have HJ:=Lib.hid hJ
     clear hJ
     refine ⟨r,0,hr,fun w=>?_⟩
     go_enter Tryz.func53,Tryz.ntmps53
     go_wp2_with (first
      | (go_at_call 92;refine (HOf.out _).mono ?_;rintro ee w1 ⟨rfl,hb1⟩;have R1:=Row3.new w1 168 (.int .i64 a) (.int .i64 e) (.int .i64 f);have c0:=R1.c0;have c1:=R1.c1;have c2:=R1.c2;have hb1:=hb1.alloc hb1.size (.cells #[.int .i64 a,.int .i64 e,.int .i64 f] 168))
      | (go_at_call 93;refine (HS.out _).mono ?_;rintro ee w2 ⟨rfl,hb2⟩;have R2:=R1.below hb2;have c0:=R2.c0;have c1:=R2.c1;have c2:=R2.c2;have hb2:=hb1.trans (hb2.mono hb1.size);have R3:=R2.alloc (.cells #[.bool neg,.int .i64 x,.int .u64 y] 172);have S3:=Row3.new w2 172 (.bool neg) (.int .i64 x) (.int .u64 y);have c0:=R3.c0;have c1:=R3.c1;have c2:=R3.c2;have d0:=S3.c0;have d1:=S3.c1;have d2:=S3.c2;have hb3:=hb2.alloc hb2.size (.cells #[.bool neg,.int .i64 x,.int .u64 y] 172))
      | (go_at_call 94;refine (HC.out _).mono ?_;rintro ee w4 ⟨rfl,hb4⟩;have R5:=R3.below hb4;have S5:=S3.below hb4;have c0:=R5.c0;have c1:=R5.c1;have c2:=R5.c2;have d0:=S5.c0;have d1:=S5.c1;have d2:=S5.c2;have d3:=S5.fz 0;have d4:=S5.fz 1;have d5:=S5.fz 2;have hb5:=hb3.trans (hb4.mono hb3.size);have hne:w1.heap.size ≠ w2.heap.size:=(by have:=R1.lt;have:=hb2.size;have:=R2.lt;omega);have hqw:=hb2.size;have hq4:=S5.lt;have S6:=S5.s2 (.int .u64 F);have hb6:=hb5.setCell (p:=⟨w2.heap.size,2,none⟩) hqw (.int .u64 F);have R6:=(show Row3 (w4.setCell ⟨w2.heap.size,2,none⟩ (.int .u64 F)) w1.heap.size 168 (.int .i64 a) (.int .i64 e) (.int .i64 f) from (Below.heap_setCell w4 ⟨w2.heap.size,2,none⟩ _ _ hne).trans R5)))
     have hS7:=S6
     have hB7:=hb6
     generalize w4.setCell ⟨w2.heap.size,2,none⟩ (.int .u64 F)=W6 at hS7 hB7 ⊢
     have k0:=hS7.c0
     have k1:=hS7.c1
     have k2:=hS7.c2
     have HS7:=Lib.hid hS7
     have HB7:=Lib.hid hB7
     clear hS7 hB7 S6 hb6 R6 hb5 R5 S5 hb3 R3 S3 R1 R2 hb2 hb1
     go_region_with (first
      | (go_at_call 97;refine (Qa1 _).mono ?_;rintro ee w7 ⟨rfl,hb7⟩;have S8:=Row3.below (show Row3 W6.drew _ _ _ _ _ from HS7.out) hb7;have k0:=S8.c0;have k1:=S8.c1;have k2:=S8.c2;have HB8:=Lib.hid (HB7.out.drew.trans (hb7.mono HB7.out.drew.size));clear hb7 S8)
      | (go_at_call 98;refine (HJ.out _).mono ?_;rintro ee w8 ⟨rfl,hb8⟩;have HB9:=Lib.hid (HB8.out.trans (Below.mono hb8 HB8.out.size));clear hb8))
     all_goals
      go_wp2
      exact bodyPost_ret (v:=.tuple #[.int .u64 r,.int .i64 0]) (by simp [results,Tryz.results53,go_sem]) rfl ⟨rfl,HB9.out⟩
   · have h64':¬ a=64:=h64
     have hLen:=fun W=>bits_Len64 F W hF0.1 (by omega)
     obtain ⟨L,hL⟩:∃ L,Lib.bitLen F.toNat=L:=⟨_,rfl⟩
     have hL52:L≤52:=by rw [← hL];exact bitLen_52 _ (by omega)
     rw [hL] at hLen
     have HLen:=Lib.hid hLen
     clear hLen hL
     have g1:IntKind.i64.wrap (53 - (L:Int))=53 - (L:Int):=by rw [IntKind.wrap_i64];omega
     have g2:(0:Int)≤53 - (L:Int):=by omega
     have g3:¬ (53 - (L:Int)<0):=by omega
     have e1:IntKind.i64.wrap (1 - t)=1 - t:=by rw [IntKind.wrap_i64];omega
     have e2:IntKind.i64.wrap (1 - t+1023)=1 - t+1023:=by rw [IntKind.wrap_i64];omega
     have e3:IntKind.i64.wrap (1 - t+1023 - (53 - (L:Int)))=1 - t+1023 - (53 - (L:Int)):=by rw [IntKind.wrap_i64];omega
     have n64:(a == 64)=false:=by simpa using h64
     obtain ⟨G,hG⟩:∃ G,F*2 ^ (53 - L)=G:=⟨_,rfl⟩
     obtain ⟨Y,hY⟩:∃ Y,Go.bits .and .u64 (IntKind.u64.wrap G) 4503599627370495=Y:=⟨_,rfl⟩
     obtain ⟨r,hr,hJ⟩:=join_det (a:=64) (e:=11) (f:=52) (.inr (.inr ⟨rfl,rfl,rfl⟩)) neg (1 - t+1023 - (53 - (L:Int))) (Y)
     have HJ:=Lib.hid hJ
     clear hJ
     refine ⟨r,0,hr,fun w=>?_⟩
     go_enter Tryz.func53,Tryz.ntmps53
     go_wp2_with (first
      | (go_at_call 92;refine (HOf.out _).mono ?_;rintro ee w1 ⟨rfl,hb1⟩;have R1:=Row3.new w1 168 (.int .i64 a) (.int .i64 e) (.int .i64 f);have c0:=R1.c0;have c1:=R1.c1;have c2:=R1.c2;have hb1:=hb1.alloc hb1.size (.cells #[.int .i64 a,.int .i64 e,.int .i64 f] 168))
      | (go_at_call 93;refine (HS.out _).mono ?_;rintro ee w2 ⟨rfl,hb2⟩;have R2:=R1.below hb2;have c0:=R2.c0;have c1:=R2.c1;have c2:=R2.c2;have hb2:=hb1.trans (hb2.mono hb1.size);have R3:=R2.alloc (.cells #[.bool neg,.int .i64 x,.int .u64 y] 172);have S3:=Row3.new w2 172 (.bool neg) (.int .i64 x) (.int .u64 y);have c0:=R3.c0;have c1:=R3.c1;have c2:=R3.c2;have d0:=S3.c0;have d1:=S3.c1;have d2:=S3.c2;have hb3:=hb2.alloc hb2.size (.cells #[.bool neg,.int .i64 x,.int .u64 y] 172))
      | (go_at_call 94;refine (HC.out _).mono ?_;rintro ee w4 ⟨rfl,hb4⟩;have R5:=R3.below hb4;have S5:=S3.below hb4;have c0:=R5.c0;have c1:=R5.c1;have c2:=R5.c2;have d0:=S5.c0;have d1:=S5.c1;have d2:=S5.c2;have d3:=S5.fz 0;have d4:=S5.fz 1;have d5:=S5.fz 2;have hb5:=hb3.trans (hb4.mono hb3.size);have hne:w1.heap.size ≠ w2.heap.size:=(by have:=R1.lt;have:=hb2.size;have:=R2.lt;omega);have hqw:=hb2.size;have hq4:=S5.lt;have S6:=S5.s2 (.int .u64 F);have hb6:=hb5.setCell (p:=⟨w2.heap.size,2,none⟩) hqw (.int .u64 F);have R6:=(show Row3 (w4.setCell ⟨w2.heap.size,2,none⟩ (.int .u64 F)) w1.heap.size 168 (.int .i64 a) (.int .i64 e) (.int .i64 f) from (Below.heap_setCell w4 ⟨w2.heap.size,2,none⟩ _ _ hne).trans R5))
      | (go_at_call 96;refine (HLen.out _).mono ?_;rintro ee w9 ⟨rfl,rfl⟩;have x0:=S6.c0;have x1:=S6.c1;have x2:=S6.c2;have y0:=R6.c0;have y1:=R6.c1;have y2:=R6.c2)
      | (go_at_call 95;refine (HB.out _).mono ?_;rintro ee w9 ⟨rfl,hb9⟩;have S9:=S6.below hb9;have x0:=S9.c0;have x1:=S9.c1;have x2:=S9.c2;have x3:=S9.fz 0;have x4:=S9.fz 1;have x5:=S9.fz 2;have hb8:=hb6.trans (hb9.mono hb6.size)))
     have hS7:=(S9.s1 (.int .i64 (1 - t+1023 - (53 - (L:Int))))).s2 (.int .u64 Y)
     have hB7:=(hb8.setCell (p:=⟨w2.heap.size,1,none⟩) hqw (.int .i64 (1 - t+1023 - (53 - (L:Int))))).setCell (p:=⟨w2.heap.size,2,none⟩) hqw (.int .u64 Y)
     generalize (w9.setCell ⟨w2.heap.size,1,none⟩ (.int .i64 (1 - t+1023 - (53 - (L:Int))))).setCell ⟨w2.heap.size,2,none⟩ (.int .u64 Y)=W6 at hS7 hB7 ⊢
     have k0:=hS7.c0
     have k1:=hS7.c1
     have k2:=hS7.c2
     have HS7:=Lib.hid hS7
     have HB7:=Lib.hid hB7
     clear hS7 hB7 S9 hb8 hb9 S6 hb6 R6 hb5 R5 S5 hb3 R3 S3 R1 R2 hb2 hb1
     go_region_with (first
      | (go_at_call 97;refine (Qa1 _).mono ?_;rintro ee w7 ⟨rfl,hb7⟩;have S8:=Row3.below (show Row3 W6.drew _ _ _ _ _ from HS7.out) hb7;have k0:=S8.c0;have k1:=S8.c1;have k2:=S8.c2;have HB8:=Lib.hid (HB7.out.drew.trans (hb7.mono HB7.out.drew.size));clear hb7 S8)
      | (go_at_call 98;refine (HJ.out _).mono ?_;rintro ee w8 ⟨rfl,hb8⟩;have HB9:=Lib.hid (HB8.out.trans (Below.mono hb8 HB8.out.size));clear hb8))
     all_goals
      go_wp2
      exact bodyPost_ret (v:=.tuple #[.int .u64 r,.int .i64 0]) (by simp [results,Tryz.results53,go_sem]) rfl ⟨rfl,HB9.out⟩
 have b3:(c == 3)=false:=by simpa using h3
 have b4:(c == 4)=false:=by simpa using h4
 have b2:(c == 2)=false:=by simpa using h2
 have b1:(c == 1)=false:=by simpa using h1
 obtain ⟨r,hr,hJ⟩:=join_det (a:=64) (e:=11) (f:=52) (.inr (.inr ⟨rfl,rfl,rfl⟩)) neg (x) (F)
 have HJ:=Lib.hid hJ
 clear hJ
 refine ⟨r,0,hr,fun w=>?_⟩
 go_enter Tryz.func53,Tryz.ntmps53
 go_wp2_with (first
  | (go_at_call 92;refine (HOf.out _).mono ?_;rintro ee w1 ⟨rfl,hb1⟩;have R1:=Row3.new w1 168 (.int .i64 a) (.int .i64 e) (.int .i64 f);have c0:=R1.c0;have c1:=R1.c1;have c2:=R1.c2;have hb1:=hb1.alloc hb1.size (.cells #[.int .i64 a,.int .i64 e,.int .i64 f] 168))
  | (go_at_call 93;refine (HS.out _).mono ?_;rintro ee w2 ⟨rfl,hb2⟩;have R2:=R1.below hb2;have c0:=R2.c0;have c1:=R2.c1;have c2:=R2.c2;have hb2:=hb1.trans (hb2.mono hb1.size);have R3:=R2.alloc (.cells #[.bool neg,.int .i64 x,.int .u64 y] 172);have S3:=Row3.new w2 172 (.bool neg) (.int .i64 x) (.int .u64 y);have c0:=R3.c0;have c1:=R3.c1;have c2:=R3.c2;have d0:=S3.c0;have d1:=S3.c1;have d2:=S3.c2;have hb3:=hb2.alloc hb2.size (.cells #[.bool neg,.int .i64 x,.int .u64 y] 172))
  | (go_at_call 94;refine (HC.out _).mono ?_;rintro ee w4 ⟨rfl,hb4⟩;have R5:=R3.below hb4;have S5:=S3.below hb4;have c0:=R5.c0;have c1:=R5.c1;have c2:=R5.c2;have d0:=S5.c0;have d1:=S5.c1;have d2:=S5.c2;have d3:=S5.fz 0;have d4:=S5.fz 1;have d5:=S5.fz 2;have hb5:=hb3.trans (hb4.mono hb3.size);have hne:w1.heap.size ≠ w2.heap.size:=(by have:=R1.lt;have:=hb2.size;have:=R2.lt;omega);have hqw:=hb2.size;have hq4:=S5.lt;have S6:=S5.s2 (.int .u64 F);have hb6:=hb5.setCell (p:=⟨w2.heap.size,2,none⟩) hqw (.int .u64 F);have R6:=(show Row3 (w4.setCell ⟨w2.heap.size,2,none⟩ (.int .u64 F)) w1.heap.size 168 (.int .i64 a) (.int .i64 e) (.int .i64 f) from (Below.heap_setCell w4 ⟨w2.heap.size,2,none⟩ _ _ hne).trans R5)))
 have hS7:=S6
 have hB7:=hb6
 generalize w4.setCell ⟨w2.heap.size,2,none⟩ (.int .u64 F)=W6 at hS7 hB7 ⊢
 have k0:=hS7.c0
 have k1:=hS7.c1
 have k2:=hS7.c2
 have HS7:=Lib.hid hS7
 have HB7:=Lib.hid hB7
 clear hS7 hB7 S6 hb6 R6 hb5 R5 S5 hb3 R3 S3 R1 R2 hb2 hb1
 go_region_with (first
  | (go_at_call 97;refine (Qa1 _).mono ?_;rintro ee w7 ⟨rfl,hb7⟩;have S8:=Row3.below (show Row3 W6.drew _ _ _ _ _ from HS7.out) hb7;have k0:=S8.c0;have k1:=S8.c1;have k2:=S8.c2;have HB8:=Lib.hid (HB7.out.drew.trans (hb7.mono HB7.out.drew.size));clear hb7 S8)
  | (go_at_call 98;refine (HJ.out _).mono ?_;rintro ee w8 ⟨rfl,hb8⟩;have HB9:=Lib.hid (HB8.out.trans (Below.mono hb8 HB8.out.size));clear hb8))
 all_goals
  go_wp2
  exact bodyPost_ret (v:=.tuple #[.int .u64 r,.int .i64 0]) (by simp [results,Tryz.results53,go_sem]) rfl ⟨rfl,HB9.out⟩
def BAt (W:World) (g o:Nat) (bs:List Int):Prop:=∀ j b,bs[j]? = some b→W.cell? ⟨g,o+j,none⟩=some (.int .u8 b)
def limbSet (bs:List Int) (n i:Nat) (L:List Int):List Int:=L.set (i / 4) (Go.bits .or .u32 (L.getD (i / 4) 0) (IntKind.u32.wrap (bs.getD (n - 1 - i) 0*2 ^ (8*(i % 4)))))
def limbGo (bs:List Int) (n i:Nat) (L:List Int):List Int:=if i<n then limbGo bs n (i+1) (limbSet bs n i L) else L
termination_by n - i
def limbsF (bs:List Int):List Int:=limbGo bs bs.length 0 (List.replicate ((bs.length+3) / 4) 0)
theorem limbSet_len (bs:List Int) (n i:Nat) (L:List Int):(limbSet bs n i L).length=L.length:=by simp [limbSet]
theorem limbGo_len (bs:List Int) (n i:Nat) (L:List Int):(limbGo bs n i L).length=L.length:=by
 fun_induction limbGo bs n i L with
 | case1 i L h ih=>rw [ih,limbSet_len]
 | case2=>rfl
theorem limbsF_len (bs:List Int):(limbsF bs).length=(bs.length+3) / 4:=by rw [limbsF,limbGo_len,List.length_replicate]
theorem wrap_u32_range (n:Int):0≤IntKind.u32.wrap n∧IntKind.u32.wrap n<4294967296:=by rw [IntKind.wrap_u32];omega
theorem limbGo_range (bs:List Int) (n i:Nat) (L:List Int) (h:∀ x ∈ L,0≤x∧x<4294967296):∀ x ∈ limbGo bs n i L,0≤x∧x<4294967296:=by
 fun_induction limbGo bs n i L with
 | case1 i L hlt ih =>
   refine ih fun x hx=>?_
   rcases List.mem_or_eq_of_mem_set hx with hx | rfl
   · exact h x hx
   · exact wrap_u32_range _
 | case2=>exact h
def LimbPost (L:List Int) (w:World) (e:Ending) (w':World):Prop:=∃ v,e=.returned (.tuple #[v,.int .i64 0])∧w'.ownsRow w.heap.size 152 1 v L.length (L.map (Value.int .u32))∧Below w.heap.size w w'
theorem info152:(Tryz.prog.info? 152).map (fun i=>(i.zero,i.size,i.bytes))=some (some (.int .u32 0),1,4):=by kernel_rfl
theorem getD_get {L:List Int} {i:Nat} (h:i<L.length):L[i]? = some (L.getD i 0):=by
 rw [List.getD_eq_getElem?_getD,List.getElem?_eq_getElem h];rfl
set_option maxHeartbeats 8000000 in
set_option maxRecDepth 100000 in
theorem frombytes_any (bs:List Int) (hbs:∀ b ∈ bs,0≤b∧b<256) (g o n c:Nat) (hlen:bs.length=n) (hn:n≤16384) (hne:n=0 ∨ bs.getD 0 0 ≠ 0) (hnc:n≤c) (w:World) (hB:BAt w g o bs) (hg:g<w.heap.size) :
 Calls Tryz.prog 85 #[.slice (some ⟨g,o,none⟩) n c] w (LimbPost (limbsF bs) w):=by
 obtain ⟨m,hm⟩:∃ m,(n+3) / 4=m:=⟨_,rfl⟩
 obtain ⟨i0,hi,hz0,hz1,hz2⟩:=info_parts info152
 have hlf:limbsF bs=limbGo bs n 0 (List.replicate m 0):=by rw [limbsF,hlen,hm]
 have hmn:m≤4097:=by omega
 have hnz:(n:Int)≤16384:=by omega
 have w1:IntKind.i64.wrap ((n:Int)+3)=(n:Int)+3:=by rw [IntKind.wrap_i64];omega
 have q1:((n:Int)+3) / 4=(m:Int):=by omega
 have b0 : 0 < n → ∃ x, x ≠ 0 ∧ w.cell? ⟨g, o, none⟩ = some (.int .u8 x) := fun h => ⟨bs.getD 0 0, by rcases hne with h' | h'; omega; exact h', by have := hB 0 _ (getD_get (by omega)); exact this⟩
 have HB:=Lib.hid hB
 have HLF:=Lib.hid hlf
 clear hB hlf
 go_enter Tryz.func85,Tryz.ntmps85
 go_wp2_with fail
 go_loopw [0] (fun s0 wr=>s0=.slice (some ⟨g,o,none⟩) n c∧wr=w) (fun _ _=>0)
 case atStart=>exact ⟨rfl,rfl⟩
 case round =>
  obtain ⟨rfl,hwr⟩:=hrel
  subst wr
  by_cases h0:0<n
  · obtain ⟨x,hx0,hx⟩:=b0 h0
    have hxb:(x == 0)=false:=by simpa using hx0
    have h0z:(0:Int)<(n:Int):=by omega
    clear b0
    go_wp2_with (at_make;(refine wpList_make_full _ rfl (.tmp 23) (.tmp 23) 150 rfl w.heap.size 152 i0 (.int .u32 0) 1 Tryz.underlying150 hi hz0 hz1 .i64 .i64 (((n:Int)+3) / 4) (((n:Int)+3) / 4) m rfl rfl q1 q1 (by rw [hz2];omega) (by unfold maxLen;omega) (Nat.le_refl _) ?_;intro w2 hown hgr))
    have hown0:w2.ownsRow w.heap.size 152 1 (.slice (some ⟨w.heap.size,0,none⟩) m m) m ((List.replicate m (0:Int)).map (Value.int .u32)):=by
     have h:=hown
     rw [Nat.mul_one,show (Value.int .u32 0).cells=#[.int .u32 0] from rfl,toList_madeCells_one] at h
     rw [List.map_replicate]
     exact h
    have hbw:Below w.heap.size w w2:=(Below.refl _ w).grown hgr (Nat.le_refl _) (fun k e=>by cases e)
    obtain ⟨q,hq⟩:∃ q,w.heap.size=q:=⟨_,rfl⟩
    rw [hq] at hown0
    have HO0:=Lib.hid hown0
    have HB0:=Lib.hid hbw
    clear hown hgr hown0 hbw hx hxb hx0
    rw [hq]
    go_loopw [27] (fun i wi=>∃ (k:Nat) (L:List Int),k≤n∧i=.int .i64 k∧L.length=m∧Hid (limbGo bs n k L=limbGo bs n 0 (List.replicate m 0))∧Hid (wi.ownsRow q 152 1 (.slice (some ⟨q,0,none⟩) m m) m (L.map (Value.int .u32)))∧Hid (Below w.heap.size w wi)) (fun i _=>n - (intOf i).toNat)
    case atStart=>exact ⟨0,_,by omega,rfl,by rw [List.length_replicate],rfl,HO0,HB0⟩
    case round =>
     clear HO0 HB0
     obtain ⟨k,L,hk,rfl,hL,HEQ,HO,HB1⟩:=hrel
     by_cases hlt:k<n
     · have hltz:(k:Int)<(n:Int):=by omega
       obtain ⟨kq,hkq⟩:∃ kq,k / 4=kq:=⟨_,rfl⟩
       obtain ⟨kr,hkr⟩:∃ kr,k % 4=kr:=⟨_,rfl⟩
       have e1:(k:Int) / 4=(kq:Int):=by omega
       have e2:(k:Int) % 4=(kr:Int):=by omega
       have e3:(kq:Int)<(m:Int):=by omega
       obtain ⟨kn,hkn⟩:∃ kn,n - 1 - k=kn:=⟨_,rfl⟩
       have e4:IntKind.i64.wrap ((n:Int) - 1)=(n:Int) - 1:=by rw [IntKind.wrap_i64];omega
       have e5:IntKind.i64.wrap ((n:Int) - 1 - (k:Int))=(kn:Int):=by rw [IntKind.wrap_i64];omega
       have e6:(kn:Int)<(n:Int):=by omega
       have e7:IntKind.i64.wrap (8*(kr:Int))=((8*kr:Nat):Int):=by rw [IntKind.wrap_i64];omega
       obtain ⟨u,hu⟩:∃ u,L.getD kq 0=u:=⟨_,rfl⟩
       obtain ⟨y,hy⟩:∃ y,bs.getD kn 0=y:=⟨_,rfl⟩
       have hyb:bs[kn]? = some y:=by rw [← hy];exact getD_get (by omega)
       have hyr:=hbs y (List.mem_of_getElem? hyb)
       have e8:IntKind.u32.wrap y=y:=by rw [IntKind.wrap_u32];omega
       have c1:wr.cell? ⟨q,kq,none⟩=some (.int .u32 u):=by
        have:=HO.out.cells (g:=q) rfl kq (.int .u32 u) (by rw [List.getElem?_map,getD_get (by omega),hu];rfl)
        rw [WideShapes.add_plain,Nat.zero_add] at this
        exact this
       have c2:wr.cell? ⟨g,o+kn,none⟩=some (.int .u8 y):=(HB1.out.cell (p:=⟨g,o+kn,none⟩) hg).trans (HB.out kn y hyb)
       have f1:wr.frozen? ⟨q,kq,none⟩=false:=by
        obtain ⟨cs,hc⟩:=Qba HO.out q rfl
        exact frozen_of_row wr q kq _ _ hc
       have HL:=Lib.hid hL
       go_wp2_with fail
       go_region
       have hs:=HO.out.stored kq (.int .u32 (Go.bits .or .u32 u (y*2 ^ (8*kr) % 4294967296)))
       have hE:limbSet bs n k L=L.set kq (Go.bits .or .u32 u (y*2 ^ (8*kr) % 4294967296)):=by
        unfold limbSet
        rw [hkq,hkr,hkn,hu,hy,IntKind.wrap_u32]
       rw [← List.map_set,← hE] at hs
       have hs2:=hs.1.drew
       have hb2:=(HB1.out.setCell (p:=⟨q,kq,none⟩) (by rw [← hq];exact Nat.le_refl _) (.int .u32 (Go.bits .or .u32 u (y*2 ^ (8*kr) % 4294967296)))).drew
       go_wp2
       go_roundw
       case rel =>
        refine ⟨k+1,limbSet bs n k L,by omega,by go_num,by rw [limbSet_len];exact HL.out,(show Hid _ from ?_),hs2,hb2⟩
        have:=HEQ.out
        rw [limbGo,if_pos hlt] at this
        exact this
       case measure=>simp [intOf];omega
     · obtain rfl:k=n:=by omega
       have hkk:¬ (k:Int)<(k:Int):=by omega
       have hf:L=limbsF bs:=by
        have:=HEQ.out
        rw [limbGo,if_neg (Nat.lt_irrefl _)] at this
        rw [HLF.out]
        exact this
       have HL:=Lib.hid hL
       have HF:=Lib.hid hf
       clear hL hf
       go_wp2
       refine bodyPost_ret (v:=.tuple #[.slice (some ⟨q,0,none⟩) m m,.int .i64 0]) (by simp [results,Tryz.results85,go_sem]) rfl ⟨_,rfl,?_,HB1.out⟩
       rw [← HF.out,HL.out,hq]
       exact HO.out
  · obtain rfl:n=0:=by omega
    obtain rfl:m=0:=by omega
    have hz:¬ (0:Int)<((0:Nat):Int):=by omega
    go_wp2_with (at_make;(refine wpList_make_full _ rfl (.tmp 23) (.tmp 23) 150 rfl w.heap.size 152 i0 (.int .u32 0) 1 Tryz.underlying150 hi hz0 hz1 .i64 .i64 0 0 0 rfl rfl rfl rfl (by rw [hz2];omega) (by unfold maxLen;omega) (Nat.le_refl _) ?_;intro w2 hown hgr))
    have hown0:w2.ownsRow w.heap.size 152 1 (.slice (some ⟨w.heap.size,0,none⟩) 0 0) 0 []:=by
     have h:=hown
     rw [Nat.zero_mul,show (Value.int .u32 0).cells=#[.int .u32 0] from rfl,toList_madeCells_one] at h
     exact h
    have hbw:Below w.heap.size w w2:=(Below.refl _ w).grown hgr (Nat.le_refl _) (fun k e=>by cases e)
    have HO0:=Lib.hid hown0
    have HB0:=Lib.hid hbw
    clear hown hgr hown0 hbw
    have hE:limbsF bs=[]:=by
     rw [HLF.out,limbGo,if_neg (Nat.lt_irrefl _)];rfl
    have HE:=Lib.hid hE
    clear hE
    obtain ⟨q,hq⟩:∃ q,w.heap.size=q:=⟨_,rfl⟩
    rw [hq]
    rw [hq] at HO0
    go_loopw [27] (fun i wi=>i=.int .i64 0∧Hid (wi.ownsRow q 152 1 (.slice (some ⟨q,0,none⟩) 0 0) 0 [])∧Hid (Below w.heap.size w wi)) (fun _ _=>0)
    case atStart=>exact ⟨rfl,HO0,HB0⟩
    case round =>
     clear HO0 HB0
     obtain ⟨rfl,HO,HB1⟩:=hrel
     go_wp2
     refine bodyPost_ret (v:=.tuple #[.slice (some ⟨q,0,none⟩) 0 0,.int .i64 0]) (by simp [results,Tryz.results85,go_sem]) rfl ⟨_,rfl,?_,HB1.out⟩
     rw [HE.out,hq]
     exact HO.out
end Go.Proofs.YtfmceonbejlhlaaGreatDoor
