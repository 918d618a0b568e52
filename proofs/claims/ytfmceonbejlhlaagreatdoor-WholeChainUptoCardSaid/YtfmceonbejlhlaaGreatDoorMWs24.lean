import Derived.Test.YtfmceonbejlhlaaGreatDoorMWs8
import Derived.Test.YtfmceonbejlhlaaGreatDoorMWs23
namespace Go.Proofs.YtfmceonbejlhlaaGreatDoor
open Go.RowKit Go.Proofs.YtfmceonbejlhlaaGreatDoorW.PrintWords Go.Proofs.YtfmceonbejlhlaaGreatDoorW.PrintLast Go.Proofs.YtfmceonbejlhlaaGreatDoorW.PrintMore
set_option linter.unusedVariables false
def cls (x y:Int):Int:=if x=2047 then (if y ≠ 0 then 4 else 3) else if x ≠ 0 then 2 else if y ≠ 0 then 1 else 0
theorem class_64 (neg:Bool) (x y:Int):Det 94 #[.agg #[.int .i64 64,.int .i64 11,.int .i64 52],.agg #[.bool neg,.int .i64 x,.int .u64 y]] (.int .i64 (cls x y)):=by
 have ht:P.Qas.f 64 11 52=some 2047:=by kernel_rfl
 have:P.Qah.f 1 64 11 52 neg x y=some (cls x y):=by
  unfold P.Qah.f cls
  rw [ht,Option.bind_some]
  by_cases h1:x=2047
  · rw [if_pos h1,if_pos h1]
    simp only [P.Qah.j0,ht,Option.bind_some]
    by_cases h2:y=0
    · rw [if_neg (by simp [h2]),if_pos h1,if_neg (by simp [h2])]
    · rw [if_pos (by simp [h2]),if_pos h2]
  · rw [if_neg h1,if_neg h1]
    simp only [P.Qah.j0,ht,Option.bind_some]
    by_cases h2:x=0
    · by_cases h3:y=0
      · rw [if_neg (by decide),if_neg h1,if_pos h2,if_pos h3,if_neg (by simp [h2]),if_neg (by simp [h3])]
      · rw [if_neg (by decide),if_neg h1,if_pos h2,if_neg h3,if_neg (by simp [h2]),if_pos h3]
    · rw [if_neg (by decide),if_neg h1,if_neg h2,if_pos h2]
 exact fun w=>P.Qah.calls 1 64 11 52 neg x y _ w this
theorem split_64 (b:Int) (hb:U64 b):Det 93 #[.agg #[.int .i64 64,.int .i64 11,.int .i64 52],.int .u64 b] (.agg #[.bool (b / 9223372036854775808 == 1),.int .i64 ((b / 4503599627370496) % 2048),.int .u64 (b % 4503599627370496)]):=by
 have hb2:=hb
 obtain ⟨h0,h1⟩:=hb2
 refine fun w=>P.Qau.calls 64 11 52 b (b / 9223372036854775808 == 1) _ _ w ?_
 have e1:P.Qau.f 64 11 52 b=some ((b / 9223372036854775808 == 1),Go.bits .and .i64 (wrap64 (b / 4503599627370496)) (2 ^ 11 - 1),Go.bits .and .u64 b (2 ^ 52 - 1)):=by kernel_rfl
 have e2:wrap64 (b / 4503599627370496)=b / 4503599627370496:=by unfold wrap64;omega
 rw [e1,e2,i64_mask 11 (by decide) (by omega) (by omega),u64_mask 52 (by decide) hb]
 rfl
theorem or_52 {y:Int} (h0:0≤y) (h1:y<4503599627370496):Go.bits .or .u64 y 4503599627370496=y+4503599627370496:=by
 obtain ⟨n,rfl⟩:∃ n:Nat,y=n:=⟨y.toNat,by omega⟩
 have h:=u64_or_nat n 4503599627370496 (by omega) (by omega)
 have e:n ||| 4503599627370496=n+4503599627370496:=by
  have:=Nat.two_pow_add_eq_or_of_lt (b:=n) (i:=52) (by omega) 1
  rw [Nat.or_comm,show (4503599627370496:Nat)=2 ^ 52*1 by decide,← this,Nat.add_comm]
 rw [e] at h
 simpa using h
theorem Below.drewN' {B:Nat} {a w:World} (h:Below B a w) (k:Nat):Below B a (w.drewN k):=h.trans ⟨rfl,rfl,rfl,Nat.le_refl _,fun _ _=>rfl⟩
set_option maxHeartbeats 8000000 in
set_option maxRecDepth 100000 in
theorem exact_det (b:Nat) (hb:b<18446744073709551616) :
 (∃ (neg:Bool) (m k:Nat),(m<9007199254740992∧k≤2045∧(m<4503599627370496→k=0)∧b % 9223372036854775808=m+k*4503599627370496)∧Det 154 #[.int .u64 b] (.tuple #[.bool neg,.int .u64 m,.int .i64 ((k:Int) - 1074),.bool true])) ∨ Det 154 #[.int .u64 b] (.tuple #[.bool false,.int .u64 0,.int .i64 0,.bool false]):=by
 have hS:=split_64 (b:Int) (by unfold U64;omega)
 obtain ⟨neg,hneg⟩:∃ neg,((b:Int) / 9223372036854775808 == 1)=neg:=⟨_,rfl⟩
 obtain ⟨x,hx⟩:∃ x,((b:Int) / 4503599627370496) % 2048=x:=⟨_,rfl⟩
 obtain ⟨y,hy⟩:∃ y,(b:Int) % 4503599627370496=y:=⟨_,rfl⟩
 rw [hneg,hx,hy] at hS
 have hC:=class_64 neg x y
 obtain ⟨c,hc⟩:∃ c,cls x y=c:=⟨_,rfl⟩
 rw [hc] at hC
 have HS:=Lib.hid hS
 have HC:=Lib.hid hC
 have hxr:0≤x∧x<2048:=by omega
 have hyr:0≤y∧y<4503599627370496:=by omega
 have HR:=Lib.hid (show (b:Int) % 9223372036854775808=x*4503599627370496+y by omega)
 have hcc:c=4 ∨ c=3 ∨ (c=2∧1≤x∧x≤2046) ∨ ((c=1 ∨ c=0)∧x=0):=by
  rw [← hc]
  unfold cls
  split
  · split
    · exact .inl rfl
    · exact .inr (.inl rfl)
  · split
    · exact .inr (.inr (.inl ⟨rfl,by omega,by omega⟩))
    · split
      · exact .inr (.inr (.inr ⟨.inl rfl,by omega⟩))
      · exact .inr (.inr (.inr ⟨.inr rfl,by omega⟩))
 have i2:=fun W=>Qch W
 clear hS hC hc hx hy hneg
 rcases hcc with rfl | rfl | ⟨rfl,hx1,hx2⟩ | ⟨hc,rfl⟩
 · refine .inr fun w=>?_
   go_enter Tryz.func154,Tryz.ntmps154
   go_upto_region 4 with (first
    | (go_at_call 97;refine (Qa1 _).mono ?_;rintro ee w1 ⟨rfl,hb1⟩;have R1:=Row3.new w1 168 (.int .i64 64) (.int .i64 11) (.int .i64 52);have c0:=R1.c0;have c1:=R1.c1;have c2:=R1.c2;have hb1:=hb1.alloc hb1.size (.cells #[.int .i64 64,.int .i64 11,.int .i64 52] 168))
    | (go_at_call 93;refine (HS.out _).mono ?_;rintro ee w2 ⟨rfl,hb2⟩;have R2:=R1.below hb2;have c0:=R2.c0;have c1:=R2.c1;have c2:=R2.c2;have hb2:=hb1.trans (hb2.mono hb1.size);have hq2:=hb2.size;have R3:=R2.alloc (.cells #[.bool neg,.int .i64 x,.int .u64 y] 172);have S3:=Row3.new w2 172 (.bool neg) (.int .i64 x) (.int .u64 y);have c0:=R3.c0;have c1:=R3.c1;have c2:=R3.c2;have d0:=S3.c0;have d1:=S3.c1;have d2:=S3.c2;have hb3:=hb2.alloc hb2.size (.cells #[.bool neg,.int .i64 x,.int .u64 y] 172))
    | (go_at_call 94;refine (HC.out _).mono ?_;rintro ee w4 ⟨rfl,hb4⟩;have S5:=S3.below hb4;have d0:=S5.c0;have d1:=S5.c1;have d2:=S5.c2;have d3:=S5.fz 0;have d4:=S5.fz 1;have d5:=S5.fz 2;have hb5:=hb3.trans (hb4.mono hb3.size)))
   have HS5:=Lib.hid S5
   have HB5:=Lib.hid hb5
   have HQ2:=Lib.hid hq2
   clear S5 hb5 hq2 hb3 S3 R3 R2 hb2 R1 hb1 HS HC
   generalize w2.heap.size=q2 at HS5 HQ2 d0 d1 d2 d3 d4 d5 ⊢
   go_wp2
   exact bodyPost_ret (v:=.tuple #[.bool false,.int .u64 0,.int .i64 0,.bool false]) (by simp [results,Tryz.results154,go_sem]) rfl ⟨rfl,HB5.out⟩
 · refine .inr fun w=>?_
   go_enter Tryz.func154,Tryz.ntmps154
   go_upto_region 4 with (first
    | (go_at_call 97;refine (Qa1 _).mono ?_;rintro ee w1 ⟨rfl,hb1⟩;have R1:=Row3.new w1 168 (.int .i64 64) (.int .i64 11) (.int .i64 52);have c0:=R1.c0;have c1:=R1.c1;have c2:=R1.c2;have hb1:=hb1.alloc hb1.size (.cells #[.int .i64 64,.int .i64 11,.int .i64 52] 168))
    | (go_at_call 93;refine (HS.out _).mono ?_;rintro ee w2 ⟨rfl,hb2⟩;have R2:=R1.below hb2;have c0:=R2.c0;have c1:=R2.c1;have c2:=R2.c2;have hb2:=hb1.trans (hb2.mono hb1.size);have hq2:=hb2.size;have R3:=R2.alloc (.cells #[.bool neg,.int .i64 x,.int .u64 y] 172);have S3:=Row3.new w2 172 (.bool neg) (.int .i64 x) (.int .u64 y);have c0:=R3.c0;have c1:=R3.c1;have c2:=R3.c2;have d0:=S3.c0;have d1:=S3.c1;have d2:=S3.c2;have hb3:=hb2.alloc hb2.size (.cells #[.bool neg,.int .i64 x,.int .u64 y] 172))
    | (go_at_call 94;refine (HC.out _).mono ?_;rintro ee w4 ⟨rfl,hb4⟩;have S5:=S3.below hb4;have d0:=S5.c0;have d1:=S5.c1;have d2:=S5.c2;have d3:=S5.fz 0;have d4:=S5.fz 1;have d5:=S5.fz 2;have hb5:=hb3.trans (hb4.mono hb3.size)))
   have HS5:=Lib.hid S5
   have HB5:=Lib.hid hb5
   have HQ2:=Lib.hid hq2
   clear S5 hb5 hq2 hb3 S3 R3 R2 hb2 R1 hb1 HS HC
   generalize w2.heap.size=q2 at HS5 HQ2 d0 d1 d2 d3 d4 d5 ⊢
   go_wp2
   exact bodyPost_ret (v:=.tuple #[.bool false,.int .u64 0,.int .i64 0,.bool false]) (by simp [results,Tryz.results154,go_sem]) rfl ⟨rfl,HB5.out⟩
 · obtain ⟨m,hm⟩:∃ m:Nat,y+4503599627370496=m:=⟨(y+4503599627370496).toNat,by omega⟩
   obtain ⟨k,hk⟩:∃ k:Nat,x - 1=k:=⟨(x - 1).toNat,by omega⟩
   have o1:=or_52 hyr.1 hyr.2
   rw [hm] at o1
   have o2:IntKind.i64.wrap (x - 1)=(k:Int):=by rw [IntKind.wrap_i64];omega
   obtain ⟨p1,hp1⟩:∃ p1,(k:Int) - 1023=p1:=⟨_,rfl⟩
   obtain ⟨p2,hp2⟩:∃ p2,p1 - 52=p2:=⟨_,rfl⟩
   obtain ⟨p3,hp3⟩:∃ p3,p2+1=p3:=⟨_,rfl⟩
   have v1:IntKind.i64.wrap ((k:Int) - 1023)=p1:=by rw [IntKind.wrap_i64];omega
   have v2:IntKind.i64.wrap (p1 - 52)=p2:=by rw [IntKind.wrap_i64];omega
   have v3:IntKind.i64.wrap (p2+1)=p3:=by rw [IntKind.wrap_i64];omega
   have HP:=Lib.hid (show p3=(k:Int) - 1074 by omega)
   clear hp1 hp2 hp3
   have HK:=Lib.hid (show b % 9223372036854775808=m+k*4503599627370496∧m<9007199254740992∧4503599627370496≤m∧k≤2045 by have:=HR.out;omega)
   refine .inl ⟨neg,m,k,⟨HK.out.2.1,HK.out.2.2.2,fun h=>by have:=HK.out.2.2.1;omega,HK.out.1⟩,fun w=>?_⟩
   rw [← HP.out]
   go_enter Tryz.func154,Tryz.ntmps154
   go_upto_region 4 with (first
    | (go_at_call 97;refine (Qa1 _).mono ?_;rintro ee w1 ⟨rfl,hb1⟩;have R1:=Row3.new w1 168 (.int .i64 64) (.int .i64 11) (.int .i64 52);have c0:=R1.c0;have c1:=R1.c1;have c2:=R1.c2;have hb1:=hb1.alloc hb1.size (.cells #[.int .i64 64,.int .i64 11,.int .i64 52] 168))
    | (go_at_call 93;refine (HS.out _).mono ?_;rintro ee w2 ⟨rfl,hb2⟩;have R2:=R1.below hb2;have c0:=R2.c0;have c1:=R2.c1;have c2:=R2.c2;have hb2:=hb1.trans (hb2.mono hb1.size);have hq2:=hb2.size;have R3:=R2.alloc (.cells #[.bool neg,.int .i64 x,.int .u64 y] 172);have S3:=Row3.new w2 172 (.bool neg) (.int .i64 x) (.int .u64 y);have c0:=R3.c0;have c1:=R3.c1;have c2:=R3.c2;have d0:=S3.c0;have d1:=S3.c1;have d2:=S3.c2;have hb3:=hb2.alloc hb2.size (.cells #[.bool neg,.int .i64 x,.int .u64 y] 172))
    | (go_at_call 94;refine (HC.out _).mono ?_;rintro ee w4 ⟨rfl,hb4⟩;have S5:=S3.below hb4;have d0:=S5.c0;have d1:=S5.c1;have d2:=S5.c2;have d3:=S5.fz 0;have d4:=S5.fz 1;have d5:=S5.fz 2;have hb5:=hb3.trans (hb4.mono hb3.size)))
   have HS5:=Lib.hid S5
   have HB5:=Lib.hid hb5
   have HQ2:=Lib.hid hq2
   clear S5 hb5 hq2 hb3 S3 R3 R2 hb2 R1 hb1 HS HC
   generalize w2.heap.size=q2 at HS5 HQ2 d0 d1 d2 d3 d4 d5 ⊢
   have hS6:=HS5.out.s2 (.int .u64 m)
   have t1:=hS6.c1
   have t2:=hS6.fz 1
   have hS7:=hS6.s1 (.int .i64 k)
   have s0:=hS7.c0
   have s1:=hS7.c1
   have s2:=hS7.c2
   have hB7:Below w.heap.size w ((w4.setCell ⟨q2,2,none⟩ (.int .u64 m)).setCell ⟨q2,1,none⟩ (.int .i64 k)):=(HB5.out.setCell (p:=⟨q2,2,none⟩) HQ2.out _).setCell (p:=⟨q2,1,none⟩) HQ2.out _
   have HB7:=Lib.hid hB7
   clear hm hk hB7 hS7 hS6 hx1 hx2 hxr hyr
   go_wp2_with fail
   go_quiet (fail)
   go_wp2
   exact bodyPost_ret (v:=.tuple #[.bool neg,.int .u64 m,.int .i64 p3,.bool true]) (by simp [results,Tryz.results154,go_sem]) rfl ⟨rfl,Below.drewN' HB7.out nq⟩
 · obtain ⟨m,rfl⟩:∃ m:Nat,y=m:=⟨y.toNat,by omega⟩
   have HK:=Lib.hid (show b % 9223372036854775808=m∧m<4503599627370496 by have:=HR.out;omega)
   refine .inl ⟨neg,m,0,⟨by have:=HK.out;omega,by omega,fun _=>rfl,by have:=HK.out;omega⟩,fun w=>?_⟩
   clear hxr hyr
   rcases hc with rfl | rfl
   all_goals
    go_enter Tryz.func154,Tryz.ntmps154
    go_upto_region 4 with (first
     | (go_at_call 97;refine (Qa1 _).mono ?_;rintro ee w1 ⟨rfl,hb1⟩;have R1:=Row3.new w1 168 (.int .i64 64) (.int .i64 11) (.int .i64 52);have c0:=R1.c0;have c1:=R1.c1;have c2:=R1.c2;have hb1:=hb1.alloc hb1.size (.cells #[.int .i64 64,.int .i64 11,.int .i64 52] 168))
     | (go_at_call 93;refine (HS.out _).mono ?_;rintro ee w2 ⟨rfl,hb2⟩;have R2:=R1.below hb2;have c0:=R2.c0;have c1:=R2.c1;have c2:=R2.c2;have hb2:=hb1.trans (hb2.mono hb1.size);have hq2:=hb2.size;have R3:=R2.alloc (.cells #[.bool neg,.int .i64 0,.int .u64 m] 172);have S3:=Row3.new w2 172 (.bool neg) (.int .i64 0) (.int .u64 m);have c0:=R3.c0;have c1:=R3.c1;have c2:=R3.c2;have d0:=S3.c0;have d1:=S3.c1;have d2:=S3.c2;have hb3:=hb2.alloc hb2.size (.cells #[.bool neg,.int .i64 0,.int .u64 m] 172))
     | (go_at_call 94;refine (HC.out _).mono ?_;rintro ee w4 ⟨rfl,hb4⟩;have S5:=S3.below hb4;have d0:=S5.c0;have d1:=S5.c1;have d2:=S5.c2;have d3:=S5.fz 0;have d4:=S5.fz 1;have d5:=S5.fz 2;have hb5:=hb3.trans (hb4.mono hb3.size)))
    have HS5:=Lib.hid S5
    have HB5:=Lib.hid hb5
    have HQ2:=Lib.hid hq2
    clear S5 hb5 hq2 hb3 S3 R3 R2 hb2 R1 hb1 HS HC
    generalize w2.heap.size=q2 at HS5 HQ2 d0 d1 d2 d3 d4 d5 ⊢
    go_wp2_with fail
    go_quiet (fail)
    go_wp2
    exact bodyPost_ret (v:=.tuple #[.bool neg,.int .u64 m,.int .i64 (-1074),.bool true]) (by simp [results,Tryz.results154,go_sem]) rfl ⟨rfl,Below.drewN' HB5.out nq⟩
theorem andNot_sign {b:Nat} (h:b<18446744073709551616):Go.bits .andNot .u64 (b:Int) 9223372036854775808=((b % 9223372036854775808:Nat):Int):=by
 have h1:=u64_andNot_nat b 9223372036854775808 h (by omega)
 have h2:b &&& (18446744073709551615 - 9223372036854775808)=b % 9223372036854775808:=Nat.and_two_pow_sub_one_eq_mod b 63
 rw [h2] at h1
 simpa using h1
theorem two_at (w:World) (x y:Nat) (hx:x<4294967296) (hy:y<4294967296):NAt (w.alloc (.cells #[.int .u32 (x:Int),.int .u32 (y:Int)] 152)) (.slice (some ⟨w.heap.size,0,none⟩) 2 2) (x+4294967296*y):=by
 refine ⟨[x,y],⟨_,2,rfl,Nat.le_refl _,fun z hz=>?_,.inr ⟨w.heap.size,0,rfl,by simp,⟨_,_,heap_alloc_new w _⟩,fun i z hi=>?_⟩⟩,by simp [val],by simp⟩
 · rcases List.mem_cons.1 hz with rfl | hz
   · exact hx
   · rw [List.mem_singleton.1 hz];exact hy
 · match i,hi with
   | 0,hi=>injection hi with hi;subst hi;exact cell_of_row _ _ 0 _ _ _ (heap_alloc_new w _)
   | 1,hi=>injection hi with hi;subst hi;exact cell_of_row _ _ 1 _ _ _ (heap_alloc_new w _)
theorem index_pair0 (a b:Value) (W:World):(Instr.index 276 (.agg #[a,b]) (.int .i64 0)).run Tryz.prog W=.ok a W:=by kernel_rfl
theorem index_pair1 (a b:Value) (W:World):(Instr.index 276 (.agg #[a,b]) (.int .i64 1)).run Tryz.prog W=.ok b W:=by kernel_rfl
def ShPost (w:World) (en:Ending) (w':World):Prop:=∃ (t:ByteArray) (e f:Int),en=.returned (.tuple #[.string t,.int .i64 e,.int .i64 f])∧((f=0∧Dig t∧1≤t.size∧t.size≤800∧-2000≤e∧e≤2000) ∨ f=1)∧Below w.heap.size w w'
def Fl (m k wn:Nat) (x:Int):Prop:=x=(k:Int) - 1074∧0<m∧m<9007199254740992∧k≤2045∧(m<4503599627370496→k=0)∧wn=m+k*4503599627370496
def Hi (m:Nat) (x h:Int):Prop:=Ge10 (fA m x) (fB x) h∧exE x≤h∧h≤800
theorem Fl.bounds {m k wn:Nat} {x:Int} (h:Fl m k wn x) : -1074≤x∧x≤971∧-1074≤exE x∧exE x≤0:=by
 obtain ⟨h1,_,_,h2,_⟩:=h
 unfold exE
 split <;> omega
theorem Fl.a {m k wn:Nat} {x:Int} (h:Fl m k wn x):Bt (fA m x) 1100∧Bt (fB x) 1100∧fB x ≠ 0:=by
 have hb:=h.bounds
 obtain ⟨h1,h2,h3,h4,h5⟩:=h
 refine ⟨?_,?_,fB_ne x⟩
 · exact (Bt.mul (k:=53) (by unfold Bt;omega) (Bt.two x.toNat)).mono (by omega)
 · exact (Bt.two (-x).toNat).mono (by omega)
theorem RIn.far {w W:World} {q A B g j:Nat} {va vb o1 o2 u:Value} (h:RIn w W q A B va vb) (hg:Row2 W g 271 o1 o2) (hlt:q<g):RIn w (W.setCell ⟨g,j,none⟩ u) q A B va vb:=by
 obtain ⟨h1,h2,h3,h4⟩:=h
 exact ⟨(Below.heap_setCell W ⟨g,j,none⟩ u q (by show q ≠ g;omega)).trans h1,h2.stored hg (by decide),h3.stored hg (by decide),h4.setCell (p:=⟨g,j,none⟩) (by show q≤g;omega) u⟩
def LwIn (w2 W:World) (q A B:Nat) (va vb:Value) (j g:Nat) (ya yb:Value):Prop:=RIn w2 W q A B va vb∧Row2 W g 271 ya yb∧NAt W ya (A*10 ^ j)∧NAt W yb B∧q<g
theorem LwIn.next {w2 W W':World} {q A B j g:Nat} {va vb ya yb:Value} (h:LwIn w2 W q A B va vb j g ya yb) (hb:Below W.heap.size W W'):LwIn w2 W' q A B va vb j g ya yb :=
 ⟨h.1.next hb,h.2.1.below hb,h.2.2.1.below hb,h.2.2.2.1.below hb,h.2.2.2.2⟩
theorem y_next {w2 W:World} {q A B P Q g:Nat} {va vb o1 o2 ya yb:Value} (hR:RIn w2 W q A B va vb) (h:Row2 W g 271 o1 o2) (hlt:q<g) (hy:NAt W ya P) (hz:NAt W yb Q) :
 RIn w2 ((W.setCell ⟨g,0,none⟩ ya).setCell ⟨g,1,none⟩ yb) q A B va vb∧Row2 ((W.setCell ⟨g,0,none⟩ ya).setCell ⟨g,1,none⟩ yb) g 271 ya yb∧NAt ((W.setCell ⟨g,0,none⟩ ya).setCell ⟨g,1,none⟩ yb) ya P∧NAt ((W.setCell ⟨g,0,none⟩ ya).setCell ⟨g,1,none⟩ yb) yb Q :=
 ⟨(hR.far h hlt).far (h.s0 ya) hlt,(h.s0 ya).s1 yb,(hy.stored h (by decide)).stored (h.s0 ya) (by decide),(hz.stored h (by decide)).stored (h.s0 ya) (by decide)⟩
theorem succ_lt_ten {D k:Nat} (h:D<10 ^ k):D+1<10 ^ (k+1):=by
 rw [Nat.pow_succ]
 omega
theorem times_one (A B:Nat) (va vb:Value) (w:World) (h1:NAt w va A) (h2:NAt w vb B) (hA:Bt A 20000) (hB:Bt B 20000) :
 Calls Tryz.prog 155 #[.agg #[va,vb],.int .i64 0,.int .i64 1] w (RRet (A*10) B w):=by
 have:=times_ten A B 1 va vb w h1 h2 hA hB (by omega)
 rwa [show (1:Int).toNat=1 by decide,show (-(1:Int)).toNat=0 by decide,Nat.pow_zero,Nat.mul_one,Nat.pow_one] at this
set_option maxHeartbeats 8000000 in
set_option maxRecDepth 100000 in
theorem shortest_any (b:Nat) (hb:b<18446744073709551616) (w:World):Calls Tryz.prog 125 #[.int .u64 b] w (ShPost w):=by
 obtain ⟨wn,hwn⟩:∃ wn,b % 9223372036854775808=wn:=⟨_,rfl⟩
 have hsg:=andNot_sign hb
 rw [hwn] at hsg
 have hex:=exact_det b hb
 rw [hwn] at hex
 clear hwn
 rcases hex with ⟨neg,m,k,⟨hm,hk,hs,hwn⟩,hd⟩ | hd
 · have HEx:=Lib.hid (hd w)
   obtain ⟨x,hx⟩:∃ x,(k:Int) - 1074=x:=⟨_,rfl⟩
   rw [hx] at HEx
   clear hd
   by_cases hm0:m=0
   · subst hm0
     clear hm hk hs hwn hx hsg hb
     go_enter Tryz.func125,Tryz.ntmps125
     go_wp2_with fail
     go_step3
     go_wp2_with (go_at_call 154;refine HEx.out.mono ?_;rintro ee w1 ⟨he,hb1⟩;subst he)
     exact bodyPost_ret (v:=.tuple #[.string ⟨#[48]⟩,.int .i64 0,.int .i64 0]) (by simp [results,Tryz.results125,go_sem]) rfl ⟨_,_,_,rfl,.inl ⟨rfl,by intro c hc;have:c=48:=(by simpa using hc);subst this;decide,by decide,by decide,by omega,by omega⟩,hb1⟩
   · have HF:=Lib.hid (show Fl m k wn x from ⟨hx.symm,by omega,hm,hk,hs,hwn⟩)
     have f1:((m:Int) == 0)=false:=by rw [beq_eq_false_iff_ne];omega
     obtain ⟨lo,hlo⟩:∃ lo,m % 4294967296=lo:=⟨_,rfl⟩
     obtain ⟨hi,hhi⟩:∃ hi,m / 4294967296=hi:=⟨_,rfl⟩
     have g1:IntKind.u32.wrap (m:Int)=(lo:Int):=by rw [IntKind.wrap_u32];omega
     have g2:(m:Int) / 4294967296=(hi:Int):=by omega
     have g3:IntKind.u32.wrap (hi:Int)=(hi:Int):=by rw [IntKind.wrap_u32];omega
     have HM:=Lib.hid (show lo+4294967296*hi=m∧lo<4294967296∧hi<4294967296 by omega)
     obtain ⟨A,hA⟩:∃ A,fA m x=A:=⟨_,rfl⟩
     obtain ⟨B,hB⟩:∃ B,fB x=B:=⟨_,rfl⟩
     have HAB:=Lib.hid (show fA m x=A∧fB x=B from ⟨hA,hB⟩)
     have hbd:=HF.out.bounds
     have HT:=Lib.hid (fun w1:World=>times_two m 1 x _ _ _ (show NAt ((w1.alloc (.cells #[.int .u32 (lo:Int),.int .u32 (hi:Int)] 152)).alloc (.cells #[.int .u32 1] 152)) (.slice (some ⟨w1.heap.size,0,none⟩) 2 2) m from by
      have h1:=two_at w1 lo hi HM.out.2.1 HM.out.2.2
      rw [HM.out.1] at h1
      exact h1.below ((Below.refl _ _).alloc (Nat.le_refl _) _)) (show NAt ((w1.alloc (.cells #[.int .u32 (lo:Int),.int .u32 (hi:Int)] 152)).alloc (.cells #[.int .u32 1] 152)) (.slice (some ⟨w1.heap.size+1,0,none⟩) 1 1) 1 from by
      have h1:=NAt.one (w1.alloc (.cells #[.int .u32 (lo:Int),.int .u32 (hi:Int)] 152)) 1 (by omega)
      rwa [show (w1.alloc (.cells #[.int .u32 (lo:Int),.int .u32 (hi:Int)] 152)).heap.size=w1.heap.size+1 by simp] at h1) (Bt.mono (k:=53) (by unfold Bt;have:=HF.out.2.2.1;omega) (by omega)) (Bt.mono (k:=1) (by unfold Bt;omega) (by omega)) (by omega))
     clear hm hk hs hwn hm0 hx hlo hhi hA hB hbd
     go_enter Tryz.func125,Tryz.ntmps125
     go_wp2_with fail
     go_step3
     have hab:=HF.out.a
     rw [HAB.out.1,HAB.out.2] at hab
     have HBd:=Lib.hid hab
     obtain ⟨wh,hwh⟩:∃ wh,A / B=wh:=⟨_,rfl⟩
     have HWh:=Lib.hid hwh
     have hwl:(decS wh).size≤767:=by
      refine decS_len ?_ (by omega)
      have h1:=exact_lt HF.out.2.2.1 HF.out.bounds.1 HF.out.bounds.2.1
      rw [HAB.out.1,HAB.out.2] at h1
      refine Nat.lt_of_le_of_lt ?_ h1
      rw [← hwh]
      exact Nat.div_le_div_right (Nat.le_mul_of_pos_right _ (Nat.pow_pos (by decide)))
     obtain ⟨sl,hsl⟩:∃ sl,(decS wh).size=sl:=⟨_,rfl⟩
     rw [hsl] at hwl
     have hs1:1≤sl:=by have:=(decS_dgs wh).2.2;omega
     have HSl:=Lib.hid hsl
     have y1:IntKind.i64.wrap ((sl:Int) - 1)=(sl:Int) - 1:=by rw [IntKind.wrap_i64];omega
     obtain ⟨ds,hds⟩:∃ ds,decS wh=ds:=⟨_,rfl⟩
     rw [hds] at hsl
     have HDs:=Lib.hid hds
     clear hab hwh hds
     go_upto_if 71 with (first
      | (go_at_call 154;refine HEx.out.mono ?_;rintro ee w1 ⟨he,hb1⟩;subst he;have HB1:=Lib.hid hb1;clear hb1)
      | (go_at_call 155;refine (HT.out w1).mono ?_;rintro ee w2 ⟨va,vb,he,hl2,hm2,hb2⟩;subst he;obtain ⟨a1,n1,p1,hv1⟩:=hl2.slice;obtain ⟨a2,n2,p2,hv2⟩:=hm2.slice;subst hv1 hv2;have hI:=(show RIn w2 (w2.alloc (.cells #[.slice a1 n1 p1,.slice a2 n2 p2] 271)) w2.heap.size A B (.slice a1 n1 p1) (.slice a2 n2 p2) from by rw [← HAB.out.1,← HAB.out.2];unfold fA fB;refine RIn.begin w2 _ _ _ _ hl2 ?_;rw [Nat.one_mul] at hm2;exact hm2);have HI:=Lib.hid hI;have HB2:=Lib.hid ((HB1.out.trans ((below_two w1 (.cells #[.int .u32 (lo:Int),.int .u32 (hi:Int)] 152) (.cells #[.int .u32 1] 152)).mono HB1.out.size)).trans (hb2.mono (by have:=HB1.out.size;simp;omega)));clear hI hl2 hm2 hb2)
      | (go_at_call 156;refine (cut_any A B _ _ _ HI.out.2.1 HI.out.2.2.1 (HBd.out.1.mono (by omega)) (HBd.out.2.1.mono (by omega)) HBd.out.2.2).mono ?_;rintro ee w3 ⟨v3,he,hl3,hb3⟩;rw [HWh.out] at hl3;obtain ⟨a3,p3,hv3,_⟩:=hl3.1.slice;obtain ⟨n3,hn3⟩:∃ n,(limbs wh).length=n:=⟨_,rfl⟩;rw [hn3] at hv3;subst hv3;subst he;have HI3:=Lib.hid (HI.out.next hb3);have HL3:=Lib.hid hl3;have HN3:=Lib.hid hn3;clear hl3 hb3 hn3)
      | (go_at_call 87;refine (digits_n wh _ w3 (NAt.of HL3.out.1 HL3.out.2) (a:=1100) (by rw [← HWh.out];exact Nat.lt_of_le_of_lt (Nat.div_le_self ..) HBd.out.1) (by omega)).mono ?_;unfold DsPost;rw [HDs.out];rintro ee w4 ⟨he,hb4⟩;subst he;have HI4:=Lib.hid (HI3.out.next hb4);clear hb4))
     have HQ:=Lib.hid HB2.out.size
     clear HI HI3
     have HI0:=Lib.hid (show RIn w2 w4 w2.heap.size A B (.slice a1 n1 p1) (.slice a2 n2 p2) from HI4.out)
     clear HI4
     generalize hq10:w2.heap.size=q at HI0 ⊢
     have HQe:=Lib.hid hq10
     have HSl':=Lib.hid (show ds.size=sl∧sl≤767∧1≤sl from ⟨hsl,hwl,hs1⟩)
     clear hq10 hsl hwl hs1 y1
     go_cut [15,16] (fun hv yv wx=>∃ h:Int,hv=.int .i64 h∧Hid (Hi m x h)∧Hid (RIn w2 wx q A B (.slice a1 n1 p1) (.slice a2 n2 p2)))
     case first =>
      by_cases hw0:wh=0
      · have hn3:((n3:Int) == 0)=true:=by
         rw [beq_iff_eq]
         have:=HN3.out
         rw [hw0,limbs_zero] at this
         simp at this
         omega
        have hlt:A<B:=by
         have h1:=HWh.out
         rw [hw0] at h1
         exact (Nat.div_eq_zero_iff_lt (Nat.pos_of_ne_zero HBd.out.2.2)).1 h1
        have d0:=HI0.out.1.c0
        have d1:=HI0.out.1.c1
        have HLt:=Lib.hid hlt
        clear hw0 hlt
        go_wp2_with (go_at_call 155;refine (times_one A B _ _ w4 HI0.out.2.1 HI0.out.2.2.1 (HBd.out.1.mono (by omega)) (HBd.out.2.1.mono (by omega))).mono ?_;rintro ee w5 ⟨va5,vb5,he,hl5,hm5,hb5⟩;subst he;obtain ⟨a5,n5,p5,hv5⟩:=hl5.slice;obtain ⟨a6,n6,p6,hv6⟩:=hm5.slice;subst hv5 hv6;have hb6:=(Below.refl w5.heap.size w5).alloc (Nat.le_refl _) (.cells #[.slice a5 n5 p5,.slice a6 n6 p6] 271);have HW:=Lib.hid (show LwIn w2 (w5.alloc (.cells #[.slice a5 n5 p5,.slice a6 n6 p6] 271)) q A B (.slice a1 n1 p1) (.slice a2 n2 p2) 1 w5.heap.size (.slice a5 n5 p5) (.slice a6 n6 p6) from ⟨(HI0.out.next hb5).next hb6,Row2.new w5 271 _ _,by rw [Nat.pow_one];exact hl5.below hb6,hm5.below hb6,(HI0.out.next hb5).1.lt⟩);clear hl5 hm5 hb5 hb6 d0 d1)
        generalize w5.heap.size=g5 at HW ⊢
        generalize w5.alloc (.cells #[.slice a5 n5 p5,.slice a6 n6 p6] 271)=W5 at HW ⊢
        go_loopw [15,16] (fun hv yv wi=>∃ (j g:Nat) (h:Int) (ya yb:Value),hv=.int .i64 h∧yv=.pointer (some ⟨g,0,none⟩)∧Hid (h = -(j:Int)∧1≤j∧A*10 ^ (j - 1)<B)∧Hid (LwIn w2 wi q A B (.slice a1 n1 p1) (.slice a2 n2 p2) j g ya yb)) (fun hv _ _=>(1100+intOf hv).toNat)
        case atStart=>exact ⟨1,g5,-1,_,_,rfl,rfl,⟨rfl,by omega,by rw [Nat.sub_self,Nat.pow_zero,Nat.mul_one];exact HLt.out⟩,HW⟩
        case round =>
         clear HW
         obtain ⟨j,g,h,ya,yb,rfl,rfl,HJ,HW⟩:=hrel
         obtain ⟨a5,n5,p5,hv5⟩:=HW.out.2.2.1.slice
         obtain ⟨a6,n6,p6,hv6⟩:=HW.out.2.2.2.1.slice
         subst hv5 hv6
         have hjx:(j:Int)≤-x:=by
          have h1:=low_high (x:=x) (j:=j - 1) HF.out.2.1 (by rw [HAB.out.1,HAB.out.2];exact HJ.out.2.2)
          have:=HJ.out.2.1
          omega
         have hx1:=HF.out.bounds.1
         have hh:=HJ.out.1
         have d0:=HW.out.2.1.c0
         have d1:=HW.out.2.1.c1
         obtain ⟨cc,hcc⟩:∃ cc,cmpF (A*10 ^ j) B=cc:=⟨_,rfl⟩
         by_cases hlt:A*10 ^ j<B
         · have hc0:cc<0:=by rw [← hcc,cmpF_lt hlt];omega
           have hjx2:(j:Int) < -x:=low_high HF.out.2.1 (by rw [HAB.out.1,HAB.out.2];exact hlt)
           obtain ⟨h', hh'⟩ : ∃ h', h - 1 = h' := ⟨_, rfl⟩
           have z1:IntKind.i64.wrap (h - 1)=h':=by rw [IntKind.wrap_i64];omega
           have HJ':=Lib.hid (show h' = -((j+1:Nat):Int)∧1≤j+1∧A*10 ^ (j+1 - 1)<B∧h'<h∧-1100<h from ⟨by omega,by omega,by rw [Nat.add_sub_cancel];exact hlt,by omega,by omega⟩)
           have HCc:=Lib.hid hcc
           have hAj:Bt (A*10 ^ j) 20000:=(HBd.out.1.mul (Bt.ten j)).mono (by omega)
           have HAj:=Lib.hid hAj
           clear hcc hlt hjx hjx2 hx1 hh hh' hAj
           go_wp2_with (first
            | (go_at_call 157;refine (cmp_n (A*10 ^ j) B _ _ wr HW.out.2.2.1 HW.out.2.2.2.1).mono ?_;rw [HCc.out];rintro ee w6 ⟨he,hb6⟩;subst he;have HW6:=Lib.hid (HW.out.next hb6);have d0:=HW6.out.2.1.c0;have d1:=HW6.out.2.1.c1;clear hb6)
            | (go_at_call 155;refine (times_one (A*10 ^ j) B _ _ _ (HW6.out.2.2.1.below ((Below.refl _ w6).alloc (Nat.le_refl _) (.cells #[.slice a5 n5 p5,.slice a6 n6 p6] 271))) (HW6.out.2.2.2.1.below ((Below.refl _ w6).alloc (Nat.le_refl _) (.cells #[.slice a5 n5 p5,.slice a6 n6 p6] 271))) HAj.out (HBd.out.2.1.mono (by omega))).mono ?_;rintro ee w7 ⟨va7,vb7,he,hl7,hm7,hb7⟩;subst he;obtain ⟨a7,n7,p7,hv7⟩:=hl7.slice;obtain ⟨a8,n8,p8,hv8⟩:=hm7.slice;subst hv7 hv8;have hR7:=(Row2.new w6 271 (.slice a5 n5 p5) (.slice a6 n6 p6)).below hb7;have hq6:=Nat.lt_trans HW6.out.2.2.2.2 HW6.out.2.1.lt;have hI7:=(HW6.out.1.next ((Below.refl _ w6).alloc (Nat.le_refl _) (.cells #[.slice a5 n5 p5,.slice a6 n6 p6] 271))).next hb7;have HY:=Lib.hid (y_next hI7 hR7 hq6 hl7 hm7);have HQ6:=Lib.hid hq6;have e0:=hR7.c0;have e1:=(hR7.s0 (.slice a7 n7 p7)).c1;have e2:=hR7.fz 0;have e3:=(hR7.s0 (.slice a7 n7 p7)).fz 1;clear hl7 hm7 hb7 hR7 hq6 hI7))
           go_roundw
           case rel => exact ⟨j + 1, _, h', _, _, rfl, rfl, ⟨HJ'.out.1, HJ'.out.2.1, HJ'.out.2.2.1⟩, (show Hid (LwIn _ _ _ _ _ _ _ _ _ _ _) from ⟨HY.out.1, HY.out.2.1, by have := HY.out.2.2.1; rw [Nat.mul_assoc, ← Nat.pow_succ] at this; exact this, HY.out.2.2.2, HQ6.out⟩)⟩
           case measure=>have:=HJ'.out;simp [intOf];omega
         · have hc0:¬ cc<0:=by rw [← hcc];exact cmpF_ge hlt
           have HCc:=Lib.hid hcc
           have HH:Hid (Hi m x h):=Lib.hid (by
            rw [hh]
            refine ⟨?_,?_,by omega⟩
            · rw [HAB.out.1,HAB.out.2]
              unfold Ge10
              rw [show (-(j:Int)).toNat=0 by omega,show (-(-(j:Int))).toNat=j by omega,Nat.pow_zero,Nat.mul_one]
              omega
            · unfold exE
              split <;> omega)
           clear hcc hlt hjx hx1 hh
           go_wp2_with (go_at_call 157;refine (cmp_n (A*10 ^ j) B _ _ wr HW.out.2.2.1 HW.out.2.2.2.1).mono ?_;rw [HCc.out];rintro ee w6 ⟨he,hb6⟩;subst he;have HW6:=Lib.hid (HW.out.next hb6);clear hb6)
           go_meet
           exact ⟨_,rfl,HH,HW6.out.1⟩
      · have hn3:((n3:Int) == 0)=false:=by
         rw [beq_eq_false_iff_ne]
         intro h
         exact hw0 (limbs_nil.1 (List.eq_nil_of_length_eq_zero (by rw [HN3.out];omega)))
        have HH:Hid (Hi m x ((sl:Int) - 1)):=Lib.hid (by
         have h1:=decS_ge hw0
         rw [HSl.out,← HWh.out] at h1
         have h2:=HBd.out.2.2
         refine ⟨?_,by have:=exE_le x;have:=HSl'.out;omega,by have:=HSl'.out;omega⟩
         rw [HAB.out.1,HAB.out.2]
         unfold Ge10
         rw [show ((sl:Int) - 1).toNat=sl - 1 by omega,show (-((sl:Int) - 1)).toNat=0 by have:=HSl'.out;omega,Nat.pow_zero,Nat.mul_one,Nat.mul_comm]
         exact Nat.le_trans (Nat.mul_le_mul_right B h1) (Nat.div_mul_le_self A B))
        clear hw0
        go_wp2_with fail
        go_meet
        exact ⟨_,rfl,HH,HI0⟩
     case rest =>
      obtain ⟨h,rfl,HH,HI⟩:=hcut
      clear HI0 HT HEx HL3 HN3 HDs HSl HSl' HWh f1 g1 g2 g3 HM
      have hbd:=HF.out.bounds
      have hh1:=HH.out.2
      go_wp2_with fail
      go_step3
      go_wp2_with fail
      go_loopw [19] (fun nv wi=>∃ n:Nat,nv=.int .i64 n∧Hid (1≤n∧exE x≤h - n+1)∧Hid (RIn w2 wi q A B (.slice a1 n1 p1) (.slice a2 n2 p2))) (fun nv _=>(2000 - intOf nv).toNat)
      case atStart=>exact ⟨1,rfl,⟨by omega,by omega⟩,HI⟩
      case round =>
       clear HI
       obtain ⟨n,rfl,HN,HI⟩:=hrel
       have hn1:=HN.out.1
       have hn2:=HN.out.2
       obtain ⟨e1,he1⟩:∃ e1,h - (n:Int)=e1:=⟨_,rfl⟩
       obtain ⟨e,he⟩:∃ e,e1+1=e:=⟨_,rfl⟩
       obtain ⟨me,hme⟩:∃ me,-e=me:=⟨_,rfl⟩
       have z1:IntKind.i64.wrap (h - (n:Int))=e1:=by rw [IntKind.wrap_i64];omega
       have z2:IntKind.i64.wrap (e1+1)=e:=by rw [IntKind.wrap_i64];omega
       have z3:IntKind.i64.wrap (-e)=me:=by rw [IntKind.wrap_i64];omega
       obtain ⟨P,hP⟩:∃ P,A*10 ^ me.toNat=P:=⟨_,rfl⟩
       obtain ⟨Q,hQ⟩:∃ Q,B*10 ^ (-me).toNat=Q:=⟨_,rfl⟩
       obtain ⟨D,hD⟩:∃ D,P / Q=D:=⟨_,rfl⟩
       obtain ⟨hf,hhf⟩:∃ hf,cmpF (P % Q*2 ^ 1) Q=hf:=⟨_,rfl⟩
       have HE:=Lib.hid (show e1+1=e∧-e=me∧h - (n:Int)=e1∧exE x≤e∧e≤h from ⟨he,hme,he1,by omega,by omega⟩)
       have hDq:D=qAt A B e:=by
        unfold qAt
        rw [← hD,← hP,← hQ,← hme,show (-(-e))=e by omega]
       have hD0:D ≠ 0:=by
        rw [hDq]
        have hg:=HH.out.1.mono (HE.out.2.2.2.2)
        rw [HAB.out.1,HAB.out.2] at hg
        exact qAt_pos HBd.out.2.2 hg
       have hDl:D<10 ^ 767:=by
        rw [hDq]
        have h1:=exact_lt HF.out.2.2.1 hbd.1 hbd.2.1
        rw [HAB.out.1,HAB.out.2] at h1
        exact Nat.lt_of_le_of_lt (qAt_le HBd.out.2.2 (exE_le x) HE.out.2.2.2.1) h1
       have hex:e=exE x→hf<0∧nearF (D*10 ^ e.toNat) (10 ^ (-e).toNat)=(wn,0):=by
        intro hee
        have h1:=exact_at HF.out.1 HF.out.2.1 HF.out.2.2.1 HF.out.2.2.2.1 HF.out.2.2.2.2.1
        rw [HAB.out.1,HAB.out.2,← hee,← hDq] at h1
        refine ⟨?_,by rw [h1.2,← HF.out.2.2.2.2.2]⟩
        have h2:P % Q=0:=by rw [← hP,← hQ,← hme,show (-(-e))=e by omega];exact h1.1
        have h3:0<Q:=by rw [← hQ];exact Nat.mul_pos (Nat.pos_of_ne_zero HBd.out.2.2) (Nat.pow_pos (by decide))
        rw [← hhf,h2,Nat.zero_mul,cmpF_lt h3]
        omega
       have hPb:Bt P 20000:=by rw [← hP];exact (HBd.out.1.mul (Bt.ten me.toNat)).mono (by omega)
       have hQb:Bt Q 20000:=by rw [← hQ];exact (HBd.out.2.1.mul (Bt.ten (-me).toNat)).mono (by omega)
       have hQ0:Q ≠ 0:=by rw [← hQ];exact Nat.ne_of_gt (Nat.mul_pos (Nat.pos_of_ne_zero HBd.out.2.2) (Nat.pow_pos (by decide)))
       obtain ⟨K,hK⟩:∃ K,K=767:=⟨_,rfl⟩
       rw [← hK] at hDl
       have hDb:Bt D 4000:=Bt.of_lt hDl ((Bt.ten K).mono (by omega))
       have hD1:=succ_lt_ten hDl
       have hD1b:Bt (D+1) 4000:=Bt.of_lt hD1 ((Bt.ten (K+1)).mono (by omega))
       have HD:=Lib.hid (show D ≠ 0∧Bt D 4000∧(decS D).size≤800∧(decS (D+1)).size≤800∧Bt (D+1) 4000 from ⟨hD0,hDb,by have:=decS_len hDl (by omega);omega,by have:=decS_len hD1 (by omega);omega,hD1b⟩)
       have hT:=times_ten A B me _ _ wr HI.out.2.1 HI.out.2.2.1 (HBd.out.1.mono (by omega)) (HBd.out.2.1.mono (by omega)) (by omega)
       rw [hP,hQ] at hT
       have HT:=Lib.hid hT
       have HPQ:=Lib.hid (show Bt P 130000∧Bt Q 130000∧Q ≠ 0∧P / Q=D∧cmpF (P % Q*2 ^ 1) Q=hf from ⟨hPb.mono (by omega),hQb.mono (by omega),hQ0,hD,hhf⟩)
       have HX:=Lib.hid hex
       have hnr:n<2000:=by omega
       have HNr:=Lib.hid hnr
       have d0:=HI.out.1.c0
       have d1:=HI.out.1.c1
       clear hK hD1b hT hP hQ hD hhf hDq hD0 hDl hex hPb hQb hQ0 hDb hD1 he1 he hme hbd hh1 hn1 hn2 hnr
       go_upto_region 27 with (first
        | (go_at_call 155;refine HT.out.mono ?_;rintro ee w5 ⟨v5,u5,he,hl5,hm5,hb5⟩;subst he;have HI5:=Lib.hid (HI.out.next hb5);have HL5:=Lib.hid hl5;have HM5:=Lib.hid hm5;clear hl5 hm5 hb5 d0 d1)
        | (go_at_call 156;refine (cut_any P Q _ _ w5 HL5.out HM5.out HPQ.out.1 HPQ.out.2.1 HPQ.out.2.2.1).mono ?_;rintro ee w6 ⟨v6,he,hl6,hb6⟩;rw [HPQ.out.2.2.2.2] at he;rw [HPQ.out.2.2.2.1] at hl6;subst he;have HI6:=Lib.hid (HI5.out.next hb6);have HL6:=Lib.hid hl6;clear hl6 hb6)
        | (go_at_call 86; refine (add_n D 1 _ _ _ _ ((NAt.of HL6.out.1 HL6.out.2).below (below_two w6 (.cells #[.int .u32 1] 152) (.cells #[.slice (some ⟨w6.heap.size, 0, none⟩) 1 1] 150))) ⟨[1], fit_new w6 1 (by omega), val_one 1⟩ (a := 4000) HD.out.2.1 (Bt.mono (k := 1) (by unfold Bt; omega) (by omega)) (by omega)).mono ?_; rintro ee w7 ⟨v7, he, hl7, hb7⟩; subst he; have hb7' := (below_two w6 (.cells #[.int .u32 1] 152) (.cells #[.slice (some ⟨w6.heap.size, 0, none⟩) 1 1] 150)).trans (hb7.mono (by simp; omega)); have HI7 := Lib.hid (HI6.out.next hb7'); have HL67 := Lib.hid (show LAt w7 v6 (limbs D) ∧ Sm D from ⟨HL6.out.1.below hb7', HL6.out.2⟩); have HL7 := Lib.hid hl7; clear hl7 hb7 hb7'))
       obtain ⟨a6,p6,hv6,_⟩:=HL67.out.1.slice
       obtain ⟨n6,hn6⟩:∃ n,(limbs D).length=n:=⟨_,rfl⟩
       rw [hn6] at hv6
       subst hv6
       have hn6p:0<n6:=by
        rw [← hn6,limbs_pos HD.out.1,List.length_cons]
        omega
       obtain ⟨g6,o6,hg6,_,hc6⟩:=HL67.out.1.cells hn6p
       subst hg6
       have c6:=hc6 0 (D % 4294967296) (by rw [limbs_pos HD.out.1];rfl)
       rw [Nat.add_zero] at c6
       have hn6i:(0:Int)<(n6:Int):=by omega
       go_cut [120] (fun bv wx=>∃ dec:Bool,bv=.bool dec∧Hid (e=exE x→dec=false)∧wx=w7)
       case first =>
        clear hc6 hn6
        obtain ⟨l6,hl6⟩:∃ l6,D % 4294967296=l6:=⟨_,rfl⟩
        rw [hl6] at c6
        clear hl6
        rcases Int.lt_trichotomy hf 0 with h1 | h1 | h1
        · have h2:¬ (0:Int)<hf:=by omega
          have h3:(hf == 0)=false:=by rw [beq_eq_false_iff_ne];omega
          clear h1
          go_wp2_with fail
          go_meet
          exact ⟨_,rfl,fun _=>rfl,rfl⟩
        · have HX0:=Lib.hid (show e ≠ exE x from fun hee=>by have:=(HX.out hee).1;omega)
          subst h1
          go_wp2_with fail
          go_meet
          exact ⟨_,rfl,fun hee=>absurd hee HX0.out,rfl⟩
        · have HX0:=Lib.hid (show e ≠ exE x from fun hee=>by have:=(HX.out hee).1;omega)
          go_wp2_with fail
          go_meet
          exact ⟨_,rfl,fun hee=>absurd hee HX0.out,rfl⟩
       case rest =>
       obtain ⟨dec,rfl,HDec,hwc⟩:=hcut
       subst wc
       clear c6 hc6 hn6p hn6i
       obtain ⟨a7,n7,p7,hv7⟩:=HL7.out.slice
       subst hv7
       have HL6':=Lib.hid (NAt.of HL67.out.1 HL67.out.2)
       go_upto_if 120 with fail
       go_cut [24,25] (fun fv sv wx=>∃ (va vb:Value) (D1 D2:Nat),fv=va∧sv=vb∧Hid (NAt w7 va D1∧NAt w7 vb D2∧(D1=D ∨ D1=D+1)∧(D2=D ∨ D2=D+1)∧(e=exE x→D1=D))∧wx=w7)
       case first =>
        cases dec
        · go_wp2_with fail
          go_meet
          exact ⟨_,_,D,D+1,rfl,rfl,⟨HL6'.out,HL7.out,.inl rfl,.inr rfl,fun _=>rfl⟩,rfl⟩
        · go_wp2_with fail
          go_meet
          exact ⟨_,_,D+1,D,rfl,rfl,⟨HL7.out,HL6'.out,.inr rfl,.inl rfl,fun hee=>absurd (HDec.out hee) (by decide)⟩,rfl⟩
       case rest =>
       obtain ⟨va,vb,D1,D2,rfl,rfl,HV,hwc⟩:=hcut
       subst wc
       obtain ⟨a8,n8,p8,hv8⟩:=HV.out.1.slice
       obtain ⟨a9,n9,p9,hv9⟩:=HV.out.2.1.slice
       subst hv8 hv9
       clear HL6' HL67 HL7 HDec HT
       have HI7':=Lib.hid (show RIn w2 w7 q A B (.slice a1 n1 p1) (.slice a2 n2 p2)∧NAt w7 (.slice a8 n8 p8) D1∧NAt w7 (.slice a9 n9 p9) D2 from ⟨HI7.out,HV.out.1,HV.out.2.1⟩)
       go_wp2_with fail
       go_loopw [126] (fun iv wi=>∃ i:Nat,i≤2∧iv=.int .i64 i∧Hid (1≤i→e ≠ exE x)∧Hid (RIn w2 wi q A B (.slice a1 n1 p1) (.slice a2 n2 p2)∧NAt wi (.slice a8 n8 p8) D1∧NAt wi (.slice a9 n9 p9) D2)) (fun iv _=>(2 - intOf iv).toNat)
       case atStart=>exact ⟨0,by omega,rfl,fun h=>absurd h (by omega),HI7'⟩
       case round =>
        clear HI7'
        obtain ⟨i,hi2,rfl,HNe,HJ⟩:=hrel
        obtain ⟨wi,hwi⟩:∃ wi,wi=wr:=⟨_,rfl⟩
        by_cases hi:i<2
        · have hsel:∃ (a n p E:Nat) (aa:Option Addr),(∀ W,(Instr.index 276 (.agg #[.slice a8 n8 p8,.slice a9 n9 p9]) (.int .i64 (i:Int))).run Tryz.prog W=.ok (.slice aa n p) W)∧NAt wr (.slice aa n p) E∧(E=D ∨ E=D+1)∧(e=exE x→E=D):=by
           by_cases h0:i=0
           · subst h0
             exact ⟨0,n8,p8,D1,a8,fun W=>index_pair0 _ _ W,HJ.out.2.1,HV.out.2.2.1,HV.out.2.2.2.2⟩
           · obtain rfl:i=1:=by omega
             exact ⟨0,n9,p9,D2,a9,fun W=>index_pair1 _ _ W,HJ.out.2.2,HV.out.2.2.2.1,fun hee=>absurd hee (HNe.out (by omega))⟩
          obtain ⟨_,nn,pp,E,aa,hidx,hE,hED,hEx⟩:=hsel
          have hEs:E ≠ 0∧Bt E 4000∧(decS E).size≤800:=by
           rcases hED with rfl | rfl
           · exact ⟨HD.out.1,HD.out.2.1,HD.out.2.2.1⟩
           · exact ⟨by omega,HD.out.2.2.2.2,HD.out.2.2.2.1⟩
          have hlim : -1100≤e∧e≤1100:=by have:=HE.out;have:=HF.out.bounds;have:=HH.out.2;omega
          have hR:=fun W=>round_any E e W hEs.1 hEs.2.2 hlim
          obtain ⟨rb,hrb⟩:∃ rb,nearF (E*10 ^ e.toNat) (10 ^ (-e).toNat)=rb:=⟨_,rfl⟩
          rw [hrb] at hR
          obtain ⟨bb,ff⟩:=rb
          have hbr:¬ (ff=0∧bb=wn)→e ≠ exE x:=by
           intro hno hee
           have h1:=(HX.out hee).2
           rw [← hEx hee,hrb] at h1
           injection h1 with h1 h2
           exact hno ⟨h2,h1⟩
          obtain ⟨de,hde⟩:∃ de,decS E=de:=⟨_,rfl⟩
          rw [hde] at hR
          have HDi:=Lib.hid fun W (h:NAt W (.slice aa nn pp) E)=>digits_n E _ W h hEs.2.1 (by omega)
          unfold DsPost at HDi
          rw [hde] at HDi
          have HR:=Lib.hid hR
          have HE2:=Lib.hid hE
          have HBr:=Lib.hid hbr
          have HEs:=Lib.hid (show E ≠ 0∧Bt E 4000∧(decS E).size≤800∧(-1100≤e∧e≤1100) from ⟨hEs.1,hEs.2.1,hEs.2.2,hlim⟩)
          have f2:(i:Int)<2:=by omega
          clear hR hrb hde hED hEx hE hbr hEs hlim hwi
          by_cases hok:ff=0∧bb=wn
          · obtain ⟨rfl,rfl⟩:=hok
            have HDc:=Lib.hid fun W (h:NAt W (.slice aa nn pp) E)=>decimal_any E e _ W h HEs.out.2.2.1 HEs.out.2.1 HEs.out.2.2.2
            clear HBr
            go_wp2_with (first
             | (go_at_call 87;refine (HDi.out wr HE2.out).mono ?_;rintro ee w8 ⟨he,hb8⟩;subst he;have HE8:=Lib.hid (HE2.out.below hb8);have HI8:=Lib.hid (HJ.out.1.next hb8);clear hb8 HE2)
             | (go_at_call 158;refine (HR.out w8).mono ?_;rintro ee w9 ⟨he,hb9⟩;subst he;have HE9:=Lib.hid (HE8.out.below hb9);have HI9:=Lib.hid (HI8.out.next hb9);clear hb9 HE8)
             | (go_at_call 159; refine (HDc.out w9 HE9.out).mono ?_; rintro ee w10 ⟨t, e', he, h1, h2, h3, h4, h5, hb10⟩; subst he; have HDe := Lib.hid (show Dig t ∧ 1 ≤ t.size ∧ t.size ≤ 800 ∧ e ≤ e' ∧ e' ≤ e + 800 from ⟨h1, h2, h3, h4, h5⟩); have HI10 := Lib.hid (HI9.out.next hb10); clear h1 h2 h3 h4 h5 hb10))
            try rw [Exit.noGoto_ret]
            refine bodyPost_ret (v := .tuple #[.string t, .int .i64 e', .int .i64 0]) (by simp [results, Tryz.results125, go_sem]) rfl ⟨t, e', 0, rfl, .inl ⟨rfl, HDe.out.1, HDe.out.2.1, HDe.out.2.2.1, by have := HDe.out; have := HEs.out; omega, by have := HDe.out; have := HEs.out; omega⟩, HB2.out.trans (HI10.out.2.2.2.mono (by have := HQe.out; have := HQ.out; omega))⟩
          · have HNe2:=Lib.hid (HBr.out hok)
            by_cases hff:ff=0
            · subst hff
              have hbb:((bb:Int) == (wn:Int))=false:=by rw [beq_eq_false_iff_ne];intro h;exact hok ⟨rfl,by omega⟩
              clear hok HBr
              go_wp2_with (first
               | (go_at_call 87;refine (HDi.out wr HE2.out).mono ?_;rintro ee w8 ⟨he,hb8⟩;subst he;have HJ8:=Lib.hid (show RIn w2 w8 q A B (.slice a1 n1 p1) (.slice a2 n2 p2)∧NAt w8 (.slice a8 n8 p8) D1∧NAt w8 (.slice a9 n9 p9) D2 from ⟨HJ.out.1.next hb8,HJ.out.2.1.below hb8,HJ.out.2.2.below hb8⟩);clear hb8 HE2)
               | (go_at_call 158;refine (HR.out w8).mono ?_;rintro ee w9 ⟨he,hb9⟩;subst he;have HJ9:=Lib.hid (show RIn w2 w9 q A B (.slice a1 n1 p1) (.slice a2 n2 p2)∧NAt w9 (.slice a8 n8 p8) D1∧NAt w9 (.slice a9 n9 p9) D2 from ⟨HJ8.out.1.next hb9,HJ8.out.2.1.below hb9,HJ8.out.2.2.below hb9⟩);clear hb9))
              go_roundw
              case rel=>exact ⟨i+1,by omega,by go_num,(show Hid _ from fun _=>HNe2.out),HJ9⟩
              case measure=>simp [intOf];omega
            · have hf2:(ff == 0)=false:=by rw [beq_eq_false_iff_ne];exact hff
              clear hok HBr hff
              go_wp2_with (first
               | (go_at_call 87;refine (HDi.out wr HE2.out).mono ?_;rintro ee w8 ⟨he,hb8⟩;subst he;have HJ8:=Lib.hid (show RIn w2 w8 q A B (.slice a1 n1 p1) (.slice a2 n2 p2)∧NAt w8 (.slice a8 n8 p8) D1∧NAt w8 (.slice a9 n9 p9) D2 from ⟨HJ.out.1.next hb8,HJ.out.2.1.below hb8,HJ.out.2.2.below hb8⟩);clear hb8 HE2)
               | (go_at_call 158;refine (HR.out w8).mono ?_;rintro ee w9 ⟨he,hb9⟩;subst he;have HJ9:=Lib.hid (show RIn w2 w9 q A B (.slice a1 n1 p1) (.slice a2 n2 p2)∧NAt w9 (.slice a8 n8 p8) D1∧NAt w9 (.slice a9 n9 p9) D2 from ⟨HJ8.out.1.next hb9,HJ8.out.2.1.below hb9,HJ8.out.2.2.below hb9⟩);clear hb9))
              go_roundw
              case rel=>exact ⟨i+1,by omega,by go_num,(show Hid _ from fun _=>HNe2.out),HJ9⟩
              case measure=>simp [intOf];omega
        · obtain rfl:i=2:=by omega
          have hne:=HNe.out (by omega)
          have HNn:=Lib.hid (show exE x≤h - ((n+1:Nat):Int)+1 by have:=HE.out;omega)
          have hnr:=HNr.out
          clear hne
          go_wp2
          go_roundw
          case rel=>exact ⟨n+1,by go_num,⟨by omega,HNn.out⟩,HJ.out.1⟩
          case measure=>simp [intOf];omega
 · have HEx:=Lib.hid (hd w)
   clear hd hsg hb
   go_enter Tryz.func125,Tryz.ntmps125
   go_wp2_with fail
   go_step3
   go_wp2_with (go_at_call 154;refine HEx.out.mono ?_;rintro ee w1 ⟨he,hb1⟩;subst he)
   exact bodyPost_ret (v:=.tuple #[.string ⟨#[]⟩,.int .i64 0,.int .i64 1]) (by simp [results,Tryz.results125,go_sem]) rfl ⟨_,_,_,rfl,.inr rfl,hb1⟩
end Go.Proofs.YtfmceonbejlhlaaGreatDoor
