import Derived.Deep.RegionWith
import Derived.Deep.RegionLaw
import Derived.Deep.AppendLies
import Derived.Test.YtfmceonbejlhlaaGreatDoorMWs12
namespace Go.Proofs.YtfmceonbejlhlaaGreatDoor
open Go.RowKit Go.Proofs.YtfmceonbejlhlaaGreatDoorW.PrintWords Go.Proofs.YtfmceonbejlhlaaGreatDoorW.PrintLast Go.Proofs.YtfmceonbejlhlaaGreatDoorW.PrintMore
set_option linter.unusedVariables false
theorem sm_of {n e:Nat} (h:n<2 ^ e) (he:e≤131072):Sm n:=by
 have h1:2 ^ e≤2 ^ (32*((e+31) / 32)):=Nat.pow_le_pow_right (by decide) (by omega)
 have h2:=Qb6 (n:=n) (k:=(e+31) / 32) (by rw [pow32];omega)
 unfold Sm
 omega
theorem sm_le {n m:Nat} (h:Sm m) (hl:n≤m):Sm n:=by
 have h1:=val_lt (limbs m) (Qay m)
 rw [Qap] at h1
 have h2:=Qb6 (n:=n) (k:=(limbs m).length) (by omega)
 unfold Sm at h ⊢
 omega
theorem zeros_own (W:World) (k:Nat) (hk:k≤9223372036854775807):LOwn (W.alloc (.cells (madeCells #[Value.int .u32 0] k) 152)) 0 (.slice (some ⟨W.heap.size,0,none⟩) k k) (List.replicate k 0):=by
 have h:=made_own (World.ownsRow_lit (base:=0) (size:=1) (e:=152) W (madeCells (Value.int .u32 0).cells (k*1)) k (Nat.zero_le _) (by unfold maxLen;omega) (size_madeCells _ _))
 rw [Nat.mul_one] at h
 exact h
theorem own_zeros {W:World} {v:Value} {k:Nat} (h:LOwn W 0 v (List.replicate k 0)):W.ownsRow 0 152 1 v k (U (List.replicate k 0)):=by
 unfold LOwn at h
 rwa [List.length_replicate] at h
theorem LOwn.news {W:World} {base g n c:Nat} {xs:List Nat} (h:LOwn W base (.slice (Option.some ⟨g,0,none⟩) n c) xs) (j:Nat) (u:Value) (hj:(U xs)[j]? = Option.some u):W.cell? ((⟨g,0,none⟩:Addr).add j)=Option.some u:=by
 have:=h.cells (g:=g) rfl j u hj
 exact this
set_option maxHeartbeats 8000000 in
set_option maxRecDepth 100000 in
theorem shl_any (xs:List Nat) (v:Value) (s:Nat) (w:World) (h1:LAt w v xs) (hs1:xs.length≤1099511627776) (hm1:Sm (val xs)) (hA:val xs ≠ 0) (hb:blen (val xs)+s≤131072) :
 Calls Tryz.prog 175 #[v,.int .i64 s] w (NPost (val xs*2 ^ s) w):=by
 obtain ⟨a1,d1,hv1,_⟩:=h1.slice
 obtain ⟨n1,hn1⟩:∃ n,xs.length=n:=⟨_,rfl⟩
 rw [hn1] at hv1
 subst hv1
 obtain ⟨i0,hi,hz0,hz1,hz2⟩:=info_parts info152
 obtain ⟨A,hAe⟩:∃ A,val xs=A:=⟨_,rfl⟩
 have hb0:=(Below.refl w.heap.size w).alloc (Nat.le_refl _) (.cells #[.slice a1 n1 d1] 150)
 have HF:=Lib.hid (fits_any [(.slice a1 n1 d1,xs)] w.heap.size 1 1 _ rfl (fit_one w _ xs h1 hs1 hm1) (by omega))
 have HT1:=Lib.hid fun W (hb:Below w.heap.size w W)=>Qbq xs _ W (h1.below hb) hs1
 have HBt:=Lib.hid fun W (hb:Below w.heap.size w W)=>bits_any xs _ W (h1.below hb) hs1
 have HB0:=Lib.hid hb0
 rw [hAe] at HT1 HBt hm1 hA hb ⊢
 obtain ⟨n,hn⟩:∃ n,(limbs A).length=n:=⟨_,rfl⟩
 have hn4:n≤4096:=by rw [← hn];exact hm1
 have HN:=Lib.hid hn
 obtain ⟨b,hbl⟩:∃ b,blen A=b:=⟨_,rfl⟩
 rw [hbl] at HBt hb
 have hb1:1≤b:=by rw [← hbl];exact (blen_le hA).2
 obtain ⟨k,hk⟩:∃ k,s / 32=k:=⟨_,rfl⟩
 obtain ⟨r,hr⟩:∃ r,s % 32=r:=⟨_,rfl⟩
 have hmk:∀ W,(Instr.makeSlice 150 (.int .i64 (k:Int)) (.int .i64 (k:Int))).run Tryz.prog W=.ok (.slice (some ⟨W.heap.size,0,none⟩) k k) (W.alloc (.cells (madeCells #[Value.int .u32 0] k) 152)):=fun W=>by
  have:=run_make (P:=Tryz.prog) W 150 152 i0 (.int .u32 0) Tryz.underlying150 hi hz0 .i64 .i64 (k:Int) (k:Int) (by omega) (by omega) (by rw [hz2];omega) (by omega)
  rw [hz1,Int.toNat_natCast,Nat.mul_one] at this
  exact this
 have HMk:=Lib.hid (show s / 32=k∧s % 32=r∧blen A=b from ⟨hk,hr,hbl⟩)
 have HSm:Hid (Sm (A*2 ^ s)):=Lib.hid (sm_of (e:=b+s) (by
  have h1:=blen_lt A
  rw [hbl] at h1
  rw [Nat.pow_add]
  exact Nat.mul_lt_mul_of_pos_right h1 (Nat.two_pow_pos s)) hb)
 have c1:¬ (s:Int)<0:=by omega
 have c2:((b:Int) == 0)=false:=by simp;omega
 have c3:IntKind.i64.wrap (131072 - (b:Int))=131072 - (b:Int):=by rw [IntKind.wrap_i64];omega
 have c4:¬ 131072 - (b:Int)<(s:Int):=by omega
 have c5:(s:Int) / 32=(k:Int):=by omega
 have c6:(s:Int) % 32=(r:Int):=by omega
 have c7:IntKind.i64.wrap (k:Int)=(k:Int):=by rw [IntKind.wrap_i64];omega
 have c8:(s:Int).tmod 32=(r:Int):=by rw [Int.tmod_eq_emod_of_nonneg (by omega)];omega
 have c9:IntKind.i64.wrap (r:Int)=(r:Int):=by rw [IntKind.wrap_i64];omega
 clear h1 hs1 hm1 hAe hn1 hb0 hn hbl hk hr hA
 go_enter Tryz.func175,Tryz.ntmps175
 go_wp2_with (first
  | (go_at_call 128;refine HF.out.mono ?_;rintro e w1 ⟨he,hb1⟩;subst he;have HB1:=Lib.hid (HB0.out.trans (hb1.mono HB0.out.size));clear hb1 HF)
  | (go_at_call 195;refine (HBt.out _ HB1.out).mono ?_;rintro e w2 ⟨he,hb2⟩;subst he;have HB2:=Lib.hid (HB1.out.trans (hb2.mono HB1.out.size));clear hb2 HB1)
  | (go_at_call 195;refine (HBt.out _ HB2.out).mono ?_;rintro e w3 ⟨he,hb3⟩;subst he;have HB3:=Lib.hid (HB2.out.trans (hb3.mono HB2.out.size));clear hb3 HB2))
 have HKB:=Lib.hid (show k≤4096∧r<32 from by have:=HMk.out;omega)
 have hfit:val (limbs A)*2 ^ r<4294967296 ^ ((limbs A).length+1):=by
  have h1:=val_lt (limbs A) (Qay A)
  have h2:2 ^ r≤2 ^ 32:=Nat.pow_le_pow_right (by decide) (by have:=HKB.out;omega)
  rw [Nat.pow_succ]
  exact Nat.lt_of_lt_of_le (Nat.mul_lt_mul_of_pos_right h1 (Nat.two_pow_pos r)) (Nat.mul_le_mul_left _ (by omega))
 have HLeft:=Lib.hid fun (v:Value) (W:World) (h:LAt W v (limbs A))=>left_any (limbs A) v r 1 W h (by have:=HN.out;omega) HKB.out.2 (by omega) hfit
 rw [Qap,HN.out] at HLeft
 clear hfit
 have HKl:k≤9223372036854775807:=by have:=HKB.out;omega
 go_region_law (first
  | (go_simp;go_at_call 130;refine (HT1.out _ (by first | exact HB3.out.drew | exact HB3.out.drew.alloc HB3.out.drew.size _)).mono ?_;rintro e w4 ⟨v4,he,hl4,hb4⟩;subst he;obtain ⟨p4,c4,hv4,hc4⟩:=hl4.slice;rw [HN.out] at hv4;subst hv4;have HL4:=Lib.hid hl4;have HB4:=Lib.hid hb4;have HBW4:=Lib.hid (show Below w.heap.size w w4 from (by first | exact HB3.out.drew.trans (hb4.mono HB3.out.drew.size) | exact (HB3.out.drew.alloc HB3.out.drew.size _).trans (hb4.mono (HB3.out.drew.alloc HB3.out.drew.size _).size)));clear hl4 hb4)
  | (go_simp;go_at_call 196;refine (HLeft.out _ _ (by first | exact HL4.out | exact HL4.out.below ((Below.refl _ w4).alloc (Nat.le_refl _) _))).mono ?_;rintro e w5 ⟨v5,O,he,ho5,hol5,hlim5,hval5,hb5⟩;subst he;obtain ⟨p5,c5,hv5,hc5⟩:=ho5.slice;rw [hol5] at hv5;subst hv5;obtain ⟨g5,hp5,_,_⟩:=ho5.some (by omega);subst hp5;have HO5:=Lib.hid ho5;have HV5:=Lib.hid (show _∧_∧_ from ⟨hol5,hlim5,hval5⟩);have HB5:=Lib.hid hb5;have HBW5:=Lib.hid (show Below w.heap.size w w5 from (by first | exact HBW4.out.trans (hb5.mono HBW4.out.size) | exact (HBW4.out.alloc HBW4.out.size _).trans (hb5.mono (HBW4.out.alloc HBW4.out.size _).size)));clear ho5 hol5 hlim5 hval5 hb5)
  | (go_simp;go_at_call 132;refine HTo.out.mono ?_;rintro e w7 ⟨v7,he,hl7,hb7⟩;subst he;have HL7:=Lib.hid hl7;have HB7:=Lib.hid (HBW6.out.trans (hb7.mono HBW6.out.size));clear hl7 hb7)
  | (refine step_append_lies _ (by rfl) (.tmp 26) (.tmp 31) 150 (by rfl) 0 152 i0 (.int .u32 0) 1 4 Tryz.underlying150 hi hz0 hz1 hz2 (by rfl) (by omega) (.slice (some ⟨_,0,none⟩) k k) k (U (List.replicate k 0)) (by rfl)
      (by first | exact own_zeros (((zeros_own w3.drew k HKl).below HB4.out).below HB5.out) | exact own_zeros ((zeros_own w4 k HKl).below HB5.out) | exact own_zeros (zeros_own w5 k HKl)) ⟨g5,0,none⟩ (n+1) c5 (U O) (by rfl)
      (by rw [U_len,HV5.out.1,Nat.mul_one]) (by first | exact HO5.out.news | exact (HO5.out.below ((Below.refl _ w5).alloc (Nat.le_refl _) _)).news) (h1:=U_one O) (hm:=Nat.succ_pos n) (h63:=(by have:=HKB.out;unfold maxLen;omega)) (hbytes:=(by have:=HKB.out;omega)) (hbase:=Nat.zero_le _) (H:=_) (hH:=rfl) (h:=?_)
     intro g6 c6 w6 hown6 hgr6 hat6 hlt6
     have hb6:Below w.heap.size w w6:=by
      have own:∀ b,(w3.heap.size=b ∨ w4.heap.size=b ∨ w5.heap.size=b)→w.heap.size≤b:=fun b hb=>by
       have:=HB3.out.size
       have:=HBW4.out.size
       have:=HBW5.out.size
       omega
      first
       | exact HBW5.out.grown hgr6 HBW5.out.size (fun b hb=>own b (by simp [Value.ownBlock] at hb;omega))
       | exact (HBW5.out.alloc HBW5.out.size _).grown hgr6 (HBW5.out.alloc HBW5.out.size _).size (fun b hb=>own b (by simp [Value.ownBlock] at hb;omega))
     have ho6:LOwn w6 0 (.slice (some ⟨g6,0,none⟩) (k+(n+1)) c6) (List.replicate k 0 ++ O):=by
      unfold LOwn
      rw [List.length_append,List.length_replicate,HV5.out.1,U_app]
      exact hown6
     have hlim6:Lim (List.replicate k 0 ++ O):=fun x hx=>by
      rcases List.mem_append.1 hx with hx | hx
      · exact Lim.zeros k x hx
      · exact HV5.out.2.1 x hx
     have hval6:val (List.replicate k 0 ++ O)=A*2 ^ s:=by
      rw [val_append,val_zeros,List.length_replicate,HV5.out.2.2,pow32]
      have h32:2 ^ s=2 ^ (32*k)*2 ^ r:=by
       rw [← Nat.pow_add]
       congr 1
       have:=HMk.out
       omega
      rw [h32]
      grind
     have hto:=told_any _ _ w6 (ho6.at_ hlim6) (by rw [List.length_append,List.length_replicate,HV5.out.1];have:=HKB.out;omega) (by rw [hval6];exact HSm.out)
     rw [hval6] at hto
     have HTo:=Lib.hid hto
     have HBW6:=Lib.hid hb6
     clear hown6 hgr6 hat6 hlt6 hb6 ho6 hlim6 hval6 hto))
 all_goals
  go_wp2
  exact bodyPost_ret (v:=.tuple #[v7,.int .i64 0]) (by simp [results,Tryz.results175,go_sem]) rfl ⟨_,rfl,HL7.out,HB7.out⟩
theorem shr_limb {A s i x y R:Nat} (hs:s<32) (hA:A / 4294967296 ^ i=x+4294967296*(y+4294967296*R)):A / 2 ^ s / 4294967296 ^ i % 4294967296=(x+4294967296*y) / 2 ^ s % 4294967296:=by
 rw [Nat.div_div_eq_div_mul,Nat.mul_comm,← Nat.div_div_eq_div_mul,hA]
 have h32:(4294967296:Nat)=2 ^ s*2 ^ (32 - s):=by rw [← Nat.pow_add,show s+(32 - s)=32 by omega]
 have e:x+4294967296*(y+4294967296*R)=2 ^ s*(2 ^ (32 - s)*4294967296*R)+(x+4294967296*y):=by
  have:4294967296*(4294967296*R)=2 ^ s*(2 ^ (32 - s)*4294967296*R):=by
   conv=>lhs;rw [h32]
   rw [← h32]
   grind
  omega
 rw [e,Nat.mul_add_div (Nat.two_pow_pos s)]
 rw [show 2 ^ (32 - s)*4294967296*R=4294967296*(2 ^ (32 - s)*R) by grind,Nat.mul_add_mod]
theorem val_div {xs:List Nat} (h:Lim xs) (i:Nat) (hi:i≤xs.length):val xs / 4294967296 ^ i=val (xs.drop i):=by
 have h1:=val_take_drop xs i hi
 have h2:=Qca h i hi
 rw [h1,Nat.add_mul_div_left _ _ (Nat.pow_pos (by decide)),Nat.div_eq_of_lt h2,Nat.zero_add]
theorem val_drop {xs:List Nat} {i x:Nat} (h:xs[i]? = some x):val (xs.drop i)=x+4294967296*val (xs.drop (i+1)):=by
 have hi:=(List.getElem?_eq_some_iff.1 h).1
 rw [List.drop_eq_getElem_cons hi,val]
 have:xs[i]=x:=by rw [List.getElem?_eq_getElem hi] at h;injection h
 rw [this]
theorem take_step {O:List Nat} {i t D:Nat} (hi:i<O.length) (hv:val (O.take i)=D % 4294967296 ^ i) (ht:D / 4294967296 ^ i % 4294967296=t):val ((O.set i t).take (i+1))=D % 4294967296 ^ (i+1):=by
 rw [Qbn (x:=t) (by rw [List.getElem?_set_self hi]),List.take_set_of_le (Nat.le_refl i),hv,Nat.mod_pow_succ,ht]
def SrIn (w3 wi:World) (q n D:Nat) (i:Nat) (O:List Nat):Prop:=O.length=n∧Lim O∧val (O.take i)=D % 4294967296 ^ i∧LOwn wi q (.slice (some ⟨q,0,none⟩) n n) O∧Below q w3 wi
set_option maxHeartbeats 8000000 in
set_option maxRecDepth 100000 in
theorem shr_any (xs:List Nat) (v:Value) (s:Nat) (w:World) (h1:LAt w v xs) (hs1:xs.length≤1099511627776) (hm1:Sm (val xs)) (hs:s<32) :
 Calls Tryz.prog 200 #[v,.int .i64 s] w (NPost (val xs / 2 ^ s) w):=by
 obtain ⟨a1,d1,hv1,_⟩:=h1.slice
 obtain ⟨n1,hn1⟩:∃ n,xs.length=n:=⟨_,rfl⟩
 rw [hn1] at hv1
 subst hv1
 obtain ⟨i0,hi,hz0,hz1,hz2⟩:=info_parts info152
 obtain ⟨A,hAe⟩:∃ A,val xs=A:=⟨_,rfl⟩
 have hb0:=(Below.refl w.heap.size w).alloc (Nat.le_refl _) (.cells #[.slice a1 n1 d1] 150)
 have HF:=Lib.hid (fits_any [(.slice a1 n1 d1,xs)] w.heap.size 1 1 _ rfl (fit_one w _ xs h1 hs1 hm1) (by omega))
 have HT1:=Lib.hid fun W (hb:Below w.heap.size w W)=>Qbq xs _ W (h1.below hb) hs1
 have HB0:=Lib.hid hb0
 rw [hAe] at HT1 hm1 ⊢
 obtain ⟨n,hn⟩:∃ n,(limbs A).length=n:=⟨_,rfl⟩
 have hn4:n≤4096:=by rw [← hn];exact hm1
 have HN:=Lib.hid hn
 obtain ⟨D,hD⟩:∃ D,A / 2 ^ s=D:=⟨_,rfl⟩
 rw [hD]
 have hmk:∀ W,(Instr.makeSlice 150 (.int .i64 (n:Int)) (.int .i64 (n:Int))).run Tryz.prog W=.ok (.slice (some ⟨W.heap.size,0,none⟩) n n) (W.alloc (.cells (madeCells #[Value.int .u32 0] n) 152)):=fun W=>by
  have:=run_make (P:=Tryz.prog) W 150 152 i0 (.int .u32 0) Tryz.underlying150 hi hz0 .i64 .i64 (n:Int) (n:Int) (by omega) (by omega) (by rw [hz2];omega) (by omega)
  rw [hz1,Int.toNat_natCast,Nat.mul_one] at this
  exact this
 have HD:=Lib.hid hD
 have c1:¬ (s:Int)<0:=by omega
 have c5:(s:Int) / 32=0:=by omega
 have c8:(s:Int).tmod 32=(s:Int):=by rw [Int.tmod_eq_emod_of_nonneg (by omega)];omega
 clear h1 hs1 hm1 hAe hn1 hb0 hn hD
 by_cases h0:n=0
 · subst h0
   have HA0:Hid (D=0):=Lib.hid (by
    have:=limbs_nil.1 (List.eq_nil_of_length_eq_zero HN.out)
    rw [← HD.out,this]
    exact Nat.zero_div _)
   go_enter Tryz.func200,Tryz.ntmps200
   go_wp2_with (first
    | (go_at_call 128;refine HF.out.mono ?_;rintro e w1 ⟨he,hb1⟩;subst he;have HB1:=Lib.hid (HB0.out.trans (hb1.mono HB0.out.size));clear hb1 HF)
    | (go_at_call 130;refine (HT1.out w1 HB1.out).mono ?_;rintro e w2 ⟨v2,he,hl2,hb2⟩;subst he;obtain ⟨p2,c2,hv2,hc2⟩:=hl2.slice;rw [HN.out] at hv2;subst hv2;have HL2:=Lib.hid hl2;have HB2:=Lib.hid (HB1.out.trans (hb2.mono HB1.out.size));clear hb2 hl2 hc2 HT1))
   exact bodyPost_ret (v:=.tuple #[.slice none 0 0,.int .i64 0]) (by simp [results,Tryz.results200,go_sem]) rfl ⟨_,rfl,by rw [HA0.out,limbs_zero];exact LAt.nil _,HB2.out⟩
 · have c9:¬ (n:Int)≤0:=by omega
   go_enter Tryz.func200,Tryz.ntmps200
   go_wp2_with (first
    | (go_at_call 128;refine HF.out.mono ?_;rintro e w1 ⟨he,hb1⟩;subst he;have HB1:=Lib.hid (HB0.out.trans (hb1.mono HB0.out.size));clear hb1 HF)
    | (go_at_call 130;refine (HT1.out w1 HB1.out).mono ?_;rintro e w2 ⟨v2,he,hl2,hb2⟩;subst he;obtain ⟨p2,c2,hv2,hc2⟩:=hl2.slice;rw [HN.out] at hv2;subst hv2;have HL2:=Lib.hid hl2;have HB2:=Lib.hid (HB1.out.trans (hb2.mono HB1.out.size));obtain ⟨g2,o2,e2,hg2,hx2⟩:=hl2.cells (by omega);subst e2;have HX2:=Lib.hid hx2;have HG2:=Lib.hid hg2;clear hb2 hl2 HT1 hg2 hx2))
   obtain ⟨q,hq⟩:∃ q,w2.heap.size=q:=⟨_,rfl⟩
   have hO':LOwn (w2.alloc (.cells (madeCells #[Value.int .u32 0] n) 152)) w2.heap.size (.slice (some ⟨w2.heap.size,0,none⟩) n n) (List.replicate n 0):=by
    have h:=made_own (World.ownsRow_lit (base:=w2.heap.size) (size:=1) (e:=152) w2 (madeCells (Value.int .u32 0).cells (n*1)) n (Nat.le_refl _) (by unfold maxLen;omega) (size_madeCells _ _))
    rw [Nat.mul_one] at h
    exact h
   have hB':=(Below.refl w2.heap.size w2).alloc (Nat.le_refl _) (.cells (madeCells #[Value.int .u32 0] n) 152)
   rw [hq] at hO' hB' ⊢
   have hI0 : SrIn w2 (w2.alloc (.cells (madeCells #[Value.int .u32 0] n) 152)) q n D 0 (List.replicate n 0) := ⟨List.length_replicate, Lim.zeros _, by simp [val, Nat.mod_one], hO', hB'⟩
   have HI0:=Lib.hid hI0
   have HQ:=Lib.hid hq
   clear hI0 hO' hB' hq hmk
   go_loopw [34] (fun c wi=>∃ (i:Nat) (O:List Nat),i≤n∧c=.int .i64 i∧Hid (SrIn w2 wi q n D i O)) (fun c _=>n - (intOf c).toNat)
   case atStart=>exact ⟨0,_,Nat.zero_le _,rfl,HI0⟩
   case round =>
    clear HI0
    obtain ⟨i, O, hi', rfl, HI⟩ := hrel
    obtain ⟨hOl,hOlim,hval,hown,hbel⟩:=HI.out
    by_cases hlt:i<n
    · obtain ⟨x,hx⟩:=Qbg (xs:=limbs A) (i:=i) (by have:=HN.out;omega)
      obtain ⟨o,ho⟩:=Qbg (xs:=O) (i:=i) (by omega)
      have hxl:=(Qay A).get hx
      obtain ⟨j,hj⟩:∃ j,i+1=j:=⟨_,rfl⟩
      have hA1:=val_div (Qay A) i (by have:=HN.out;omega)
      rw [Qap,val_drop hx] at hA1
      have d1:=(hbel.cell (p:=⟨g2,o2+i,none⟩) (by have:=HQ.out;have:=HG2.out;show g2<q;omega)).trans (HX2.out i x hx)
      have c2':=hown.cell ho
      have c3':=hown.fz i
      have f1:(i:Int)<(n:Int):=by omega
      have b1:IntKind.u64.wrap (x:Int)=(x:Int):=by rw [IntKind.wrap_u64];omega
      have b6:IntKind.i64.wrap ((i:Int)+1)=(j:Int):=by rw [IntKind.wrap_i64];omega
      by_cases hjn:j<n
      · obtain ⟨y,hy⟩:=Qbg (xs:=limbs A) (i:=j) (by have:=HN.out;omega)
        have hyl:=(Qay A).get hy
        have d2:=(hbel.cell (p:=⟨g2,o2+j,none⟩) (by have:=HQ.out;have:=HG2.out;show g2<q;omega)).trans (HX2.out j y hy)
        rw [hj,val_drop hy] at hA1
        have hdig:=shr_limb hs hA1
        rw [HD.out] at hdig
        obtain ⟨z,hz⟩:∃ z,x+4294967296*y=z:=⟨_,rfl⟩
        obtain ⟨u,hu⟩:∃ u,z / 2 ^ s=u:=⟨_,rfl⟩
        obtain ⟨t,ht⟩:∃ t,u % 4294967296=t:=⟨_,rfl⟩
        rw [hz,hu,ht] at hdig
        have hul:u≤z:=by rw [← hu];exact Nat.div_le_self ..
        have f3:(j:Int)<(n:Int):=by omega
        have b2:IntKind.u64.wrap (y:Int)=(y:Int):=by rw [IntKind.wrap_u64];omega
        have b3:IntKind.u64.wrap ((y:Int)*4294967296)=(y:Int)*4294967296:=by rw [IntKind.wrap_u64];omega
        have b4:Go.bits .or .u64 (x:Int) ((y:Int)*4294967296)=(z:Int):=by
         have h:=or_32 (y:Int) (x:Int) (by omega) (by omega) (by omega) (by omega)
         have e1:((y:Int)*4294967296)=((y*4294967296:Nat):Int):=by omega
         rw [e1] at h ⊢
         rw [u64_or_nat _ _ (by omega) (by omega)] at h ⊢
         rw [Nat.or_comm,h]
         omega
        have b5:(z:Int) / 2 ^ s=(u:Int):=by
         have e2:((2:Int) ^ s)=((2 ^ s:Nat):Int):=by rw [Int.natCast_pow];rfl
         rw [e2,← Int.natCast_ediv,hu]
        have b7:IntKind.u32.wrap (u:Int)=(t:Int):=by rw [IntKind.wrap_u32];omega
        have HS:=Lib.hid (show D / 4294967296 ^ i % 4294967296=t∧t<4294967296∧i+1=j from ⟨hdig,by omega,hj⟩)
        clear hdig hz hu ht hul hy hyl hx hxl ho hA1 hOl hOlim hval hown hbel hj
        go_wp2
        go_roundw
        case rel =>
         obtain ⟨hOl,hOlim,hval,hown,hbel⟩:=HI.out
         refine ⟨j,O.set i t,by omega,rfl,(show Hid _ from ⟨by rw [List.length_set];exact hOl,hOlim.set i HS.out.2.1,?_,hown.stored i t,hbel.setCell (Nat.le_refl _) _⟩)⟩
         rw [← HS.out.2.2]
         exact take_step (by omega) hval HS.out.1
        case measure=>have:=HS.out.2.2;(simp [intOf] <;> omega)
      · have hdr:val ((limbs A).drop (i+1))=0:=by
         rw [List.drop_of_length_le (by have:=HN.out;omega)]
         rfl
        rw [hdr] at hA1
        have hdig:=shr_limb (y:=0) (R:=0) hs (by omega)
        rw [HD.out] at hdig
        obtain ⟨u,hu⟩:∃ u,x / 2 ^ s=u:=⟨_,rfl⟩
        rw [Nat.mul_zero,Nat.add_zero,hu] at hdig
        have hul:u≤x:=by rw [← hu];exact Nat.div_le_self ..
        have f3:¬ (j:Int)<(n:Int):=by omega
        have b5:(x:Int) / 2 ^ s=(u:Int):=by
         have e2:((2:Int) ^ s)=((2 ^ s:Nat):Int):=by rw [Int.natCast_pow];rfl
         rw [e2,← Int.natCast_ediv,hu]
        have b7:IntKind.u32.wrap (u:Int)=(u:Int):=by rw [IntKind.wrap_u32];omega
        have HS:=Lib.hid (show D / 4294967296 ^ i % 4294967296=u∧u<4294967296∧i+1=j from ⟨by omega,by omega,hj⟩)
        clear hdig hu hul hdr hx hxl ho hA1 hOl hOlim hval hown hbel hj
        go_wp2
        go_roundw
        case rel =>
         obtain ⟨hOl,hOlim,hval,hown,hbel⟩:=HI.out
         refine ⟨j,O.set i u,by have:=HS.out.2.2;omega,rfl,(show Hid _ from ⟨by rw [List.length_set];exact hOl,hOlim.set i HS.out.2.1,?_,hown.stored i u,hbel.setCell (Nat.le_refl _) _⟩)⟩
         rw [← HS.out.2.2]
         exact take_step (by omega) hval HS.out.1
        case measure=>have:=HS.out.2.2;(simp [intOf] <;> omega)
    · obtain rfl:i=n:=by omega
      have f1:¬ (i:Int)<(i:Int):=by omega
      have hDl:D<4294967296 ^ i:=by
       have h1:=val_lt (limbs A) (Qay A)
       rw [Qap,HN.out] at h1
       have h2:D≤A:=by rw [← HD.out];exact Nat.div_le_self ..
       omega
      rw [List.take_of_length_le (by omega),Nat.mod_eq_of_lt hDl] at hval
      have HT:=Lib.hid (told_any O _ wr (hown.at_ hOlim) (by omega) (by
       rw [hval]
       have:=Qb6 hDl
       unfold Sm
       omega))
      rw [hval] at HT
      have HBB:=Lib.hid (HB2.out.trans ((hbel.mono (by have:=HQ.out;have:=HB2.out.size;omega))))
      clear hOl hOlim hval hown hbel hDl
      go_wp2_with (go_at_call 132;refine HT.out.mono ?_;rintro e w5 ⟨v5,he,hl5,hb5⟩;subst he;have HL5:=Lib.hid hl5;have HB5:=Lib.hid (HBB.out.trans (hb5.mono HBB.out.size));clear hl5 hb5)
      exact bodyPost_ret (v:=.tuple #[v5,.int .i64 0]) (by simp [results,Tryz.results200,go_sem]) rfl ⟨_,rfl,HL5.out,HB5.out⟩
end Go.Proofs.YtfmceonbejlhlaaGreatDoor
