import Derived.Laws.BitsLemmas
import Derived.Lib.EndianBits
import Derived.BigQuiet
import Derived.Deep.QuietTactic
import Derived.BigRegion
import Derived.Laws.BitsAllLaws
import Derived.Test.YtfmceonbejlhlaaGreatDoorMWs0
import Derived.Test.YtfmceonbejlhlaaGreatDoorMWs10
namespace Go.Proofs.YtfmceonbejlhlaaGreatDoor
open Go.RowKit Go.Proofs.YtfmceonbejlhlaaGreatDoorW.PrintWords Go.Proofs.YtfmceonbejlhlaaGreatDoorW.PrintLast Go.Proofs.YtfmceonbejlhlaaGreatDoorW.PrintMore
set_option linter.unusedVariables false
theorem or_32 (x c:Int) (h0:0≤x) (h1:x<4294967296) (h2:0≤c) (h3:c<4294967296):Go.bits .or .u64 (x*4294967296) c=x*4294967296+c :=
 bits_join .u64 64 (by decide) wraps_u64 32 (x*4294967296) c (by omega) (by omega) (by simpa using (show x*4294967296<18446744073709551616 by omega)) h2 (by simpa using h3) (by omega)
set_option maxHeartbeats 2000000 in
set_option maxRecDepth 100000 in
theorem div32_any (hi lo y:Nat) (w:World) (h1:hi<y) (h2:y<4294967296) (h3:lo<4294967296) :
 Calls Tryz.prog 166 #[.int .u32 hi,.int .u32 lo,.int .u32 y] w (fun e w'=>e=.returned (.tuple #[.int .u32 (((hi*4294967296+lo) / y:Nat):Int),.int .u32 (((hi*4294967296+lo) % y:Nat):Int)])∧∃ k,w'=w.drewN k):=by
 obtain ⟨z,hz⟩:∃ z,hi*4294967296+lo=z:=⟨_,rfl⟩
 rw [hz]
 obtain ⟨q,hq⟩:∃ q,z / y=q:=⟨_,rfl⟩
 obtain ⟨r,hr⟩:∃ r,z % y=r:=⟨_,rfl⟩
 have hzl:z<18446744073709551616:=by omega
 have hql:q<4294967296:=by
  rw [← hq,Nat.div_lt_iff_lt_mul (by omega)]
  have:(hi+1)*4294967296≤y*4294967296:=Nat.mul_le_mul_right _ (by omega)
  have e:4294967296*y=y*4294967296:=Nat.mul_comm ..
  omega
 have hrl:r<y:=by rw [← hr];exact Nat.mod_lt _ (by omega)
 rw [hq,hr]
 have y0:((y:Int) != 0)=true:=by simp;omega
 have y0':((y:Int) == 0)=false:=by simp;omega
 have y1:¬ (y:Int)≤(hi:Int):=by omega
 have b1:IntKind.u64.wrap (hi:Int)=(hi:Int):=by rw [IntKind.wrap_u64];omega
 have b2:IntKind.u64.wrap (lo:Int)=(lo:Int):=by rw [IntKind.wrap_u64];omega
 have b3:IntKind.u64.wrap (y:Int)=(y:Int):=by rw [IntKind.wrap_u64];omega
 have b4:IntKind.u64.wrap ((hi:Int)*4294967296)=(hi:Int)*4294967296:=by rw [IntKind.wrap_u64];omega
 have b5:Go.bits .or .u64 ((hi:Int)*4294967296) (lo:Int)=(z:Int):=by
  rw [or_32 _ _ (by omega) (by omega) (by omega) (by omega)];omega
 have b6:(z:Int) / (y:Int)=(q:Int):=by rw [← hq];exact (Int.natCast_ediv z y).symm
 have b7:(z:Int) % (y:Int)=(r:Int):=by rw [← hr];exact (Int.natCast_emod z y).symm
 have b8:IntKind.u32.wrap (q:Int)=(q:Int):=by rw [IntKind.wrap_u32];omega
 have b9:IntKind.u32.wrap (r:Int)=(r:Int):=by rw [IntKind.wrap_u32];omega
 have b10:IntKind.u64.wrap (q:Int)=(q:Int):=by rw [IntKind.wrap_u64];omega
 have b11:(q:Int) % 4294967296=(q:Int):=by omega
 have b12:(r:Int) % 4294967296=(r:Int):=by omega
 clear hz hq hr hzl hql hrl
 go_enter Tryz.func166,Tryz.ntmps166
 go_wp2_with fail
 go_region
 go_wp2
 exact bodyPost_ret (v:=.tuple #[.int .u32 q,.int .u32 r]) (by simp [results,Tryz.results166,go_sem]) rfl ⟨rfl,1,rfl⟩
theorem div_step {O X:List Nat} {i x d r z:Nat} (hd:0<d) (hO:O[i]? = some x) (hX:X[i]? = some x) (hz:z=r*4294967296+x) (hI:val (X.drop (i+1))=d*val (O.drop (i+1))+r) :
 val (X.drop i)=d*val ((O.set i (z / d)).drop i)+z % d:=by
 have h1:=(List.getElem?_eq_some_iff.1 hO)
 have h2:=(List.getElem?_eq_some_iff.1 hX)
 obtain ⟨o1,o2⟩:=h1
 obtain ⟨x1,x2⟩:=h2
 have o3:i<(O.set i (z / d)).length:=by rw [List.length_set];exact o1
 rw [List.drop_eq_getElem_cons x1,List.drop_eq_getElem_cons o3,val,val,x2,List.getElem_set_self,List.drop_set_of_lt (by omega),hI]
 have h5:z % d+d*(z / d)=z:=Nat.mod_add_div ..
 generalize z % d=a at *
 generalize z / d=b at *
 grind
def DvIn (w2 wi:World) (q d:Nat) (X:List Nat) (v:Value) (n k r:Nat) (O:List Nat):Prop:=O.length=n∧Lim O∧r<d∧val (X.drop k)=d*val (O.drop k)+r∧(∀ j,j<k→O[j]? = X[j]?)∧LOwn wi q v O∧Below q w2 wi
def DvPost (A d:Nat) (w:World) (e:Ending) (w':World):Prop:=∃ v,e=.returned (.tuple #[v,.int .u32 ((A % d:Nat):Int),.int .i64 0])∧LAt w' v (limbs (A / d))∧Below w.heap.size w w'
set_option maxHeartbeats 8000000 in
set_option maxRecDepth 100000 in
theorem divsmall_any (xs:List Nat) (v:Value) (d:Nat) (w:World) (h1:LAt w v xs) (hs1:xs.length≤1099511627776) (hm1:Sm (val xs)) (hd0:0<d) (hd:d<4294967296) :
 Calls Tryz.prog 133 #[v,.int .u32 d] w (DvPost (val xs) d w):=by
 obtain ⟨a1,d1,hv1,_⟩:=h1.slice
 obtain ⟨n1,hn1⟩:∃ n,xs.length=n:=⟨_,rfl⟩
 rw [hn1] at hv1
 subst hv1
 obtain ⟨A,hA⟩:∃ A,val xs=A:=⟨_,rfl⟩
 have hb0:=(Below.refl w.heap.size w).alloc (Nat.le_refl _) (.cells #[.slice a1 n1 d1] 150)
 have HF:=Lib.hid (fits_any [(.slice a1 n1 d1,xs)] w.heap.size 1 1 _ rfl (fit_one w _ xs h1 hs1 hm1) (by omega))
 have HT1:=Lib.hid fun W (hb:Below w.heap.size w W)=>Qbq xs _ W (h1.below hb) hs1
 have HB0:=Lib.hid hb0
 rw [hA] at HT1 hm1 ⊢
 obtain ⟨n,hn⟩:∃ n,(limbs A).length=n:=⟨_,rfl⟩
 have hn4:n≤4096:=by rw [← hn];exact hm1
 have HN:=Lib.hid hn
 have e0:IntKind.i64.wrap ((n:Int) - 1)=(n:Int) - 1:=by rw [IntKind.wrap_i64];omega
 have d0:((d:Int) == 0)=false:=by simp;omega
 clear hA h1 hs1 hn hm1 hb0 hn1
 go_enter Tryz.func133,Tryz.ntmps133
 go_wp2_with (first
  | (go_at_call 128;refine HF.out.mono ?_;rintro e w1 ⟨he,hb1⟩;subst he;have HB1:=Lib.hid (HB0.out.trans (hb1.mono HB0.out.size));clear hb1 HF)
  | (go_at_call 130;refine (HT1.out w1 HB1.out).mono ?_;rintro e w2 ⟨v2,he,hl2,hb2⟩;subst he;obtain ⟨p2,c2,hv2,hc2⟩:=hl2.slice;rw [HN.out] at hv2;subst hv2;have HL2:=Lib.hid hl2;have HB2:=Lib.hid (HB1.out.trans (hb2.mono HB1.out.size));clear hb2 hl2 hc2 HT1)
  | (go_at_call 129;refine (clone_any (limbs A) _ w2 HL2.out (by have:=HN.out;omega)).mono ?_;rintro e w3 ⟨v3,he,hl3,hb3⟩;subst he;obtain ⟨p3,c3,hv3,hc3⟩:=hl3.slice;rw [HN.out] at hv3;subst hv3;have HL3:=Lib.hid hl3;have HB3:=Lib.hid hb3;clear hl3 hb3 hc3))
 obtain ⟨q,hq⟩:∃ q,w2.heap.size=q:=⟨_,rfl⟩
 have hI0:DvIn w2 w3 q d (limbs A) (.slice p3 n c3) n n 0 (limbs A):=⟨HN.out,Qay A,hd0,by rw [List.drop_of_length_le (by have:=HN.out;omega)];simp [val],fun _ _=>rfl,by have:=HL3.out;rw [hq] at this;exact this,by rw [← hq];exact HB3.out⟩
 have HI0:=Lib.hid hI0
 have HQ:=Lib.hid hq
 clear hI0 hq HL2 HL3 HB3 HB1 HB0
 go_loopw [9,8] (fun s r wi=>∃ (k ρ:Nat) (O:List Nat),k≤n∧s=.int .i64 ((k:Int) - 1)∧r=.int .u32 ρ∧Hid (DvIn w2 wi q d (limbs A) (.slice p3 n c3) n k ρ O)) (fun s _ _=>(intOf s+1).toNat)
 case atStart=>exact ⟨n,0,_,Nat.le_refl _,rfl,rfl,HI0⟩
 case round =>
  clear HI0
  obtain ⟨k,ρ,O,hk,rfl,rfl,HI⟩:=hrel
  obtain ⟨hOl,hOlim,hr,hval,hsame,hown,hbel⟩:=HI.out
  by_cases h0:0<k
  · obtain ⟨i,hi⟩:∃ i,k=i+1:=⟨k - 1,by omega⟩
    obtain ⟨g6,e6,hg6,hg6'⟩:=hown.some (by omega)
    subst e6
    obtain ⟨x,hx⟩:=Qbg (xs:=limbs A) (i:=i) (by have:=HN.out;omega)
    have ho:O[i]? = some x:=by rw [hsame i (by omega)];exact hx
    have hxl:=(Qay A).get hx
    rw [hi] at hval
    have hstep:=div_step hd0 ho hx (z:=ρ*4294967296+x) rfl hval
    obtain ⟨z,hz⟩:∃ z,ρ*4294967296+x=z:=⟨_,rfl⟩
    have hdv:=Lib.hid fun W=>div32_any ρ x d W hr hd hxl
    rw [hz] at hdv hstep
    obtain ⟨y,hy⟩:∃ y,z / d=y:=⟨_,rfl⟩
    obtain ⟨t,ht⟩:∃ t,z % d=t:=⟨_,rfl⟩
    have hyl:y<4294967296:=by
     rw [← hy,Nat.div_lt_iff_lt_mul hd0]
     have:(ρ+1)*4294967296≤d*4294967296:=Nat.mul_le_mul_right _ (by omega)
     have e:4294967296*d=d*4294967296:=Nat.mul_comm ..
     omega
    have htl:t<d:=by rw [← ht];exact Nat.mod_lt _ hd0
    rw [hy,ht] at hdv hstep
    have ei:((k:Int) - 1)=(i:Int):=by omega
    rw [ei]
    have f1:(0:Int)≤(i:Int):=by omega
    have f2:(i:Int)<(n:Int):=by omega
    have c2:=hown.cell ho
    have HC3:=Lib.hid fun m=>(hown.drawn m).fz i
    have e3:IntKind.i64.wrap ((i:Int) - 1)=(i:Int) - 1:=by rw [IntKind.wrap_i64];omega
    have HG6:=Lib.hid hg6
    have HSt:=Lib.hid (show _∧y<4294967296∧t<d∧k=i+1 from ⟨hstep,hyl,htl,hi⟩)
    clear hi hg6 hg6' hx ho hxl hstep hz hy ht hyl htl ei hOl hOlim hr hval hsame hown hbel
    go_wp2_with (go_at_call 166;refine (hdv.out _).mono ?_;rintro e w5 ⟨he,κ,hw⟩;subst he;subst hw;have c2:=(show (wr.drewN κ).cell? _=_ from c2);have c3:=HC3.out κ)
    go_roundw
    case rel =>
     obtain ⟨hOl,hOlim,hr,hval,hsame,hown,hbel⟩:=HI.out
     have hk1:=HSt.out.2.2.2
     refine ⟨i,t,O.set i y,by omega,rfl,rfl,(show Hid _ from ⟨by rw [List.length_set];exact hOl,hOlim.set i HSt.out.2.1,HSt.out.2.2.1,HSt.out.1,fun j hj=>?_,(hown.drawn κ).stored i y,(Qab hbel κ).setCell HG6.out _⟩)⟩
     rw [List.getElem?_set_ne (by omega)]
     exact hsame j (by omega)
    case measure=>have hk1:=HSt.out.2.2.2;(simp [intOf] <;> omega)
  · obtain rfl:k=0:=by omega
    rw [List.drop_zero,List.drop_zero,Qap] at hval
    have hq1:val O=A / d:=by
     rw [hval,Nat.mul_add_div hd0,Nat.div_eq_of_lt hr];omega
    have hr1:A % d=ρ:=by
     rw [hval,Nat.mul_add_mod,Nat.mod_eq_of_lt hr]
    have HT:=Lib.hid (told_any O _ wr (hown.at_ hOlim) (by omega) (by
     rw [hq1]
     have h1:=val_lt (limbs A) (Qay A)
     rw [Qap,HN.out] at h1
     have h2:A / d≤A:=Nat.div_le_self ..
     have h3:=Qb6 (n:=A / d) (k:=n) (by omega)
     unfold Sm
     omega))
    rw [hq1] at HT
    have HR:=Lib.hid hr1
    have HBB:=Lib.hid (HB2.out.trans ((hbel.mono (by have:=HQ.out;have:=HB2.out.size;omega))))
    clear hOl hOlim hval hsame hown hbel hq1 hr1
    go_wp2_with (go_at_call 132;refine HT.out.mono ?_;rintro e w5 ⟨v5,he,hl5,hb5⟩;subst he;have HL5:=Lib.hid hl5;have HB5:=Lib.hid (HBB.out.trans (hb5.mono HBB.out.size));clear hl5 hb5)
    exact bodyPost_ret (v:=.tuple #[v5,.int .u32 ρ,.int .i64 0]) (by simp [results,Tryz.results133,go_sem]) rfl ⟨_,by rw [HR.out],HL5.out,HB5.out⟩
def blen (n:Nat):Nat:=if n=0 then 0 else Nat.log2 n+1
theorem blen_lt (n:Nat):n<2 ^ blen n:=by
 unfold blen
 split
 · next h=>subst h;decide
 · exact Nat.lt_log2_self
theorem blen_le {n:Nat} (h:n ≠ 0):2 ^ (blen n - 1)≤n∧1≤blen n:=by
 unfold blen
 rw [if_neg h]
 exact ⟨Nat.log2_self_le h,by omega⟩
theorem blen_of {n k:Nat} (h1:2 ^ k≤n) (h2:n<2 ^ (k+1)):blen n=k+1:=by
 have h0:n ≠ 0:=by have:=Nat.two_pow_pos k;omega
 unfold blen
 rw [if_neg h0,(Nat.log2_eq_iff h0).2 ⟨h1,h2⟩]
theorem bitLen_eq {x:Nat} (h:x<18446744073709551616) (h0:x ≠ 0):2 ^ (Lib.bitLen x - 1)≤x∧x<2 ^ Lib.bitLen x∧1≤Lib.bitLen x∧Lib.bitLen x=blen x:=by
 have h1:=blen_lt x
 obtain ⟨h2,h3⟩:=blen_le h0
 have hb:blen x≤64:=by
  by_cases hb:blen x≤64
  · exact hb
  · have:2 ^ 64≤2 ^ (blen x - 1):=Nat.pow_le_pow_right (by decide) (by omega)
    omega
 have hle:=Lib.bitLen_le x (blen x) hb h1
 have hge:blen x≤Lib.bitLen x:=by
  have:=Lib.bitLen_shift (blen x - 1) x h2 h
  have h4:x / 2 ^ (blen x - 1) ≠ 0:=by
   have:=Nat.div_pos h2 (Nat.two_pow_pos _)
   omega
  have h5:=Lib.bitLen_half (x / 2 ^ (blen x - 1)) h4 (Nat.lt_of_le_of_lt (Nat.div_le_self ..) h)
  omega
 have e:Lib.bitLen x=blen x:=by omega
 rw [e]
 exact ⟨h2,h1,h3,rfl⟩
theorem pow32 (k:Nat):4294967296 ^ k=2 ^ (32*k):=by rw [Nat.pow_mul]
theorem blen_top {xs:List Nat} {m x:Nat} (hL:Lim xs) (hm:xs.length=m+1) (hx:xs[m]? = some x) (h0:x ≠ 0):blen (val xs)=32*m+blen x:=by
 have h1:=val_at hx
 rw [List.drop_of_length_le (by omega)] at h1
 have h2:=Qca hL m (by omega)
 rw [pow32] at h1 h2
 simp only [val,Nat.mul_zero,Nat.add_zero] at h1
 obtain ⟨h3,h4⟩:=blen_le h0
 have h5:=blen_lt x
 obtain ⟨b,hb⟩:∃ b,blen x=b+1:=⟨blen x - 1,by omega⟩
 rw [hb] at h3 h5 ⊢
 rw [Nat.add_sub_cancel] at h3
 rw [← Nat.add_assoc]
 apply blen_of
 · rw [Nat.pow_add]
   have:=Nat.mul_le_mul_left (2 ^ (32*m)) h3
   omega
 · rw [Nat.add_assoc,Nat.pow_add]
   have:2 ^ (32*m)*(x+1)≤2 ^ (32*m)*2 ^ (b+1):=Nat.mul_le_mul_left _ (by omega)
   rw [Nat.mul_add,Nat.mul_one] at this
   omega
set_option maxHeartbeats 4000000 in
set_option maxRecDepth 100000 in
theorem bits_any (xs:List Nat) (v:Value) (w:World) (h:LAt w v xs) (hs:xs.length≤1099511627776) :
 Calls Tryz.prog 195 #[v] w (Ret (.int .i64 (blen (val xs))) w):=by
 have HT:=Lib.hid (Qbq xs v w h hs)
 obtain ⟨A,hA⟩:∃ A,val xs=A:=⟨_,rfl⟩
 have hla:(limbs A).length≤1099511627776:=by
  have h:=val_lt xs h.lim
  rw [hA] at h
  have:=Qb6 h
  omega
 rw [hA] at HT ⊢
 obtain ⟨n,hn⟩:∃ n,(limbs A).length=n:=⟨_,rfl⟩
 rw [hn] at hla
 have HN:=Lib.hid hn
 clear h hs hA hn
 by_cases h0:n=0
 · subst h0
   have HA0:Hid (A=0):=Lib.hid (limbs_nil.1 (List.eq_nil_of_length_eq_zero HN.out))
   go_enter Tryz.func195,Tryz.ntmps195
   go_wp2_with (go_at_call 130;refine HT.out.mono ?_;rintro e w1 ⟨v1,he,hl1,hb1⟩;subst he;obtain ⟨a1,c1,hv1,hc1⟩:=hl1.slice;rw [HN.out] at hv1;subst hv1;have HB1:=Lib.hid hb1;clear hb1 hl1 hc1 HT)
   exact bodyPost_ret (v:=.int .i64 0) (by simp [results,Tryz.results195,go_sem]) rfl ⟨by rw [HA0.out];rfl,HB1.out⟩
 · obtain ⟨m,hm⟩:∃ m,n=m+1:=⟨n - 1,by omega⟩
   obtain ⟨x,hx⟩:=Qbg (xs:=limbs A) (i:=m) (by have:=HN.out;omega)
   have hx0:x ≠ 0:=fun e=>by
    have:=limbs_last A m (by rw [HN.out];exact hm)
    rw [hx,e] at this
    exact this rfl
   have hxl:=(Qay A).get hx
   obtain ⟨hb1,hb2,hb3,hb4⟩:=bitLen_eq (x:=x) (by omega) hx0
   have hbl:=blen_top (Qay A) (by rw [HN.out];exact hm) hx hx0
   rw [Qap,← hb4] at hbl
   have hb32:Lib.bitLen x≤32:=bitLen_le32 (x:Int) (by omega) (by omega)
   have HL32:=Lib.hid fun W=>bits_Len32 (x:Int) W (by omega) (by omega)
   rw [show (x:Int).toNat=x by omega] at HL32
   obtain ⟨b,hb⟩:∃ b,Lib.bitLen x=b:=⟨_,rfl⟩
   rw [hb] at HL32 hbl hb32
   have n0:((n:Int) == 0)=false:=by simp;omega
   have e1:IntKind.i64.wrap ((n:Int) - 1)=(m:Int):=by rw [IntKind.wrap_i64];omega
   have e2:(m:Int)<(n:Int):=by omega
   have e3:IntKind.i64.wrap (32*(m:Int))=32*(m:Int):=by rw [IntKind.wrap_i64];omega
   have e4:IntKind.i64.wrap (32*(m:Int)+(b:Int))=((32*m+b:Nat):Int):=by rw [IntKind.wrap_i64];omega
   obtain ⟨r,hr⟩:∃ r,32*m+b=r:=⟨_,rfl⟩
   rw [hr] at e4 hbl
   have HBL:=Lib.hid hbl
   have HX:=Lib.hid hx
   clear hm hx hx0 hxl hb1 hb2 hb3 hb4 hbl hb hb32 hr
   go_enter Tryz.func195,Tryz.ntmps195
   go_wp2_with (first
    | (go_at_call 130;refine HT.out.mono ?_;rintro e w1 ⟨v1,he,hl1,hb1⟩;subst he;obtain ⟨a1,c1,hv1,hc1⟩:=hl1.slice;rw [HN.out] at hv1;subst hv1;obtain ⟨g1,o1,ha1,hg1,hx1⟩:=hl1.cells (by omega);subst ha1;have d1:=hx1 m x HX.out;have HB1:=Lib.hid hb1;clear hb1 hl1 hc1 hx1 hg1 HT)
    | (go_at_call 209;refine (HL32.out _).mono ?_;rintro e w2 ⟨he,hw⟩;subst he;subst hw))
   exact bodyPost_ret (v:=.int .i64 r) (by simp [results,Tryz.results195,go_sem]) rfl ⟨by rw [HBL.out],HB1.out⟩
theorem or_dis (s y lo:Nat) (hs:s≤32) (hy:y<2 ^ s) (hlo:lo<4294967296) (hd:lo % 2 ^ s=0):Go.bits .or .u32 (y:Int) (lo:Int)=((y+lo:Nat):Int)∧y+lo<4294967296:=by
 have h2:2 ^ s≤2 ^ 32:=Nat.pow_le_pow_right (by decide) hs
 rw [u32_or_nat y lo (by omega) hlo]
 have h1:lo=2 ^ s*(lo / 2 ^ s):=by
  have:=Nat.mod_add_div lo (2 ^ s)
  omega
 have h3:y ||| lo=y+lo:=by
  rw [h1,Nat.or_comm,← Nat.two_pow_add_eq_or_of_lt hy];omega
 rw [h3]
 refine ⟨rfl,?_⟩
 have h4:2 ^ 32=2 ^ s*2 ^ (32 - s):=by rw [← Nat.pow_add];congr 1;omega
 have h5:lo / 2 ^ s<2 ^ (32 - s):=by
  rw [Nat.div_lt_iff_lt_mul (Nat.two_pow_pos s),Nat.mul_comm,← h4]
  exact hlo
 have h6:2 ^ s*(lo / 2 ^ s+1)≤2 ^ s*2 ^ (32 - s):=Nat.mul_le_mul_left _ (by omega)
 rw [Nat.mul_add,Nat.mul_one,← h4] at h6
 omega
theorem left_parts {s x:Nat} (hs:s<32) (hx:x<4294967296):x*2 ^ s<18446744073709551616∧(x*2 ^ s % 4294967296) % 2 ^ s=0∧x*2 ^ s / 4294967296<2 ^ s:=by
 have h1:2 ^ s≤2 ^ 31:=Nat.pow_le_pow_right (by decide) (by omega)
 have h2:x*2 ^ s≤4294967295*2 ^ 31:=Nat.mul_le_mul (by omega) h1
 refine ⟨by omega,?_,?_⟩
 · rw [Nat.mod_mod_of_dvd _ (by
    have:(4294967296:Nat)=2 ^ s*2 ^ (32 - s):=by rw [← Nat.pow_add,show s+(32 - s)=32 by omega]
    rw [this]
    exact Nat.dvd_mul_right ..)]
   exact Nat.mul_mod_left ..
 · rw [Nat.div_lt_iff_lt_mul (by decide),Nat.mul_comm (2 ^ s)]
   exact Nat.mul_lt_mul_of_pos_right hx (Nat.two_pow_pos s)
def LfIn (w3 wi:World) (q N s:Nat) (X:List Nat) (i:Nat) (O:List Nat):Prop:=O.length=N∧Lim O∧val O=val (X.take i)*2 ^ s∧(∀ j,i<j→j<N→O[j]? = some 0)∧(∀ y,O[i]? = some y→y<2 ^ s)∧LOwn wi q (.slice (some ⟨q,0,none⟩) N N) O∧Below q w3 wi
def LeftPost (A s N:Nat) (w:World) (e:Ending) (w':World):Prop:=∃ v O,e=.returned v∧LOwn w' w.heap.size v O∧O.length=N∧Lim O∧val O=A*2 ^ s∧Below w.heap.size w w'
set_option maxHeartbeats 8000000 in
set_option maxRecDepth 100000 in
theorem left_any (xs:List Nat) (v:Value) (s more:Nat) (w:World) (h1:LAt w v xs) (hs1:xs.length≤1099511627776) (hs:s<32) (hmore:more≤1) (hfit:val xs*2 ^ s<4294967296 ^ (xs.length+more)) :
 Calls Tryz.prog 196 #[v,.int .i64 s,.int .i64 more] w (LeftPost (val xs) s (xs.length+more) w):=by
 obtain ⟨a1,d1,hv1,_⟩:=h1.slice
 obtain ⟨n,hn⟩:∃ n,xs.length=n:=⟨_,rfl⟩
 rw [hn] at hv1 hfit hs1 ⊢
 subst hv1
 obtain ⟨i0,hi,hz0,hz1,hz2⟩:=info_parts info152
 obtain ⟨N,hN⟩:∃ N,n+more=N:=⟨_,rfl⟩
 rw [hN] at hfit ⊢
 have eN:IntKind.i64.wrap ((n:Int)+(more:Int))=(N:Int):=by rw [IntKind.wrap_i64];omega
 have HL:=Lib.hid h1
 have HN:=Lib.hid (show xs.length=n∧n+more=N∧N≤1099511627777 from ⟨hn,hN,by omega⟩)
 have HFit:=Lib.hid hfit
 clear h1 hn hN hfit
 go_enter Tryz.func196,Tryz.ntmps196
 go_wp2_with (at_make;(refine wpList_make_full _ rfl (.tmp 14) (.tmp 14) 150 rfl w.heap.size 152 i0 (.int .u32 0) 1 Tryz.underlying150 hi hz0 hz1 .i64 .i64 (N:Int) (N:Int) N rfl rfl rfl rfl (by rw [hz2];have:=HN.out;omega) (by have:=HN.out;unfold maxLen;omega) (Nat.le_refl _) ?_;intro w4 hown hgr;have HOw:=Lib.hid hown;have HGr:=Lib.hid hgr;clear hown hgr))
 obtain ⟨q,hq⟩:∃ q,w.heap.size=q:=⟨_,rfl⟩
 have hz1':∀ j,0<j→j<N→(List.replicate N 0)[j]? = some 0:=fun j _ hj=>by rw [List.getElem?_replicate,if_pos hj]
 have hz2':∀ y,(List.replicate N 0)[0]? = some y→y<2 ^ s:=fun y hy=>by
  rw [List.getElem?_replicate] at hy
  split at hy
  · injection hy with hy
    subst hy
    exact Nat.two_pow_pos s
  · cases hy
 have hO':=made_own HOw.out
 have hB':=(Below.refl _ w).grown HGr.out (Nat.le_refl _) (fun k e=>by cases e)
 rw [hq] at hO' hB'
 have hI0 : LfIn w w4 q N s xs 0 (List.replicate N 0) := ⟨List.length_replicate, Lim.zeros _, by rw [val_zeros]; simp [val], hz1', hz2', hO', hB'⟩
 have HI0:=Lib.hid hI0
 have HQ:=Lib.hid hq
 rw [hq]
 clear hI0 hq HOw HGr hz1' hz2' hO' hB'
 go_loopw [18] (fun c wi=>∃ (i:Nat) (O:List Nat),i≤n∧c=.int .i64 i∧Hid (LfIn w wi q N s xs i O)) (fun c _=>n - (intOf c).toNat)
 case atStart=>exact ⟨0,_,Nat.zero_le _,rfl,HI0⟩
 case round =>
  clear HI0
  obtain ⟨i, O, hi', rfl, HI⟩ := hrel
  obtain ⟨hOl,hOlim,hval,hzero,hlow,hown,hbel⟩:=HI.out
  by_cases hlt:i<n
  · obtain ⟨g2,o2,e2,hg2,hx2⟩:=HL.out.cells (by omega)
    subst e2
    obtain ⟨x,hx⟩:=Qbg (xs:=xs) (i:=i) (by have:=HN.out.1;omega)
    obtain ⟨y,hy⟩:=Qbg (xs:=O) (i:=i) (by have:=HN.out.2;omega)
    have hxl:=HL.out.lim.get hx
    obtain ⟨p1,p2,p3⟩:=left_parts hs hxl
    obtain ⟨z,hz⟩:∃ z,x*2 ^ s=z:=⟨_,rfl⟩
    rw [hz] at p1 p2 p3
    obtain ⟨lo,hlo⟩:∃ lo,z % 4294967296=lo:=⟨_,rfl⟩
    obtain ⟨hi2,hhi⟩:∃ hi,z / 4294967296=hi:=⟨_,rfl⟩
    have hyl:=hlow y hy
    obtain ⟨p4,p5⟩:=or_dis s y lo (by omega) hyl (by omega) (by rw [← hlo];exact p2)
    obtain ⟨t,ht⟩:∃ t,y+lo=t:=⟨_,rfl⟩
    rw [ht] at p4 p5
    have d1:=(hbel.cell (p:=⟨g2,o2+i,none⟩) (by have:=HQ.out;show g2<q;omega)).trans (hx2 i x hx)
    have c1:=hown.cell hy
    have c2:=hown.fz i
    have f1:(i:Int)<(n:Int):=by omega
    have f2:(i:Int)<(N:Int):=by have:=HN.out.2;omega
    have b1:IntKind.u64.wrap (x:Int)=(x:Int):=by rw [IntKind.wrap_u64];omega
    have b2:IntKind.u64.wrap ((x:Int)*2 ^ s)=(z:Int):=by
     rw [IntKind.wrap_u64,show (x:Int)*2 ^ s=(z:Int) by rw [← hz,Int.natCast_mul,Int.natCast_pow];rfl];omega
    have b3:IntKind.u32.wrap (z:Int)=(lo:Int):=by rw [IntKind.wrap_u32];omega
    have b4:(z:Int) / 4294967296=(hi2:Int):=by omega
    have b5:IntKind.u32.wrap (hi2:Int)=(hi2:Int):=by rw [IntKind.wrap_u32];omega
    obtain ⟨j,hj⟩:∃ j,i+1=j:=⟨_,rfl⟩
    have b6:IntKind.i64.wrap ((i:Int)+1)=(j:Int):=by rw [IntKind.wrap_i64];omega
    have hv1:=val_set O i y t hy
    have hv2:=Qbn hx
    have hown1:=hown.stored i t
    have HV:=Lib.hid (show (4294967296 ^ i*t=4294967296 ^ i*y+4294967296 ^ i*lo)∧(4294967296 ^ i*z=4294967296 ^ i*lo+4294967296 ^ i*4294967296*hi2)∧4294967296 ^ i*(x*2 ^ s)=4294967296 ^ i*z from ⟨by rw [← ht,Nat.mul_add],by
     have h5:z % 4294967296+4294967296*(z / 4294967296)=z:=Nat.mod_add_div ..
     rw [hlo,hhi] at h5
     rw [← h5];grind,by rw [hz]⟩)
    have HS:=Lib.hid (show t<4294967296∧hi2<2 ^ s∧lo<4294967296∧i+1=j∧hi2<4294967296 from ⟨p5,by rw [← hhi];exact p3,by omega,hj,by omega⟩)
    have HV1:=Lib.hid hv1
    have HV2:=Lib.hid hv2
    by_cases hjN:j<N
    · have f3:(j:Int)<(N:Int):=by omega
      have hO2:(O.set i t)[j]? = some 0:=by rw [List.getElem?_set_ne (by omega)];exact hzero j (by omega) hjN
      have c3:=hown1.cell hO2
      have c4:=hown1.fz j
      have HO1:=Lib.hid hown1
      have HO2:=Lib.hid hO2
      clear hO2 hown1 hv1 hv2 ht p5 hyl hhi hlo hz p1 p2 p3 hxl hy hx hx2 hg2 hOl hOlim hval hzero hlow hown hbel hj
      go_wp2
      go_roundw
      case rel =>
       obtain ⟨hOl,hOlim,hval,hzero,hlow,hown,hbel⟩:=HI.out
       have hj:=HS.out.2.2.2.1
       refine ⟨j,(O.set i t).set j hi2,by omega,rfl,(show Hid _ from ⟨by rw [List.length_set,List.length_set];exact hOl,(hOlim.set i HS.out.1).set j HS.out.2.2.2.2,?_,fun j' h1 h2=>?_,fun y' hy'=>?_,HO1.out.stored j hi2,(hbel.setCell (Nat.le_refl _) _).setCell (Nat.le_refl _) _⟩)⟩
       · have h1:=val_set (O.set i t) j 0 hi2 HO2.out
         have h2:=HV1.out
         have h3:=HV2.out
         obtain ⟨h4,h5,h6⟩:=HV.out
         rw [← hj] at h1 ⊢
         rw [h3,Nat.add_mul,← hval,Nat.mul_assoc,h6]
         rw [Nat.pow_succ] at h1
         omega
       · rw [List.getElem?_set_ne (by omega),List.getElem?_set_ne (by omega)]
         exact hzero j' (by omega) h2
       · rw [List.getElem?_set_self (by rw [List.length_set];omega)] at hy'
         injection hy' with hy'
         have:=HS.out.2.1
         omega
      case measure=>have hj:=HS.out.2.2.2.1;(simp [intOf] <;> omega)
    · have f3:¬ (j:Int)<(N:Int):=by omega
      have hh0:hi2=0:=by
       have hle:i+1=N:=by have:=HN.out.2.1;omega
       have h7:val xs=val (xs.take (i+1)):=by
        rw [List.take_of_length_le (by have:=HN.out;omega)]
       have h8:=HFit.out
       obtain ⟨h4,h5,h6⟩:=HV.out
       rw [h7,hv2,Nat.add_mul,Nat.mul_assoc,h6,← hle,Nat.pow_succ] at h8
       have h9:4294967296 ^ i*z<4294967296 ^ i*4294967296:=by omega
       have h10:=Nat.lt_of_mul_lt_mul_left h9
       omega
      have HH0:=Lib.hid hh0
      have HO1:=Lib.hid hown1
      clear hh0 hown1 hv1 hv2 ht p5 hyl hhi hlo hz p1 p2 p3 hxl hy hx hx2 hg2 hOl hOlim hval hzero hlow hown hbel hj
      go_wp2
      go_roundw
      case rel =>
       obtain ⟨hOl,hOlim,hval,hzero,hlow,hown,hbel⟩:=HI.out
       have hj:=HS.out.2.2.2.1
       refine ⟨j,O.set i t,by omega,rfl,(show Hid _ from ⟨by rw [List.length_set];exact hOl,hOlim.set i HS.out.1,?_,fun j' h1 h2=>?_,fun y' hy'=>?_,HO1.out,hbel.setCell (Nat.le_refl _) _⟩)⟩
       · have h2:=HV1.out
         have h3:=HV2.out
         obtain ⟨h4,h5,h6⟩:=HV.out
         rw [← hj,h3,Nat.add_mul,← hval,Nat.mul_assoc,h6]
         rw [HH0.out,Nat.mul_zero] at h5
         omega
       · omega
       · rw [List.getElem?_eq_none (by rw [List.length_set];omega)] at hy'
         cases hy'
      case measure=>have hj:=HS.out.2.2.2.1;(simp [intOf] <;> omega)
  · obtain rfl:i=n:=by omega
    have f1:¬ (i:Int)<(i:Int):=by omega
    go_wp2
    refine bodyPost_ret (v:=.slice (some ⟨q,0,none⟩) N N) (by simp [results,Tryz.results196,go_sem]) rfl ⟨_,O,rfl,?_,hOl,hOlim,?_,?_⟩
    · rw [HQ.out];exact hown
    · rw [hval,List.take_of_length_le (by have:=HN.out.1;omega)]
    · rw [HQ.out];exact hbel
end Go.Proofs.YtfmceonbejlhlaaGreatDoor
