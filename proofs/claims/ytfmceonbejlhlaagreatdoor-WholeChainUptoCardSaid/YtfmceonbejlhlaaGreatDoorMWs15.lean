import Derived.Test.YtfmceonbejlhlaaGreatDoorMWs12
import Derived.Test.YtfmceonbejlhlaaGreatDoorMWs14
namespace Go.Proofs.YtfmceonbejlhlaaGreatDoor
open Go.RowKit Go.Proofs.YtfmceonbejlhlaaGreatDoorW.PrintWords Go.Proofs.YtfmceonbejlhlaaGreatDoorW.PrintLast Go.Proofs.YtfmceonbejlhlaaGreatDoorW.PrintMore
set_option linter.unusedVariables false
theorem LOwn.keep {w w':World} {base q n c:Nat} {xs:List Nat} (h:LOwn w base (.slice (Option.some ⟨q,0,none⟩) n c) xs) (hb:w'.heap[q]? = w.heap[q]?):LOwn w' base (.slice (Option.some ⟨q,0,none⟩) n c) xs:=by
 refine ⟨h.1,h.2.imp id ?_⟩
 rintro ⟨g,cap,cur,hv,hg,hc,r⟩
 injection hv with e1 e2 e3
 injection e1 with e1
 injection e1 with e1 _ _
 subst e1
 exact ⟨q,cap,cur,by rw [e2,e3],hg,hb.trans hc,r⟩
theorem LOwn.fr {w w':World} {g base q n c:Nat} {xs:List Nat} (h:LOwn w base (.slice (Option.some ⟨q,0,none⟩) n c) xs) (hf:Fr g w w') (hne:q ≠ g):LOwn w' base (.slice (Option.some ⟨q,0,none⟩) n c) xs :=
 h.keep (hf.block q (own_lt h q rfl) hne)
theorem LOwn.far {w:World} {base q n c:Nat} {xs:List Nat} (h:LOwn w base (.slice (Option.some ⟨q,0,none⟩) n c) xs) {p:Addr} (hne:q ≠ p.block) (u:Value):LOwn (w.setCell p u) base (.slice (Option.some ⟨q,0,none⟩) n c) xs :=
 h.keep (Below.heap_setCell _ _ _ _ hne)
theorem LAt.far {w:World} {g o m cv:Nat} {xs:List Nat} (h:LAt w (.slice (some ⟨g,o,none⟩) m cv) xs) {p:Addr} (hne:g ≠ p.block) (u:Value):LAt (w.setCell p u) (.slice (some ⟨g,o,none⟩) m cv) xs :=
 Fr.lat (g:=p.block) ((Fr.refl p.block w).set rfl u) hne h
theorem long_step {A V k' D R:Nat} {O pre Uu post Q Q' W:List Nat} (hsp:O=pre ++ Uu ++ post) (hpre:pre.length=k') (hW:W.length=Uu.length) (hp0:val post=0) (hUu:val Uu=V*D+R) (hWv:val W=R)
 (hQ:val (Q'.drop k')=D+4294967296*val (Q.drop (k'+1))) (hI:A=val O+V*(4294967296 ^ (k'+1)*val (Q.drop (k'+1)))) :
 A=val (pre ++ W ++ post)+V*(4294967296 ^ k'*val (Q'.drop k')):=by
 rw [hI,hsp,val_append,val_append,val_append,val_append,hp0,hpre,hUu,hWv,hQ,Nat.pow_succ]
 grind
theorem split_mid (O:List Nat) (k n:Nat) (h:k+n≤O.length):O=O.take k ++ (O.drop k).take n ++ O.drop (k+n):=by
 rw [List.append_assoc]
 conv=>lhs;rw [← List.take_append_drop k O,← List.take_append_drop n (O.drop k)]
 rw [List.drop_drop]
theorem part_of {O:List Nat} {k m V:Nat} (hO:Lim O) (hk:k+m+1≤O.length) (hV:V<4294967296 ^ m) (hlt:val (O.drop (k+1))<V) :
 val (O.drop (k+(m+1)))=0∧val ((O.drop k).take (m+1))<V*4294967296:=by
 obtain ⟨x,hx⟩:=Qbg (xs:=O) (i:=k) (by omega)
 have hxl:=hO.get hx
 have h1:=val_drop hx
 have h2:=val_take_drop (O.drop k) (m+1) (by rw [List.length_drop];omega)
 rw [List.drop_drop] at h2
 have h3:val (O.drop k)<V*4294967296:=by omega
 have h4:val (O.drop (k+(m+1)))=0:=by
  rcases Nat.eq_zero_or_pos (val (O.drop (k+(m+1)))) with h | h
  · exact h
  · have h5:4294967296 ^ (m+1)≤4294967296 ^ (m+1)*val (O.drop (k+(m+1))):=Nat.le_mul_of_pos_right _ h
    have h6:V*4294967296≤4294967296 ^ (m+1):=by
     rw [Nat.pow_succ]
     exact Nat.mul_le_mul_right _ (by omega)
    omega
 refine ⟨h4,?_⟩
 rw [h4] at h2
 omega
theorem one_at (w:World) (r:Nat) (hr:r<4294967296):LAt (w.alloc (.cells #[.int .u32 (r:Int)] 152)) (.slice (some ⟨w.heap.size,0,none⟩) 1 1) [r]:=by
 refine ⟨_,_,rfl,by simp,fun x hx=>by rw [List.mem_singleton.1 hx];exact hr,.inr ⟨w.heap.size,0,rfl,by simp,⟨_,_,heap_alloc_new w _⟩,fun i x hi=>?_⟩⟩
 match i,hi with
 | 0,hi =>
   injection hi with hi
   subst hi
   exact cell_of_row _ _ 0 _ _ _ (heap_alloc_new w _)
theorem val_one (r:Nat):val [r]=r:=by simp [val]
def LdIn (w wi:World) (g5 c5 b5 q b6:Nat) (n1 L A V:Nat) (k:Nat) (O Q:List Nat):Prop :=
 O.length=n1∧Lim O∧Q.length=L∧Lim Q∧val (O.drop k)<V∧A=val O+V*(4294967296 ^ k*val (Q.drop k))∧LOwn wi b5 (.slice (some ⟨g5,0,none⟩) n1 c5) O∧LOwn wi b6 (.slice (some ⟨q,0,none⟩) L L) Q∧Below w.heap.size w wi
def DivPost (A B:Nat) (w:World) (e:Ending) (w':World):Prop:=∃ vq vr,e=.returned (.tuple #[vq,vr,.int .i64 0])∧LAt w' vq (limbs (A / B))∧LAt w' vr (limbs (A % B))∧Below w.heap.size w w'
theorem div_prep {B m p1:Nat} (hm:(limbs B).length=m) (hp:p1+1=m):∃ (x s:Nat),(limbs B)[p1]? = some x∧x<4294967296∧s<32∧(32 - (Lib.bitLen x:Int))=(s:Int)∧4294967296 ^ p1≤B∧B*2 ^ s<4294967296 ^ m:=by
 obtain ⟨x,hx⟩:=Qbg (xs:=limbs B) (i:=p1) (by omega)
 have hx0:x ≠ 0:=fun e=>by
  have:=limbs_last B p1 (by omega)
  rw [hx,e] at this
  exact this rfl
 have hxl:=(Qay B).get hx
 obtain ⟨hb1,hb2,hb3,hb4⟩:=bitLen_eq (x:=x) (by omega) hx0
 have hb32:Lib.bitLen x≤32:=bitLen_le32 (x:Int) (by omega) (by omega)
 have hbl:=blen_top (Qay B) (by omega) hx hx0
 rw [Qap,← hb4] at hbl
 refine ⟨x,32 - Lib.bitLen x,hx,hxl,by omega,by omega,?_,?_⟩
 · have h:=val_at hx
   rw [Qap] at h
   have:4294967296 ^ p1≤4294967296 ^ p1*(x+4294967296*val ((limbs B).drop (p1+1))):=Nat.le_mul_of_pos_right _ (by omega)
   omega
 · have h1:=blen_lt B
   rw [hbl] at h1
   have e:32*m=(32*p1+Lib.bitLen x)+(32 - Lib.bitLen x):=by omega
   rw [pow32,e,Nat.pow_add]
   exact Nat.mul_lt_mul_of_pos_right h1 (Nat.two_pow_pos _)
theorem div_fit {A n s:Nat} (hn:(limbs A).length=n) (hs:s<32):A*2 ^ s<4294967296 ^ (n+1)∧A<4294967296 ^ n:=by
 have hAn:A<4294967296 ^ n:=by
  have h1:=val_lt (limbs A) (Qay A)
  rwa [Qap,hn] at h1
 have h2:2 ^ s≤2 ^ 32:=Nat.pow_le_pow_right (by decide) (by omega)
 refine ⟨?_,hAn⟩
 rw [Nat.pow_succ]
 exact Nat.lt_of_lt_of_le (Nat.mul_lt_mul_of_pos_right hAn (Nat.two_pow_pos s)) (Nat.mul_le_mul_left _ (by omega))
theorem long_top {O:List Nat} {A B s n L p1:Nat} (hO:Lim O) (hl:L≤O.length) (hv:val O=A*2 ^ s) (hA:A<4294967296 ^ n) (hB:4294967296 ^ p1≤B) (hn:n=L+p1):val (O.drop L)<B*2 ^ s:=by
 rw [← val_div hO L hl,hv,Nat.div_lt_iff_lt_mul (Nat.pow_pos (by decide))]
 have h1:A*2 ^ s<4294967296 ^ n*2 ^ s:=Nat.mul_lt_mul_of_pos_right hA (Nat.two_pow_pos s)
 have h3:4294967296 ^ L*4294967296 ^ p1*2 ^ s≤4294967296 ^ L*B*2 ^ s:=Nat.mul_le_mul_right _ (Nat.mul_le_mul_left _ hB)
 have h4:4294967296 ^ L*B*2 ^ s=B*2 ^ s*4294967296 ^ L:=by grind
 rw [hn,Nat.pow_add] at h1
 omega
theorem top_ne {V:List Nat} {B s p:Nat} (hV:Lim V) (hl:V.length=p+2) (hv:val V=B*2 ^ s) (hB:4294967296 ^ (p+1)≤B):V[p+1]? ≠ some 0:=by
 intro e
 have h1:=val_at e
 have h0:V.drop (p+1+1)=[]:=List.drop_of_length_le (by omega)
 rw [h0,show val []=0 from rfl,Nat.mul_zero,Nat.add_zero,hv] at h1
 have h2:=Qca hV (p+1) (by omega)
 have h4:B≤B*2 ^ s:=Nat.le_mul_of_pos_right _ (Nat.two_pow_pos s)
 exact absurd (Nat.lt_of_lt_of_le h2 (Nat.le_trans hB h4)) (by rw [← h1];exact Nat.lt_irrefl _)
theorem long_end {A B s o q:Nat} (hB:0<B) (ho:o<B*2 ^ s) (h:A*2 ^ s=o+B*2 ^ s*q):q=A / B∧o=A % B*2 ^ s:=by
 have hp:=Nat.two_pow_pos s
 have h1:A*2 ^ s / (B*2 ^ s)=q:=by
  rw [h,Nat.add_mul_div_left _ _ (Nat.mul_pos hB hp),Nat.div_eq_of_lt ho,Nat.zero_add]
 have h2:A*2 ^ s % (B*2 ^ s)=o:=by
  rw [h,Nat.add_mul_mod_self_left,Nat.mod_eq_of_lt ho]
 rw [Nat.mul_div_mul_right _ _ hp] at h1
 rw [Nat.mul_mod_mul_right] at h2
 exact ⟨h1.symm,h2.symm⟩
set_option maxHeartbeats 16000000 in
set_option maxRecDepth 100000 in
theorem div_any (xs ys:List Nat) (v u:Value) (w:World) (h1:LAt w v xs) (h2:LAt w u ys) (hs1:xs.length≤1099511627776) (hs2:ys.length≤1099511627776) (hm1:Sm (val xs)) (hm2:Sm (val ys)) (hB0:val ys ≠ 0) :
 Calls Tryz.prog 178 #[v,u] w (DivPost (val xs) (val ys) w):=by
 obtain ⟨a1,d1,hv1,_⟩:=h1.slice
 obtain ⟨a2,d2,hv2,_⟩:=h2.slice
 obtain ⟨n1,hn1⟩:∃ n,xs.length=n:=⟨_,rfl⟩
 obtain ⟨n2,hn2⟩:∃ n,ys.length=n:=⟨_,rfl⟩
 rw [hn1] at hv1
 rw [hn2] at hv2
 subst hv1 hv2
 obtain ⟨A,hA⟩:∃ A,val xs=A:=⟨_,rfl⟩
 obtain ⟨B,hB⟩:∃ B,val ys=B:=⟨_,rfl⟩
 have hb0:=(Below.refl w.heap.size w).alloc (Nat.le_refl _) (.cells #[.slice a1 n1 d1,.slice a2 n2 d2] 150)
 have HF:=Lib.hid (fits_any [(.slice a1 n1 d1,xs),(.slice a2 n2 d2,ys)] w.heap.size 2 2 _ rfl (fit_two w _ _ xs ys h1 hs1 hm1 h2 hs2 hm2) (by omega))
 have HT1:=Lib.hid fun W (hb:Below w.heap.size w W)=>Qbq xs _ W (h1.below hb) hs1
 have HT2:=Lib.hid fun W (hb:Below w.heap.size w W)=>Qbq ys _ W (h2.below hb) hs2
 have HB0:=Lib.hid hb0
 rw [hA] at HT1 hm1 ⊢
 rw [hB] at HT2 hm2 hB0 ⊢
 obtain ⟨n,hn⟩:∃ n,(limbs A).length=n:=⟨_,rfl⟩
 obtain ⟨m,hml⟩:∃ m,(limbs B).length=m:=⟨_,rfl⟩
 have hn4:n≤4096:=by rw [← hn];exact hm1
 have hm4:m≤4096:=by rw [← hml];exact hm2
 have hm0:m ≠ 0:=fun e=>hB0 (limbs_nil.1 (List.eq_nil_of_length_eq_zero (by omega)))
 have HN:=Lib.hid (show (limbs A).length=n∧(limbs B).length=m from ⟨hn,hml⟩)
 have HBz:=Lib.hid (show 0<B by omega)
 have mz:((m:Int) == 0)=false:=by simp;omega
 clear hA hB h1 h2 hs1 hs2 hn hml hm1 hm2 hb0 hn1 hn2 hB0
 by_cases hAB:A<B
 · have HC:Hid (cmpF A B = -1):=Lib.hid (by rw [cmpF,if_pos hAB])
   have HAB:=Lib.hid hAB
   clear hAB
   go_enter Tryz.func178,Tryz.ntmps178
   go_wp2_with (first
   | (go_at_call 128;refine HF.out.mono ?_;rintro e w1 ⟨he,hb1⟩;subst he;have HB1:=Lib.hid (HB0.out.trans (hb1.mono HB0.out.size));clear hb1 HF)
   | (go_at_call 130;refine (HT1.out w1 HB1.out).mono ?_;rintro e w2 ⟨v2,he,hl2,hb2⟩;subst he;obtain ⟨p2,c2,hv2,hc2⟩:=hl2.slice;rw [HN.out.1] at hv2;subst hv2;have HL2:=Lib.hid hl2;have HB2:=Lib.hid (HB1.out.trans (hb2.mono HB1.out.size));clear hb2 hl2 hc2 HT1)
   | (go_at_call 130;refine (HT2.out w2 HB2.out).mono ?_;rintro e w3 ⟨v3,he,hl3,hb3⟩;subst he;obtain ⟨p3,c3,hv3,hc3⟩:=hl3.slice;rw [HN.out.2] at hv3;subst hv3;have HL3:=Lib.hid hl3;have HL23:=Lib.hid (HL2.out.below hb3);have HB3:=Lib.hid (HB2.out.trans (hb3.mono HB2.out.size));have HCmp:=Lib.hid (cmp_any (limbs A) (limbs B) _ _ w3 HL23.out HL3.out (by have:=HN.out;omega) (by have:=HN.out;omega));clear hb3 hl3 hc3 HT2)
   | (go_at_call 157;refine HCmp.out.mono ?_;rintro e w4 ⟨he,hb4⟩;rw [Qap,Qap,HC.out] at he;subst he;have HL4:=Lib.hid (HL3.out.below hb4);have HL24:=Lib.hid (HL23.out.below hb4);have HB4:=Lib.hid (HB3.out.trans (hb4.mono HB3.out.size));clear hb4 HCmp)
   | (go_at_call 129;refine (clone_any (limbs A) _ w4 HL24.out (by have:=HN.out;omega)).mono ?_;rintro e w5 ⟨v5,he,hl5,hb5⟩;subst he;have HL5:=Lib.hid hl5;have HB5:=Lib.hid (HB4.out.trans (hb5.mono HB4.out.size));clear hl5 hb5))
   refine bodyPost_ret (v:=.tuple #[.slice none 0 0,v5,.int .i64 0]) (by simp [results,Tryz.results178,go_sem]) rfl ⟨_,_,rfl,?_,?_,HB5.out⟩
   · rw [Nat.div_eq_of_lt HAB.out,limbs_zero];exact LAt.nil _
   · rw [Nat.mod_eq_of_lt HAB.out];exact HL5.out.at_ (Qay _)
 · obtain ⟨cc,hcc⟩:∃ cc,cmpF A B=cc:=⟨_,rfl⟩
   have hc0:0≤cc:=by
    rw [← hcc,cmpF,if_neg hAB]
    split <;> omega
   have hc1:¬ cc<0:=by omega
   have HC:=Lib.hid hcc
   have HAB:=Lib.hid hAB
   clear hcc hAB
   by_cases hm1:m=1
   · subst hm1
     obtain ⟨d,hd⟩:=Qbg (xs:=limbs B) (i:=0) (by have:=HN.out;omega)
     have hdl:=(Qay B).get hd
     have hBd:B=d:=by
      have h:=val_at hd
      rw [Qap,List.drop_of_length_le (by have:=HN.out;omega)] at h
      simpa [val] using h
     have hd0:0<d:=by rw [← hBd];exact HBz.out
     obtain ⟨r,hr⟩:∃ r,A % d=r:=⟨_,rfl⟩
     have HR:=Lib.hid (show A % d=r∧r<4294967296 from ⟨hr,by rw [← hr];exact Nat.lt_trans (Nat.mod_lt _ hd0) hdl⟩)
     have HD:=Lib.hid (show (limbs B)[0]? = some d∧d<4294967296∧B=d∧0<d from ⟨hd,hdl,hBd,hd0⟩)
     clear hd hdl hBd hd0 hr
     go_enter Tryz.func178,Tryz.ntmps178
     go_wp2_with (first
   | (go_at_call 128;refine HF.out.mono ?_;rintro e w1 ⟨he,hb1⟩;subst he;have HB1:=Lib.hid (HB0.out.trans (hb1.mono HB0.out.size));clear hb1 HF)
   | (go_at_call 130;refine (HT1.out w1 HB1.out).mono ?_;rintro e w2 ⟨v2,he,hl2,hb2⟩;subst he;obtain ⟨p2,c2,hv2,hc2⟩:=hl2.slice;rw [HN.out.1] at hv2;subst hv2;have HL2:=Lib.hid hl2;have HB2:=Lib.hid (HB1.out.trans (hb2.mono HB1.out.size));clear hb2 hl2 hc2 HT1)
   | (go_at_call 130;refine (HT2.out w2 HB2.out).mono ?_;rintro e w3 ⟨v3,he,hl3,hb3⟩;subst he;obtain ⟨p3,c3,hv3,hc3⟩:=hl3.slice;rw [HN.out.2] at hv3;subst hv3;have HL3:=Lib.hid hl3;have HL23:=Lib.hid (HL2.out.below hb3);have HB3:=Lib.hid (HB2.out.trans (hb3.mono HB2.out.size));have HCmp:=Lib.hid (cmp_any (limbs A) (limbs B) _ _ w3 HL23.out HL3.out (by have:=HN.out;omega) (by have:=HN.out;omega));clear hb3 hl3 hc3 HT2)
   | (go_at_call 157;refine HCmp.out.mono ?_;rintro e w4 ⟨he,hb4⟩;rw [Qap,Qap,HC.out] at he;subst he;have HL4:=Lib.hid (HL3.out.below hb4);have HL24:=Lib.hid (HL23.out.below hb4);have HB4:=Lib.hid (HB3.out.trans (hb4.mono HB3.out.size));obtain ⟨g3,o3,e3,hg3,hx3⟩:=HL4.out.cells (by omega);subst e3;have t0:=hx3 0 d HD.out.1;rw [Nat.add_zero] at t0;clear hb4 HCmp hg3 hx3)
   | (go_at_call 133;refine (divsmall_any (limbs A) _ d w4 HL24.out (by have:=HN.out;omega) (by rw [Qap];unfold Sm;have:=HN.out;omega) HD.out.2.2.2 HD.out.2.1).mono ?_;rintro e w5 ⟨v5,he,hl5,hb5⟩;rw [Qap] at he hl5;rw [HR.out.1] at he;subst he;have HL5:=Lib.hid hl5;have HB5:=Lib.hid (HB4.out.trans (hb5.mono HB4.out.size));clear hl5 hb5)
   | (go_at_call 130;refine (Qbq [r] _ _ (one_at w5 r HR.out.2) (by simp)).mono ?_;rintro e w6 ⟨v6,he,hl6,hb6⟩;rw [val_one] at hl6;subst he;have hbx:=HB5.out.alloc HB5.out.size (.cells #[.int .u32 (r:Int)] 152);have HL6:=Lib.hid hl6;have HB6:=Lib.hid (hbx.trans (hb6.mono hbx.size));have HL56:=Lib.hid ((HL5.out.below ((Below.refl _ w5).alloc (Nat.le_refl _) _)).below hb6);clear hl6 hb6 hbx)
   | (go_at_call 129;refine (clone_any (limbs r) _ w6 HL6.out (by have:=Qb6 (n:=r) (k:=1) (by have:=HR.out.2;omega);omega)).mono ?_;rintro e w7 ⟨v7,he,hl7,hb7⟩;subst he;have HL7:=Lib.hid hl7;have HL57:=Lib.hid (HL56.out.below hb7);have HB7:=Lib.hid (HB6.out.trans (hb7.mono HB6.out.size));clear hl7 hb7))
     refine bodyPost_ret (v:=.tuple #[v5,v7,.int .i64 0]) (by simp [results,Tryz.results178,go_sem]) rfl ⟨_,_,rfl,?_,?_,HB7.out⟩
     · rw [HD.out.2.2.1];exact HL57.out
     · rw [HD.out.2.2.1,HR.out.1];exact HL7.out.at_ (Qay _)
   · obtain ⟨p,hp⟩:∃ p,p+2=m:=⟨m - 2,by omega⟩
     obtain ⟨i0,hi,hz0,hz1,hz2⟩:=info_parts info152
     obtain ⟨p1,hp1⟩:∃ p1,p+1=p1:=⟨_,rfl⟩
     obtain ⟨x,s,hx,hxl,hs32,hse,hBB,hV⟩:=div_prep HN.out.2 (show p1+1=m by omega)
     have HLz:=Lib.hid fun W=>bits_LeadingZeros32 (x:Int) W (by omega) (by omega)
     rw [show (x:Int).toNat=x by omega,hse] at HLz
     obtain ⟨hfa,hAn⟩:=div_fit (s:=s) HN.out.1 hs32
     have HLa:=Lib.hid fun (v:Value) (W:World) (h:LAt W v (limbs A))=>left_any (limbs A) v s 1 W h (by have:=HN.out;omega) hs32 (by omega) (by rw [Qap,HN.out.1];exact hfa)
     have HLb:=Lib.hid fun (v:Value) (W:World) (h:LAt W v (limbs B))=>left_any (limbs B) v s 0 W h (by have:=HN.out;omega) hs32 (by omega) (by rw [Qap,HN.out.2];exact hV)
     rw [Qap,HN.out.1] at HLa
     rw [Qap,HN.out.2,Nat.add_zero] at HLb
     have hnm:m≤n:=by
      rcases Nat.lt_or_ge n m with h | h
      · have:=HAB.out
        have h1:=len_lt (a:=A) (b:=B) (by have:=HN.out;omega)
        omega
      · exact h
     obtain ⟨t,ht⟩:∃ t,n - m=t:=⟨_,rfl⟩
     obtain ⟨L,hL⟩:∃ L,t+1=L:=⟨_,rfl⟩
     have q1:((m:Int) == 1)=false:=by simp;omega
     have q2:IntKind.i64.wrap ((m:Int) - 1)=(p1:Int):=by rw [IntKind.wrap_i64];omega
     have q3:(p1:Int)<(m:Int):=by omega
     have q4:IntKind.i64.wrap ((n:Int) - (m:Int))=(t:Int):=by rw [IntKind.wrap_i64];omega
     have q5:IntKind.i64.wrap ((t:Int)+1)=(L:Int):=by rw [IntKind.wrap_i64];omega
     have q6:IntKind.i64.wrap ((L:Int) - 1)=(L:Int) - 1:=by rw [IntKind.wrap_i64];omega
     have HX:=Lib.hid (show (limbs B)[p1]? = some x∧p+2=m∧p+1=p1∧s<32∧n - m=t∧t+1=L∧m≤n from ⟨hx,hp,hp1,hs32,ht,hL,hnm⟩)
     have HV:=Lib.hid (show 4294967296 ^ p1≤B∧B*2 ^ s<4294967296 ^ m∧A<4294967296 ^ n from ⟨hBB,hV,hAn⟩)
     clear hp hp1 hx hxl hs32 hse hBB hV hAn hfa ht hL hnm
     go_enter Tryz.func178,Tryz.ntmps178
     go_wp2_with (first
   | (go_at_call 128;refine HF.out.mono ?_;rintro e w1 ⟨he,hb1⟩;subst he;have HB1:=Lib.hid (HB0.out.trans (hb1.mono HB0.out.size));clear hb1 HF)
   | (go_at_call 130;refine (HT1.out w1 HB1.out).mono ?_;rintro e w2 ⟨v2,he,hl2,hb2⟩;subst he;obtain ⟨p2,c2,hv2,hc2⟩:=hl2.slice;rw [HN.out.1] at hv2;subst hv2;have HL2:=Lib.hid hl2;have HB2:=Lib.hid (HB1.out.trans (hb2.mono HB1.out.size));clear hb2 hl2 hc2 HT1)
   | (go_at_call 130;refine (HT2.out w2 HB2.out).mono ?_;rintro e w3 ⟨v3,he,hl3,hb3⟩;subst he;obtain ⟨p3,c3,hv3,hc3⟩:=hl3.slice;rw [HN.out.2] at hv3;subst hv3;have HL3:=Lib.hid hl3;have HL23:=Lib.hid (HL2.out.below hb3);have HB3:=Lib.hid (HB2.out.trans (hb3.mono HB2.out.size));have HCmp:=Lib.hid (cmp_any (limbs A) (limbs B) _ _ w3 HL23.out HL3.out (by have:=HN.out;omega) (by have:=HN.out;omega));clear hb3 hl3 hc3 HT2)
   | (go_at_call 157;refine HCmp.out.mono ?_;rintro e w4 ⟨he,hb4⟩;rw [Qap,Qap,HC.out] at he;subst he;have HL4:=Lib.hid (HL3.out.below hb4);have HL24:=Lib.hid (HL23.out.below hb4);have HB4:=Lib.hid (HB3.out.trans (hb4.mono HB3.out.size));obtain ⟨g3,o3,e3,hg3,hx3⟩:=HL4.out.cells (by omega);subst e3;have t0:=hx3 p1 x HX.out.1;clear hb4 HCmp hg3 hx3)
   | (go_at_call 198;refine (HLz.out _).mono ?_;rintro e w5 ⟨he,hw⟩;subst he;have hw:=hw.symm;subst hw)
   | (go_at_call 196;refine (HLa.out _ _ HL24.out).mono ?_;rintro e w5 ⟨v5,O0,he,ho5,hol5,hlim5,hval5,hb5⟩;subst he;obtain ⟨a5,c5,hv5,hc5⟩:=ho5.slice;rw [hol5] at hv5 hc5;subst hv5;obtain ⟨g5,hg5,hg5a,hg5b⟩:=ho5.some (by omega);subst hg5;have HO5:=Lib.hid ho5;have HS5:=Lib.hid (show O0.length=n+1∧Lim O0∧val O0=A*2 ^ s∧n+1≤c5∧w5.heap.size > g5∧w4.heap.size≤g5 from ⟨hol5,hlim5,hval5,hc5,hg5b,hg5a⟩);have HL45:=Lib.hid (HL4.out.below hb5);have HB5:=Lib.hid (HB4.out.trans (hb5.mono HB4.out.size));clear ho5 hol5 hlim5 hval5 hb5 hc5 hg5a hg5b HLa)
   | (go_at_call 196;refine (HLb.out _ _ HL45.out).mono ?_;rintro e w6 ⟨v6,V0,he,ho6,hol6,hlim6,hval6,hb6⟩;subst he;obtain ⟨a6,c6,hv6,hc6⟩:=ho6.slice;rw [hol6] at hv6 hc6;subst hv6;obtain ⟨g6,hg6,hg6a,hg6b⟩:=ho6.some (by omega);subst hg6;have HO6:=Lib.hid ho6;have HO56:=Lib.hid (HO5.out.below hb6);have HS6:=Lib.hid (show V0.length=m∧Lim V0∧val V0=B*2 ^ s∧m≤c6∧w6.heap.size > g6∧w5.heap.size≤g6 from ⟨hol6,hlim6,hval6,hc6,hg6b,hg6a⟩);have HB6:=Lib.hid (HB5.out.trans (hb6.mono HB5.out.size));clear ho6 hol6 hlim6 hval6 hb6 hc6 hg6a hg6b HLb)
   | (at_make;(refine wpList_make_full _ rfl (.tmp 74) (.tmp 74) 150 rfl w6.heap.size 152 i0 (.int .u32 0) 1 Tryz.underlying150 hi hz0 hz1 .i64 .i64 (L:Int) (L:Int) L rfl rfl rfl rfl (by rw [hz2];have:=HX.out;omega) (by have:=HX.out;unfold maxLen;omega) (Nat.le_refl _) ?_;intro w7 hown hgr;have HOw:=Lib.hid hown;have HGr:=Lib.hid hgr;clear hown hgr)))
     have hb7:=(Below.refl _ w6).grown HGr.out (Nat.le_refl _) (fun k e=>by cases e)
     have hQ7:=made_own HOw.out
     have hO7:=HO56.out.below hb7
     have hV7:=(HO6.out.at_ HS6.out.2.1).below hb7
     have hB7:=HB6.out.trans (hb7.mono HB6.out.size)
     have htop:val (O0.drop L)<B*2 ^ s:=long_top HS5.out.2.1 (by have:=HS5.out.1;have:=HX.out;omega) HS5.out.2.2.1 HV.out.2.2 HV.out.1 (by have:=HX.out;omega)
     obtain ⟨q,hq⟩:∃ q,w6.heap.size=q:=⟨_,rfl⟩
     rw [hq] at hQ7 ⊢
     have hI0:LdIn w w7 g5 c5 w4.heap.size q q (n+1) L (A*2 ^ s) (B*2 ^ s) L O0 (List.replicate L 0)∧LAt w7 (.slice (some ⟨g6,0,none⟩) m c6) V0 :=
      ⟨⟨HS5.out.1,HS5.out.2.1,List.length_replicate,Lim.zeros _,htop,by rw [HS5.out.2.2.1,List.drop_of_length_le (by simp)];simp [val],hO7,hQ7,hB7⟩,hV7⟩
     have hvt:V0[p+1]? ≠ some 0:=top_ne HS6.out.2.1 (by have:=HS6.out.1;have:=HX.out;omega) HS6.out.2.2.1 (by rw [HX.out.2.2.1];exact HV.out.1)
     have HI0:=Lib.hid hI0
     have HVT:=Lib.hid hvt
     have HQ:=Lib.hid (show q ≠ g5∧g6 ≠ g5∧g6 ≠ q∧w.heap.size≤g5∧w.heap.size≤q from ⟨by have:=HS5.out;have:=HS6.out;omega,by have:=HS5.out;have:=HS6.out;omega,by have:=HS6.out;omega,by have:=HS5.out;have:=HB4.out.size;omega,by have:=HB6.out.size;omega⟩)
     clear hI0 hvt hq hb7 hQ7 hO7 hV7 hB7 htop HOw HGr HO56 HO6 HO5
     go_loopw [14] (fun kv wi=>∃ (k:Nat) (O Q:List Nat),k≤L∧kv=.int .i64 ((k:Int) - 1)∧Hid (LdIn w wi g5 c5 w4.heap.size q q (n+1) L (A*2 ^ s) (B*2 ^ s) k O Q∧LAt wi (.slice (some ⟨g6,0,none⟩) m c6) V0)) (fun kv _=>(intOf kv+1).toNat)
     case atStart=>exact ⟨L,O0,_,Nat.le_refl _,rfl,HI0⟩
     case round =>
      clear HI0
      obtain ⟨k,O,Qs,hk,rfl,HI⟩:=hrel
      by_cases h0:0<k
      · obtain ⟨k', hk'⟩ : ∃ k', k = k' + 1 := ⟨k - 1, by omega⟩
        obtain ⟨j1,hj1⟩:∃ j1,k'+m=j1:=⟨_,rfl⟩
        obtain ⟨j2,hj2⟩:∃ j2,j1+1=j2:=⟨_,rfl⟩
        have ek:((k:Int) - 1)=(k':Int):=by omega
        rw [ek]
        obtain ⟨hX1,hX2,hX3,hX4,hX5,hX6,hX7⟩:=HX.out
        have f1:(0:Int)≤(k':Int):=by omega
        have r1:IntKind.i64.wrap ((k':Int)+(m:Int))=(j1:Int):=by rw [IntKind.wrap_i64];omega
        have r2:IntKind.i64.wrap ((j1:Int)+1)=(j2:Int):=by rw [IntKind.wrap_i64];omega
        have f2:(k':Int)≤(j2:Int):=by omega
        have f3:(j2:Int)≤(c5:Int):=by have:=HS5.out.2.2.2.1;omega
        have f4:(k':Int)<(L:Int):=by omega
        have f5:¬ c5 - k'=0:=by have:=HS5.out.2.2.2.1;omega
        have f6:¬ (c5:Int)=(k':Int):=by have:=HS5.out.2.2.2.1;omega
        have f7:¬ c5=k':=by have:=HS5.out.2.2.2.1;omega
        have f8:(k':Int)<(c5:Int):=by have:=HS5.out.2.2.2.1;omega
        obtain ⟨⟨i1,i2,i3,i4,i5,i6,i7,i8,i9⟩,i10⟩:=HI.out
        have hV0l:=HS6.out.1
        have hVv:val V0<4294967296 ^ m:=by rw [HS6.out.2.2.1];exact HV.out.2.1
        have hcut:k'+(m+1)≤O.length:=by omega
        obtain ⟨z1,z2⟩:=part_of (m:=m) (V:=val V0) i2 (by omega) hVv (by rw [HS6.out.2.2.1,← hk'];exact i5)
        have hsp:=split_mid O k' (m+1) hcut
        have hpl:(O.take k').length=k':=by rw [List.length_take];omega
        have hul:((O.drop k').take (m+1)).length=m+1:=by rw [List.length_take,List.length_drop];omega
        have hlim3:Lim (O.take k' ++ (O.drop k').take (m+1) ++ O.drop (k'+(m+1))):=by rw [← hsp];exact i2
        have hown3:LOwn wr w4.heap.size (.slice (some ⟨g5,0,none⟩) (n+1) c5) (O.take k' ++ (O.drop k').take (m+1) ++ O.drop (k'+(m+1))):=by rw [← hsp];exact i7
        have hdig:=digit_any (O.take k') ((O.drop k').take (m+1)) (O.drop (k'+(m+1))) V0 g5 k' p m (n+1) c5 (c5 - k') g6 0 c6 w4.heap.size wr hpl hul hV0l hX2 (by omega) (by omega) hlim3 hown3 i10 HQ.out.2.1 HVT.out z2
        have hsz:j2 - k'=m+1:=by omega
        have hdig' : Calls Tryz.prog 199 #[.slice (some ⟨g5, k', none⟩) (j2 - k') (c5 - k'), .slice (some ⟨g6, 0, none⟩) m c6] wr (DgPost (O.take k') ((O.drop k').take (m + 1)) (O.drop (k' + (m + 1))) V0 g5 m (n + 1) c5 w4.heap.size wr) := by
         rw [hsz]
         exact hdig
        have HDg:=Lib.hid hdig'
        obtain ⟨D,hD⟩:∃ D,val ((O.drop k').take (m+1)) / val V0=D:=⟨_,rfl⟩
        obtain ⟨o,ho⟩:=Qbg (xs:=Qs) (i:=k') (by omega)
        have hDl:D<4294967296:=by
         rw [← hD,Nat.div_lt_iff_lt_mul (by rcases Nat.eq_zero_or_pos (val V0) with h | h;(rw [h] at z2;omega);exact h),Nat.mul_comm]
         exact z2
        have HK := Lib.hid (show k = k' + 1 ∧ (O.take k').length = k' ∧ ((O.drop k').take (m + 1)).length = m + 1 ∧ O = O.take k' ++ (O.drop k').take (m + 1) ++ O.drop (k' + (m + 1)) ∧ val (O.drop (k' + (m + 1))) = 0 ∧ val ((O.drop k').take (m + 1)) / val V0 = D ∧ D < 4294967296 ∧ Qs[k']? = some o from ⟨hk', hpl, hul, hsp, z1, hD, hDl, ho⟩)
        have r3:IntKind.i64.wrap ((k':Int) - 1)=(k':Int) - 1:=by rw [IntKind.wrap_i64];omega
        clear i1 i2 i3 i4 i5 i6 i7 i8 i9 i10 hV0l hVv hcut z1 z2 hsp hpl hul hlim3 hown3 hdig hdig' hsz hD ho hDl hk' hj1 hj2 ek hX1 hX2 hX3 hX4 hX5 hX6 hX7
        go_wp2_with (go_at_call 199;refine HDg.out.mono ?_;rintro e w8 ⟨W,he,hWl,hWlim,hWval,hWown,hFr⟩;rw [HK.out.2.2.2.2.2.1] at he;subst he;have HW:=Lib.hid (show _∧_∧_∧_∧_ from ⟨hWl,hWlim,hWval,hWown,hFr⟩);have hq8:=HI.out.1.2.2.2.2.2.2.2.1.fr hFr HQ.out.1;have t1:=hq8.cell HK.out.2.2.2.2.2.2.2;have t2:=hq8.fz k';have HQ8:=Lib.hid hq8;clear hWl hWlim hWval hWown hFr hq8)
        go_roundw
        case rel =>
         obtain ⟨⟨i1,i2,i3,i4,i5,i6,i7,i8,i9⟩,i10⟩:=HI.out
         obtain ⟨hk', hpl, hul, hsp, z1, hD, hDl, ho⟩ := HK.out
         obtain ⟨hWl,hWlim,hWval,hWown,hFr⟩:=HW.out
         have hVpos:0<val V0:=by
          rw [HS6.out.2.2.1]
          exact Nat.mul_pos HBz.out (Nat.two_pow_pos s)
         have hmd:=Nat.div_add_mod (val ((O.drop k').take (m+1))) (val V0)
         rw [hD] at hmd
         have hQd:val ((Qs.set k' D).drop k')=D+4294967296*val (Qs.drop (k'+1)):=by
          rw [val_drop (x:=D) (by rw [List.getElem?_set_self (by omega)]),List.drop_set_of_lt (by omega)]
         refine ⟨k', O.take k' ++ W ++ O.drop (k' + (m + 1)), Qs.set k' D, by omega, rfl, (show Hid _ from ⟨⟨?_, hWlim, by rw [List.length_set]; exact i3, i4.set k' hDl, ?_, ?_, hWown.far HQ.out.1.symm _, HQ8.out.stored k' D, ?_⟩, ?_⟩)⟩
         · have h1:=congrArg List.length hsp
           rw [List.length_append,List.length_append] at h1 ⊢
           omega
         · have h1:(O.take k' ++ W ++ O.drop (k'+(m+1))).drop k'=W ++ O.drop (k'+(m+1)):=by
            rw [List.append_assoc,List.drop_append_of_le_length (by omega),List.drop_of_length_le (by omega),List.nil_append]
           rw [h1,val_append,z1,Nat.mul_zero,Nat.add_zero,hWval,← HS6.out.2.2.1]
           exact Nat.mod_lt _ hVpos
         · rw [hk', ← HS6.out.2.2.1] at i6
           rw [← HS6.out.2.2.1]
           exact long_step hsp hpl (by omega) z1 hmd.symm hWval hQd i6
         · exact (i9.trans (hFr.below HQ.out.2.2.2.1 i9.size)).setCell HQ.out.2.2.2.2 _
         · exact (hFr.lat HQ.out.2.1 i10).far HQ.out.2.2.1 _
        case measure=>have:=HK.out.1;(simp [intOf] <;> omega)
      · obtain rfl:k=0:=by omega
        obtain ⟨⟨i1,i2,i3,i4,i5,i6,i7,i8,i9⟩,i10⟩:=HI.out
        rw [List.drop_zero] at i5
        rw [List.drop_zero,Nat.pow_zero,Nat.one_mul] at i6
        obtain ⟨e1,e2⟩:=long_end HBz.out i5 i6
        have hmA:A % B≤A:=Nat.mod_le ..
        have hSmA:Sm A:=by unfold Sm;have:=HN.out;omega
        have hSmO:Sm (val O):=by
         have h1:=Qb6 (n:=val O) (k:=m) (Nat.lt_trans i5 HV.out.2.1)
         unfold Sm
         omega
        have hdv:val O / 2 ^ s=A % B:=by rw [e2,Nat.mul_div_cancel _ (Nat.two_pow_pos s)]
        have hsh:=shr_any O _ s wr (i7.at_ i2) (by omega) hSmO HX.out.2.2.2.1
        rw [hdv] at hsh
        have HSh:=Lib.hid hsh
        have HQt:=Lib.hid fun W (hb:Below wr.heap.size wr W)=>Qbq Qs _ W ((i8.at_ i4).below hb) (by have:=HX.out;omega)
        rw [e1] at HQt
        have hlq:(limbs (A / B)).length≤1099511627776:=by
         have h1:=sm_le hSmA (Nat.div_le_self A B)
         unfold Sm at h1
         omega
        have HLq:=Lib.hid hlq
        have HB8:=Lib.hid i9
        clear i1 i2 i3 i4 i5 i6 i7 i8 i9 i10 e1 e2 hmA hSmA hSmO hdv hsh hlq
        go_wp2_with (first
         | (go_at_call 200;refine HSh.out.mono ?_;rintro e w8 ⟨v8,he,hl8,hb8⟩;subst he;have HL8:=Lib.hid hl8;have HB8':=Lib.hid hb8;clear hl8 hb8)
         | (go_at_call 130;refine (HQt.out w8 HB8'.out).mono ?_;rintro e w9 ⟨v9,he,hl9,hb9⟩;subst he;have HL9:=Lib.hid hl9;have HL89:=Lib.hid (HL8.out.below hb9);have HB9:=Lib.hid (HB8'.out.trans (hb9.mono HB8'.out.size));clear hl9 hb9)
         | (go_at_call 129;refine (clone_any (limbs (A / B)) _ w9 HL9.out HLq.out).mono ?_;rintro e w10 ⟨v10,he,hl10,hb10⟩;subst he;have HL10:=Lib.hid hl10;have HL810:=Lib.hid (HL89.out.below hb10);have HB10:=Lib.hid (HB9.out.trans (hb10.mono HB9.out.size));clear hl10 hb10))
        exact bodyPost_ret (v:=.tuple #[v10,v8,.int .i64 0]) (by simp [results,Tryz.results178,go_sem]) rfl ⟨_,_,rfl,HL10.out.at_ (Qay _),HL810.out,HB8.out.trans (HB10.out.mono HB8.out.size)⟩
def nearE (A B:Nat):Int:=if A*2 ^ (-((blen A:Int) - blen B)).toNat<B*2 ^ ((blen A:Int) - blen B).toNat then (blen A:Int) - blen B - 1 else (blen A:Int) - blen B
def nearU (A B:Nat):Int:=max (nearE A B - 52) (-1074)
def nearN (P Q:Nat):Nat:=if Q<2*(P % Q) ∨ 2*(P % Q)=Q∧P / Q % 18446744073709551616 % 2=1 then (P / Q % 18446744073709551616+1) % 18446744073709551616 else P / Q % 18446744073709551616
def nearR (u:Int) (n:Nat):Nat × Int:=if n<4503599627370496 then (n,0) else if u≤971∧((u+1074).toNat*4503599627370496+n) % 18446744073709551616<9218868437227405312 then (((u+1074).toNat*4503599627370496+n) % 18446744073709551616,0) else (0,8)
def nearF (A B:Nat):Nat × Int:=nearR (nearU A B) (nearN (A*2 ^ (-(nearU A B)).toNat) (B*2 ^ (nearU A B).toNat))
theorem pow_cancel {a b:Nat} (h:2 ^ a<2 ^ b):a<b:=by
 by_cases hl:a<b
 · exact hl
 · have:2 ^ b≤2 ^ a:=Nat.pow_le_pow_right (by decide) (by omega)
   omega
theorem cmp_shift (A B N:Nat) (e:Int) (h:0≤e+N):A*2 ^ (-e).toNat<B*2 ^ e.toNat↔A*2 ^ N<B*2 ^ (e+N).toNat:=by
 have e1:2 ^ N*2 ^ e.toNat=2 ^ (-e).toNat*2 ^ (e+N).toNat:=by
  rw [← Nat.pow_add,← Nat.pow_add]
  congr 1
  omega
 by_cases he:0≤e
 · have h1:(-e).toNat=0:=by omega
   have h2:(e+N).toNat=e.toNat+N:=by omega
   rw [h1,h2,Nat.pow_add,Nat.pow_zero,Nat.mul_one,← Nat.mul_assoc]
   exact (Nat.mul_lt_mul_right (Nat.two_pow_pos N)).symm
 · have h1:e.toNat=0:=by omega
   have h2:N=(-e).toNat+(e+N).toNat:=by omega
   rw [h1,Nat.pow_zero,Nat.mul_one]
   conv=>rhs;lhs;rw [h2,Nat.pow_add,← Nat.mul_assoc]
   exact (Nat.mul_lt_mul_right (Nat.two_pow_pos _)).symm
theorem near_e {A B m k L K:Nat} (hK:K=1074) (hB:B ≠ 0) (h1:2 ^ L≤m) (h2:m<2 ^ (L+1)) (h:A*2 ^ K=B*m*2 ^ k):nearE A B=(L:Int)+k - 1074:=by
 have hA:A ≠ 0:=by
  intro e
  rw [e,Nat.zero_mul] at h
  have:0<B*m*2 ^ k:=Nat.mul_pos (Nat.mul_pos (by omega) (Nat.lt_of_lt_of_le (Nat.two_pow_pos L) h1)) (Nat.two_pow_pos k)
  omega
 have ha:B*2 ^ (L+k)≤A*2 ^ K:=by
  rw [h,Nat.pow_add,← Nat.mul_assoc]
  exact Nat.mul_le_mul_right _ (Nat.mul_le_mul_left _ h1)
 have hb:A*2 ^ K<B*2 ^ (L+k+1):=by
  rw [h,show L+k+1=(L+1)+k by omega,Nat.pow_add 2 (L+1),← Nat.mul_assoc]
  exact (Nat.mul_lt_mul_right (Nat.two_pow_pos _)).2 ((Nat.mul_lt_mul_left (by omega)).2 h2)
 have hA1:=blen_lt A
 have hB1:=blen_lt B
 obtain ⟨hA2,hA3⟩:=blen_le hA
 obtain ⟨hB2,hB3⟩:=blen_le hB
 have c1:blen A - 1+K<blen B+(L+k+1):=by
  apply pow_cancel
  rw [Nat.pow_add,Nat.pow_add 2 (blen B)]
  calc 2 ^ (blen A - 1)*2 ^ K≤A*2 ^ K:=Nat.mul_le_mul_right _ hA2
   _<B*2 ^ (L+k+1):=hb
   _≤2 ^ blen B*2 ^ (L+k+1):=Nat.mul_le_mul_right _ (Nat.le_of_lt hB1)
 have c2:blen B - 1+(L+k)<blen A+K:=by
  apply pow_cancel
  rw [Nat.pow_add,Nat.pow_add 2 (blen A)]
  calc 2 ^ (blen B - 1)*2 ^ (L+k)≤B*2 ^ (L+k):=Nat.mul_le_mul_right _ hB2
   _≤A*2 ^ K:=ha
   _<2 ^ blen A*2 ^ K:=(Nat.mul_lt_mul_right (Nat.two_pow_pos _)).2 hA1
 have hs:=cmp_shift A B K ((blen A:Int) - blen B) (by omega)
 unfold nearE
 by_cases hc:(blen A:Int) - blen B=(L:Int)+k - 1074
 · rw [if_neg]
   · exact hc
   · rw [hs,hc,show ((L:Int)+k - 1074+(K:Nat)).toNat=L+k by omega]
     omega
 · have hc2:(blen A:Int) - blen B=(L:Int)+k - 1074+1:=by omega
   rw [if_pos]
   · omega
   · rw [hs,hc2,show ((L:Int)+k - 1074+1+(K:Nat)).toNat=L+k+1 by omega]
     exact hb
theorem near_exact {A B m k K:Nat} (hK:K=1074) (hB:B ≠ 0) (hm:0<m) (hm2:m<9007199254740992) (hk:k≤2045) (hs:m<4503599627370496→k=0) (h:A*2 ^ K=B*m*2 ^ k):nearF A B=(m+k*4503599627370496,0):=by
 have hu:nearU A B=(k:Int) - 1074:=by
  unfold nearU
  by_cases h52:m<4503599627370496
  · have hk0:=hs h52
    obtain ⟨h1,h3⟩:=blen_le (show m ≠ 0 by omega)
    have h2:=blen_lt m
    have hL:blen m - 1<52:=pow_cancel (by omega)
    have:=near_e hK (L:=blen m - 1) hB h1 (by rwa [Nat.sub_add_cancel h3]) h
    omega
  · have:=near_e hK (L:=52) hB (by omega) (by omega) h
    omega
 have hq:∃ Q,Q ≠ 0∧B*2 ^ (nearU A B).toNat=Q∧A*2 ^ (-(nearU A B)).toNat=Q*m:=by
  refine ⟨_,?_,rfl,?_⟩
  · have:=Nat.two_pow_pos (nearU A B).toNat
    exact Nat.ne_of_gt (Nat.mul_pos (by omega) this)
  · rw [hu]
    have hp:=Nat.two_pow_pos k
    by_cases hk2:k≤1074
    · rw [show ((k:Int) - 1074).toNat=0 by omega,show (-((k:Int) - 1074)).toNat=1074 - k by omega,Nat.pow_zero,Nat.mul_one]
      apply Nat.eq_of_mul_eq_mul_right hp
      rw [Nat.mul_assoc,← Nat.pow_add,show 1074 - k+k=K by omega,h]
    · rw [show ((k:Int) - 1074).toNat=k - 1074 by omega,show (-((k:Int) - 1074)).toNat=0 by omega,Nat.pow_zero,Nat.mul_one]
      apply Nat.eq_of_mul_eq_mul_right (Nat.two_pow_pos K)
      have e:(2:Nat) ^ k=2 ^ (k - 1074)*2 ^ K:=by rw [← Nat.pow_add,show k - 1074+K=k by omega]
      rw [h,e,← Nat.mul_assoc,Nat.mul_right_comm B]
 obtain ⟨Q,hQ,e1,e2⟩:=hq
 unfold nearF
 rw [e1,e2]
 have hn:nearN (Q*m) Q=m:=by
  unfold nearN
  rw [Nat.mul_mod_right,Nat.mul_div_cancel_left _ (by omega),if_neg (by omega)]
  omega
 rw [hn,hu]
 unfold nearR
 by_cases h52:m<4503599627370496
 · rw [if_pos h52,hs h52]
   simp
 · have e3:((k:Int) - 1074+1074).toNat=k:=by omega
   have e4:(k*4503599627370496+m) % 18446744073709551616=m+k*4503599627370496:=by omega
   rw [if_neg h52,e3,e4,if_pos (by omega)]
def qAt (A B:Nat) (e:Int):Nat:=(A*10 ^ (-e).toNat) / (B*10 ^ e.toNat)
def Ge10 (A B:Nat) (e:Int):Prop:=B*10 ^ e.toNat≤A*10 ^ (-e).toNat
theorem ge_shift (A B N:Nat) (e:Int) (h:0≤e+N):Ge10 A B e↔B*10 ^ (e+N).toNat≤A*10 ^ N:=by
 unfold Ge10
 by_cases he:0≤e
 · have h1:(-e).toNat=0:=by omega
   have h2:(e+N).toNat=e.toNat+N:=by omega
   rw [h1,h2,Nat.pow_add,Nat.pow_zero,Nat.mul_one,← Nat.mul_assoc]
   exact (Nat.mul_le_mul_right_iff (Nat.pow_pos (by decide))).symm
 · have h1:e.toNat=0:=by omega
   have h2:N=(-e).toNat+(e+N).toNat:=by omega
   rw [h1,Nat.pow_zero,Nat.mul_one]
   conv=>rhs;rhs;rw [h2,Nat.pow_add,← Nat.mul_assoc]
   exact (Nat.mul_le_mul_right_iff (Nat.pow_pos (by decide))).symm
theorem Ge10.mono {A B:Nat} {e e':Int} (h:Ge10 A B e) (hl:e'≤e):Ge10 A B e':=by
 have h1:=(ge_shift A B (-e').toNat e (by omega)).1 h
 refine (ge_shift A B (-e').toNat e' (by omega)).2 (Nat.le_trans (Nat.mul_le_mul_left _ (Nat.pow_le_pow_right (by decide) (by omega))) h1)
theorem qAt_pos {A B:Nat} {e:Int} (hB:B ≠ 0) (h:Ge10 A B e):qAt A B e ≠ 0:=by
 have hp:0<B*10 ^ e.toNat:=Nat.mul_pos (by omega) (Nat.pow_pos (by decide))
 have:=Nat.div_pos h hp
 unfold qAt
 omega
theorem qAt_le {A B:Nat} {e E:Int} (hB:B ≠ 0) (hE:E≤0) (h:E≤e):qAt A B e≤A*10 ^ (-E).toNat / B:=by
 unfold qAt
 have h1:B≤B*10 ^ e.toNat:=Nat.le_mul_of_pos_right _ (Nat.pow_pos (by decide))
 have h2:A*10 ^ (-e).toNat≤A*10 ^ (-E).toNat:=Nat.mul_le_mul_left _ (Nat.pow_le_pow_right (by decide) (by omega))
 exact Nat.le_trans (Nat.div_le_div_right h2) (Nat.div_le_div_left h1 (by omega))
def fA (m:Nat) (x:Int):Nat:=m*2 ^ x.toNat
def fB (x:Int):Nat:=2 ^ (-x).toNat
theorem fB_ne (x:Int):fB x ≠ 0:=Nat.ne_of_gt (Nat.two_pow_pos _)
def exE (x:Int):Int:=if x≤0 then x else 0
theorem exE_le (x:Int):exE x≤0:=by unfold exE;split <;> omega
theorem ten_two (n:Nat):10 ^ n=5 ^ n*2 ^ n:=by rw [← Nat.mul_pow]
theorem exact_q (m:Nat) (x:Int):∃ q,fA m x*10 ^ (-(exE x)).toNat=(fB x*10 ^ (exE x).toNat)*q∧q=m*2 ^ x.toNat*5 ^ (-(exE x)).toNat:=by
 refine ⟨_,?_,rfl⟩
 unfold fA fB exE
 split
 · rename_i h
   have h1:x.toNat=0:=by omega
   rw [h1,ten_two]
   grind
 · rename_i h
   have h1:(-x).toNat=0:=by omega
   rw [h1]
   simp
theorem exact_at {m k:Nat} {x:Int} (hx:x=(k:Int) - 1074) (hm:0<m) (hm2:m<9007199254740992) (hk:k≤2045) (hs:m<4503599627370496→k=0) :
 (fA m x*10 ^ (-(exE x)).toNat) % (fB x*10 ^ (exE x).toNat)=0∧nearF (qAt (fA m x) (fB x) (exE x)*10 ^ (exE x).toNat) (10 ^ (-(exE x)).toNat)=(m+k*4503599627370496,0):=by
 obtain ⟨q,h1,h2⟩:=exact_q m x
 have hp:0<fB x*10 ^ (exE x).toNat:=Nat.mul_pos (by have:=fB_ne x;omega) (Nat.pow_pos (by decide))
 refine ⟨by rw [h1,Nat.mul_mod_right],?_⟩
 have e:qAt (fA m x) (fB x) (exE x)=q:=by
  unfold qAt
  rw [h1,Nat.mul_div_cancel_left _ hp]
 rw [e]
 obtain ⟨K,hK⟩:∃ K,K=1074:=⟨_,rfl⟩
 refine near_exact hK (Nat.ne_of_gt (Nat.pow_pos (by decide))) hm hm2 hk hs ?_
 rw [h2]
 unfold exE
 split
 · rename_i h
   have h3:x.toNat=0:=by omega
   have h4:K=(-x).toNat+k:=by omega
   have e2:(2:Nat) ^ K=2 ^ (-x).toNat*2 ^ k:=by rw [← Nat.pow_add,← h4]
   rw [h3,e2,ten_two (-x).toNat]
   generalize 5 ^ (-x).toNat=a
   generalize 2 ^ (-x).toNat=b
   generalize 2 ^ k=c
   simp only [Nat.pow_zero,Nat.mul_one]
   grind
 · rename_i h
   have h4:k=x.toNat+K:=by omega
   have e2:(2:Nat) ^ k=2 ^ x.toNat*2 ^ K:=by rw [← Nat.pow_add,← h4]
   rw [e2]
   simp [Nat.mul_assoc]
theorem big_neg:9007199254740992*5 ^ 1074<10 ^ 767:=by decide +kernel
theorem big_pos:9007199254740992*2 ^ 971<10 ^ 767:=by decide +kernel
theorem exact_lt {m:Nat} {x:Int} (hm2:m<9007199254740992) (h1 : -1074≤x) (h2:x≤971):fA m x*10 ^ (-(exE x)).toNat / fB x<10 ^ 767:=by
 obtain ⟨q,h3,h4⟩:=exact_q m x
 have h5:(exE x).toNat=0:=by have:=exE_le x;omega
 rw [h5,Nat.pow_zero,Nat.mul_one] at h3
 rw [h3,Nat.mul_div_cancel_left _ (by have:=fB_ne x;omega),h4]
 unfold exE
 split
 · have e1:x.toNat=0:=by omega
   rw [e1,Nat.pow_zero,Nat.mul_one]
   refine Nat.lt_of_le_of_lt (Nat.mul_le_mul (Nat.le_of_lt hm2) (Nat.pow_le_pow_right (by decide) (show (-x).toNat≤1074 by omega))) big_neg
 · rw [show (-(0:Int)).toNat=0 by decide,Nat.pow_zero,Nat.mul_one]
   refine Nat.lt_of_le_of_lt (Nat.mul_le_mul (Nat.le_of_lt hm2) (Nat.pow_le_pow_right (by decide) (show x.toNat≤971 by omega))) big_pos
theorem low_high {m:Nat} {x:Int} {j:Nat} (hm:0<m) (h:fA m x*10 ^ j<fB x):(j:Int) < -x:=by
 unfold fA fB at h
 have h1:10 ^ j<2 ^ (-x).toNat:=by
  have:1*10 ^ j≤m*2 ^ x.toNat*10 ^ j:=Nat.mul_le_mul_right _ (Nat.mul_pos hm (Nat.two_pow_pos _))
  omega
 have h2:2 ^ j≤10 ^ j:=Nat.pow_le_pow_left (by decide) j
 have h3:=pow_cancel (Nat.lt_of_le_of_lt h2 h1)
 omega
end Go.Proofs.YtfmceonbejlhlaaGreatDoor
