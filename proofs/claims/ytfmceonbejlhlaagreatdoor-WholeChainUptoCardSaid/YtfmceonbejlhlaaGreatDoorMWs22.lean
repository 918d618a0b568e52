import Derived.Test.YtfmceonbejlhlaaGreatDoorMWs8
import Derived.Test.YtfmceonbejlhlaaGreatDoorMWs15
import Derived.Test.YtfmceonbejlhlaaGreatDoorMWs16
import Derived.Test.YtfmceonbejlhlaaGreatDoorMWs19
namespace Go.Proofs.YtfmceonbejlhlaaGreatDoor
open Go.RowKit Go.Proofs.YtfmceonbejlhlaaGreatDoorW.PrintWords Go.Proofs.YtfmceonbejlhlaaGreatDoorW.PrintLast Go.Proofs.YtfmceonbejlhlaaGreatDoorW.PrintMore
set_option linter.unusedVariables false
def dgs (s:ByteArray):List Nat:=s.data.toList.map fun c=>c.toNat - 48
def dV (l:List Nat):Nat:=l.foldl (fun a d=>10*a+d) 0
def Dig (s:ByteArray):Prop:=∀ c ∈ s.data.toList,48≤c.toNat∧c.toNat≤57
theorem dgs_len (s:ByteArray):(dgs s).length=s.size:=by unfold dgs;rw [List.length_map,Array.length_toList];rfl
theorem dV_go (l:List Nat) (a:Nat):l.foldl (fun a d=>10*a+d) a=a*10 ^ l.length+dV l:=by
 unfold dV
 induction l generalizing a with
 | nil=>simp
 | cons d r ih =>
   rw [List.foldl_cons,List.foldl_cons,ih,ih (10*0+d),List.length_cons,Nat.pow_succ]
   grind
theorem dV_app (a b:List Nat):dV (a ++ b)=dV a*10 ^ b.length+dV b:=by
 conv=>lhs;unfold dV
 rw [List.foldl_append]
 exact dV_go b (dV a)
theorem dV_snoc (a:List Nat) (d:Nat):dV (a ++ [d])=10*dV a+d:=by
 rw [dV_app]
 show dV a*10 ^ 1+dV [d]=_
 have:dV [d]=d:=by simp [dV]
 omega
theorem dV_take {l:List Nat} {i d:Nat} (h:l[i]? = some d):dV (l.take (i+1))=10*dV (l.take i)+d:=by
 rw [List.take_add_one,h]
 exact dV_snoc _ _
theorem dV_lt {l:List Nat} (h:∀ d ∈ l,d≤9):dV l<10 ^ l.length:=by
 have key:∀ r:List Nat,(∀ d ∈ r,d≤9)→dV r.reverse<10 ^ r.length:=by
  intro r
  induction r with
  | nil=>intro _;simp [dV]
  | cons d r ih =>
    intro h
    have h1:=ih fun x hx=>h x (List.mem_cons_of_mem _ hx)
    have h2:=h d (List.mem_cons_self ..)
    rw [List.reverse_cons,dV_snoc,List.length_cons,Nat.pow_succ]
    omega
 have:=key l.reverse fun d hd=>h d (List.mem_reverse.1 hd)
 rwa [List.reverse_reverse,List.length_reverse] at this
theorem Dig.dgs {s:ByteArray} (h:Dig s):∀ d ∈ dgs s,d≤9:=by
 intro d hd
 obtain ⟨c,hc,rfl⟩:=List.mem_map.1 hd
 have:=h c hc
 omega
theorem dgs_split (s:ByteArray) (n:Nat) (hn:n≤s.size):dgs s=dgs (s.extract 0 n) ++ dgs (s.extract n s.size):=by
 unfold dgs
 have hl:s.data.toList.length=s.size:=by rw [Array.length_toList];rfl
 rw [← List.map_append,Lib.extract_data,Lib.extract_data,List.drop_zero,Nat.sub_zero,List.take_of_length_le (l:=s.data.toList.drop n) (by rw [List.length_drop,hl];omega),List.take_append_drop]
theorem Dig.part {s:ByteArray} (h:Dig s) (a b:Nat):Dig (s.extract a b):=by
 intro c hc
 rw [Lib.extract_data] at hc
 exact h c (List.mem_of_mem_drop (List.mem_of_mem_take hc))
def Rowb (W:World) (g:Nat) (s:ByteArray):Prop:=g<W.heap.size∧∀ (i c:Nat),(s.data.toList.map UInt8.toNat)[i]? = some c→W.cell? ⟨g,i,none⟩=some (.int .u8 (c:Int))
theorem Rowb.below {W W':World} {g:Nat} {s:ByteArray} (h:Rowb W g s) (hb:Below W.heap.size W W'):Rowb W' g s :=
 ⟨Nat.lt_of_lt_of_le h.1 hb.size,fun i c hi=>(hb.cell (p:=⟨g,i,none⟩) h.1).trans (h.2 i c hi)⟩
theorem rowb_new (X:World) (b:ByteArray):Rowb (Lib.bytesWorld X 5 b) X.heap.size b:=by
 refine ⟨by rw [Lib.bytesWorld_size];omega,fun j x hj=>?_⟩
 have hjd:j<b.size:=by
  have:=(List.getElem?_eq_some_iff.1 hj).1
  rw [List.length_map,Array.length_toList] at this
  exact this
 have hjl:j<b.data.toList.length:=by rw [Array.length_toList];exact hjd
 rw [Lib.bytesWorld_cell X 5 b j hjd]
 rw [List.getElem?_map,List.getElem?_eq_getElem hjl] at hj
 rw [List.getD_eq_getElem?_getD,List.getElem?_eq_getElem hjl]
 simp only [Option.map_some,Option.some.injEq] at hj
 simp only [Option.getD_some,hj]
theorem get_byte {s:ByteArray} {i:Nat} (h:i<s.size):∃ c,(s.data.toList.map UInt8.toNat)[i]? = some c∧(dgs s)[i]? = some (c - 48):=by
 have h':i<s.data.toList.length:=by rw [Array.length_toList];exact h
 refine ⟨s.data.toList[i].toNat,by rw [List.getElem?_map,List.getElem?_eq_getElem h'];rfl,?_⟩
 unfold dgs
 rw [List.getElem?_map,List.getElem?_eq_getElem h']
 rfl
theorem Dig.get {s:ByteArray} (h:Dig s) {i c:Nat} (hc:(s.data.toList.map UInt8.toNat)[i]? = some c):48≤c∧c≤57:=by
 obtain ⟨b,hb,rfl⟩:=List.mem_map.1 (List.mem_of_getElem? hc)
 exact h b hb
theorem sm_ten {n k:Nat} (h:n<10 ^ k) (hk:k≤4000):Sm n:=by
 have h1:(10:Nat) ^ k≤(2 ^ 4) ^ k:=Nat.pow_le_pow_left (by decide) k
 rw [← Nat.pow_mul] at h1
 exact sm_of (Nat.lt_of_lt_of_le h h1) (by omega)
def FdIn (w wi:World) (V:Nat) (v:Value) (s:ByteArray):Prop:=Dig s∧s.size≤800∧(∃ X,LAt wi v (limbs X)∧X*10 ^ s.size+dV (dgs s)=V)∧Below w.heap.size w wi
theorem nonempty_list' {b:ByteArray} (h:0<b.size):b.toList.isEmpty=false:=by
 rw [Lib.toList_data]
 cases hl:b.data.toList with
 | nil =>
   have:b.data.toList.length=0:=by rw [hl];rfl
   rw [Array.length_toList] at this
   have:b.size=0:=this
   omega
 | cons x r=>rfl
theorem empty_list' {b:ByteArray} (h:b.size=0):b.toList.isEmpty=true:=by
 rw [Lib.toList_data,List.isEmpty_iff,List.eq_nil_iff_length_eq_zero,Array.length_toList]
 exact h
def bsize:Value→Nat
 | .string b=>b.size
 | _=>0
theorem fit_new (w:World) (P:Nat) (hP:P<4294967296):FitAt ((w.alloc (.cells #[.int .u32 (P:Int)] 152)).alloc (.cells #[.slice (some ⟨w.heap.size,0,none⟩) 1 1] 150)) (w.heap.size+1) [(.slice (some ⟨w.heap.size,0,none⟩) 1 1,[P])]:=by
 have h:=fit_one (w.alloc (.cells #[.int .u32 (P:Int)] 152)) _ [P] (one_at w P hP) (by simp) (by rw [val_one];exact sm_of (e:=32) (by omega) (by omega))
 rwa [show (w.alloc (.cells #[.int .u32 (P:Int)] 152)).heap.size=w.heap.size+1 by simp] at h
theorem below_two (w:World) (a b:Obj):Below w.heap.size w ((w.alloc a).alloc b):=((Below.refl _ w).alloc (Nat.le_refl _) a).alloc (by simp) b
theorem fd_step {s:ByteArray} {X V n:Nat} (hn:n≤s.size) (h:X*10 ^ s.size+dV (dgs s)=V):(X*10 ^ n+dV (dgs (s.extract 0 n)))*10 ^ (s.extract n s.size).size+dV (dgs (s.extract n s.size))=V:=by
 have h1:=dgs_split s n hn
 have h2:(s.extract n s.size).size=s.size - n:=by rw [ByteArray.size_extract];omega
 rw [h1,dV_app,dgs_len,h2] at h
 rw [h2,← h,Nat.add_mul,Nat.mul_assoc,← Nat.pow_add,show n+(s.size - n)=s.size by omega]
 omega
theorem le_of_mul_pow {a k b V:Nat} (h:a*10 ^ k+b=V):a≤V:=by
 have:=Nat.le_mul_of_pos_right a (Nat.pow_pos (show 0<10 by decide) (n:=k))
 omega
set_option maxHeartbeats 8000000 in
set_option maxRecDepth 100000 in
theorem fromdigits_any (s:ByteArray) (w:World) (hd:Dig s) (h0:s.size ≠ 0) (hs:s.size≤800) :
 Calls Tryz.prog 179 #[.string s] w (NPost (dV (dgs s)) w):=by
 have hem:=nonempty_list' (b:=s) (by omega)
 have f0:¬ (4096:Int)<(s.size:Int):=by omega
 have hV:=dV_lt hd.dgs
 rw [dgs_len] at hV
 have HSV:=Lib.hid (sm_ten hV (by omega))
 obtain ⟨V,hVe⟩:∃ V,dV (dgs s)=V:=⟨_,rfl⟩
 rw [hVe] at HSV ⊢
 have HV:=Lib.hid hVe
 have HD:=Lib.hid hd
 have HS:=Lib.hid (show s.size ≠ 0∧s.size≤800 from ⟨h0,hs⟩)
 clear hd hV h0 hVe
 have kb:=fun W=>Qcb (P:=Tryz.prog) 9 26 5 Tryz.underlying9 Tryz.underlying26 Tryz.underlying5 s W
 go_enter Tryz.func179,Tryz.ntmps179
 go_wp2_with fail
 obtain ⟨w1,hw1⟩:∃ w1,Lib.bytesWorld w 5 s=w1:=⟨_,rfl⟩
 have hB1:Below w.heap.size w w1:=by rw [← hw1];exact bytes_below (Below.refl _ w) (Nat.le_refl _) 5 s
 have hR1:Rowb w1 w.heap.size s:=by rw [← hw1];exact rowb_new w s
 rw [hw1]
 have HB1:=Lib.hid hB1
 have HR1:=Lib.hid hR1
 clear hB1 hR1 hw1
 go_loopw [22] (fun c wi=>∃ k:Nat,k≤s.size∧c=.int .i64 k∧wi=w1) (fun c _=>s.size - (intOf c).toNat)
 case atStart=>exact ⟨0,Nat.zero_le _,rfl,rfl⟩
 case round =>
  obtain ⟨k,hk,rfl,hwr⟩:=hrel
  subst wr
  by_cases hlt:k<s.size
  · obtain ⟨c,hc,_⟩:=get_byte hlt
    have hd:=HD.out.get hc
    have d1:=HR1.out.2 k c hc
    have f1:(k:Int)<(s.size:Int):=by omega
    have f2:¬ (c:Int)<48:=by omega
    have f3:¬ (57:Int)<(c:Int):=by omega
    clear hc hd
    go_wp2
    go_roundw
    case rel=>exact ⟨k+1,by omega,by go_num,trivial⟩
    case measure=>simp [intOf];omega
  · obtain rfl:k=s.size:=by omega
    have f1:¬ (s.size:Int)<(s.size:Int):=by omega
    go_wp2
    have HI0:=Lib.hid (show FdIn w w1 V (.slice none 0 0) s from ⟨HD.out,hs,⟨0,by rw [limbs_zero];exact LAt.nil _,by rw [HV.out];omega⟩,HB1.out⟩)
    clear hem f0 f1 HS HD HR1 HB1 HV
    go_loopw [0,6] (fun sv xv wi=>∃ (s:ByteArray) (V6:Value),sv=.string s∧V6=xv∧Hid (FdIn w wi V V6 s)) (fun sv _ _=>bsize sv)
    case atStart=>exact ⟨s,_,rfl,rfl,HI0⟩
    case round =>
     clear HI0 hk hs
     obtain ⟨s,V6,rfl,rfl,HI⟩:=hrel
     obtain ⟨hD,hs,⟨X,hX,hXV⟩,hbel⟩:=HI.out
     by_cases h0:0<s.size
     · have hem:=nonempty_list' h0
       obtain ⟨k,hk⟩:∃ k,s.size - 1=k:=⟨_,rfl⟩
       obtain ⟨r,hr⟩:∃ r,k % 9=r:=⟨_,rfl⟩
       obtain ⟨n,hn⟩:∃ n,r+1=n:=⟨_,rfl⟩
       obtain ⟨t,ht⟩:∃ t,s.extract 0 n=t:=⟨_,rfl⟩
       obtain ⟨u,hu⟩:∃ u,s.extract n s.size=u:=⟨_,rfl⟩
       have hts:t.size=n:=by rw [← ht,ByteArray.size_extract];omega
       have hus:u.size=s.size - n:=by rw [← hu,ByteArray.size_extract];omega
       have e1:IntKind.i64.wrap ((s.size:Int) - 1)=(k:Int):=by rw [IntKind.wrap_i64];omega
       have e2:(k:Int).tmod 9=(r:Int):=by rw [Int.tmod_eq_emod_of_nonneg (by omega)];omega
       have e2':(k:Int) % 9=(r:Int):=by omega
       have e3:IntKind.i64.wrap ((r:Int)+1)=(n:Int):=by rw [IntKind.wrap_i64];omega
       have e4:(n:Int)≤(s.size:Int):=by omega
       have hst:=fd_step (n:=n) (by omega) hXV
       rw [ht,hu] at hst
       have HSt:=Lib.hid (show _∧Dig t∧Dig u∧u.size=s.size - n∧t.size=n∧n≤9∧1≤n∧n≤s.size∧s.size≤800 from ⟨hst,by rw [← ht];exact hD.part _ _,by rw [← hu];exact hD.part _ _,hus,hts,by omega,by omega,by omega,hs⟩)
       have HX:=Lib.hid (show LAt wr V6 (limbs X)∧Below w.heap.size w wr from ⟨hX,hbel⟩)
       clear hst hus hts hX hbel hD hXV hs hk hr hn HI h0 kb
       have kb:=fun W=>Qcb (P:=Tryz.prog) 9 26 5 Tryz.underlying9 Tryz.underlying26 Tryz.underlying5 t W
       go_wp2_with fail
       obtain ⟨w2,hw2⟩:∃ w2,Lib.bytesWorld wr 5 t=w2:=⟨_,rfl⟩
       have hB2:Below wr.heap.size wr w2:=by rw [← hw2];exact bytes_below (Below.refl _ wr) (Nat.le_refl _) 5 t
       have hR2:Rowb w2 wr.heap.size t:=by rw [← hw2];exact rowb_new wr t
       rw [hw2]
       have HX2:=Lib.hid (show LAt w2 V6 (limbs X)∧Below w.heap.size w w2 from ⟨HX.out.1.below hB2,HX.out.2.trans (hB2.mono HX.out.2.size)⟩)
       have HR2:=Lib.hid hR2
       clear hB2 hR2 hw2 HX kb
       go_loopw [45,8,9] (fun c p q wi=>∃ i:Nat,i≤t.size∧c=.int .i64 i∧p=.int .u32 (dV ((dgs t).take i):Nat)∧q=.int .u32 (10 ^ i:Nat)∧wi=w2) (fun c _ _ _=>t.size - (intOf c).toNat)
       case atStart=>exact ⟨0,Nat.zero_le _,rfl,rfl,rfl,rfl⟩
       case round =>
        obtain ⟨i,hi,rfl,rfl,rfl,hwr⟩:=hrel
        subst wr
        have ht9:t.size≤9:=by have:=HSt.out;omega
        by_cases hlt:i<t.size
        · obtain ⟨c,hc,hdc⟩:=get_byte hlt
          have hcd:=HSt.out.2.1.get hc
          have d1:=HR2.out.2 i c hc
          obtain ⟨d,hd⟩:∃ d,c - 48=d:=⟨_,rfl⟩
          rw [hd] at hdc
          have htk:=dV_take hdc
          have hpl:dV ((dgs t).take i)<10 ^ 8:=by
           have h1:=dV_lt (l:=(dgs t).take i) (fun x hx=>HSt.out.2.1.dgs x (List.mem_of_mem_take hx))
           rw [List.length_take,dgs_len,Nat.min_eq_left hi] at h1
           have h2:=HSt.out
           exact Nat.lt_of_lt_of_le h1 (Nat.pow_le_pow_right (by decide) (by omega))
          have hql:10 ^ i≤10 ^ 8:=by
           have h2:=HSt.out
           exact Nat.pow_le_pow_right (by decide) (by omega)
          have hqs:10 ^ (i+1)=10*10 ^ i:=by rw [Nat.pow_succ];omega
          obtain ⟨p,hp⟩:∃ p,dV ((dgs t).take i)=p:=⟨_,rfl⟩
          obtain ⟨p', hp'⟩ : ∃ p', dV ((dgs t).take (i + 1)) = p' := ⟨_, rfl⟩
          obtain ⟨y,hy⟩:∃ y,10 ^ i=y:=⟨_,rfl⟩
          obtain ⟨y', hy'⟩ : ∃ y', 10 ^ (i + 1) = y' := ⟨_, rfl⟩
          rw [hp] at htk hpl ⊢
          rw [hp'] at htk
          rw [hy] at hql hqs ⊢
          rw [hy'] at hqs
          have f1:(i:Int)<(t.size:Int):=by omega
          have b1:IntKind.u8.wrap ((c:Int) - 48)=(d:Int):=by rw [IntKind.wrap_u8];omega
          have b2:IntKind.u32.wrap (d:Int)=(d:Int):=by rw [IntKind.wrap_u32];omega
          have b3:IntKind.u32.wrap (10*(p:Int))=10*(p:Int):=by rw [IntKind.wrap_u32];omega
          have b4:IntKind.u32.wrap (10*(p:Int)+(d:Int))=(p':Int):=by rw [IntKind.wrap_u32];omega
          have b5:IntKind.u32.wrap (10*(y:Int))=(y':Int):=by rw [IntKind.wrap_u32];omega
          have HY := Lib.hid (show dV ((dgs t).take (i + 1)) = p' ∧ 10 ^ (i + 1) = y' from ⟨hp', hy'⟩)
          clear hp hp' hy hy' htk hpl hql hqs hdc hd hcd hc
          go_wp2
          go_roundw
          case rel=>exact ⟨i+1,by omega,by go_num,by rw [HY.out.1],by rw [HY.out.2],trivial⟩
          case measure=>simp [intOf];omega
        · obtain rfl:i=t.size:=by omega
          have f1:¬ (t.size:Int)<(t.size:Int):=by omega
          obtain ⟨P,hP⟩:∃ P,dV ((dgs t).take t.size)=P:=⟨_,rfl⟩
          obtain ⟨Y,hY⟩:∃ Y,10 ^ t.size=Y:=⟨_,rfl⟩
          rw [hP,hY]
          have hPe:dV (dgs t)=P:=by rw [← hP,List.take_of_length_le (by rw [dgs_len];omega)]
          have hYn:10 ^ n=Y:=by rw [← hY,HSt.out.2.2.2.2.1]
          have hst:=HSt.out.1
          rw [hPe,hYn] at hst
          have hle:=le_of_mul_pow hst
          have hP9:P<10 ^ 9:=by
           have h1:=dV_lt HSt.out.2.1.dgs
           rw [dgs_len,hPe] at h1
           have h2:=HSt.out
           exact Nat.lt_of_lt_of_le h1 (Nat.pow_le_pow_right (by decide) (by omega))
          have hY9:Y≤10 ^ 9:=by
           rw [← hYn]
           have h2:=HSt.out
           exact Nat.pow_le_pow_right (by decide) (by omega)
          have hsA:=sm_le HSV.out hle
          have hsM:Sm (X*Y):=sm_le hsA (Nat.le_add_right ..)
          have hYp:0<Y:=by rw [← hYn];exact Nat.pow_pos (by decide)
          have hsX:Sm X:=sm_le hsM (Nat.le_mul_of_pos_right X hYp)
          have hb3:=(Below.refl w2.heap.size w2).alloc (Nat.le_refl _) (.cells #[.int .u32 (Y:Int)] 152)
          have hM:=mul_any (limbs X) [Y] V6 _ _ (HX2.out.1.below hb3) (one_at w2 Y (by omega)) (by unfold Sm at hsX;omega) (by simp) (by rw [Qap];exact hsX) (by rw [val_one];exact sm_ten (k:=10) (by omega) (by omega)) (by rw [Qap,val_one];exact hsM)
          rw [Qap,val_one] at hM
          have HM:=Lib.hid hM
          have HB3:=Lib.hid (HX2.out.2.trans (hb3.mono HX2.out.2.size))
          have HQ:=Lib.hid (show (X*Y+P)*10 ^ u.size+dV (dgs u)=V∧Sm (X*Y+P)∧Sm (X*Y)∧P<10 ^ 9 from ⟨hst,hsA,hsM,hP9⟩)
          clear hP hY hPe hYn hst hle hP9 hY9 hsA hsM hYp hsX hb3 hM
          go_wp2_with (go_at_call 176;refine HM.out.mono ?_;rintro e w3 ⟨v3,he,hl3,hb3⟩;subst he;have HL3:=Lib.hid hl3;have HB3':=Lib.hid (HB3.out.trans (hb3.mono HB3.out.size));clear hl3 hb3)
          have hb4:=below_two w3 (.cells #[.int .u32 (P:Int)] 152) (.cells #[.slice (some ⟨w3.heap.size,0,none⟩) 1 1] 150)
          have hA:=add_any (limbs (X*Y)) [P] v3 _ _ _ (HL3.out.below hb4) (fit_new w3 P (by have:=HQ.out.2.2.2;omega)) (by have:=HQ.out.2.2.1;unfold Sm at this;omega) (by rw [Qap];exact HQ.out.2.2.1) (by rw [Qap,val_one];exact HQ.out.2.1)
          rw [Qap,val_one] at hA
          have HA:=Lib.hid hA
          have HB4:=Lib.hid (HB3'.out.trans (hb4.mono HB3'.out.size))
          clear hA hb4
          go_wp2_with (go_at_call 86;refine HA.out.mono ?_;rintro e w5 ⟨v5,he,hl5,hb5⟩;subst he;have HL5:=Lib.hid hl5;have HB5:=Lib.hid (HB4.out.trans (hb5.mono HB4.out.size));clear hl5 hb5)
          go_roundw
          case rel=>exact ⟨u,_,rfl,rfl,(show Hid _ from ⟨HSt.out.2.2.1,by have:=HSt.out;omega,⟨_,HL5.out,HQ.out.1⟩,HB5.out⟩)⟩
          case measure=>have:=HSt.out;simp only [bsize];omega
     · obtain hz:s.size=0:=by omega
       have hem:=empty_list' hz
       have hXe:X=V:=by
        have h1:=dgs_len s
        rw [hz] at h1
        have h2:dgs s=[]:=List.eq_nil_of_length_eq_zero h1
        rw [h2,hz] at hXV
        simpa [dV] using hXV
       rw [hXe] at hX
       have HX:=Lib.hid (show LAt wr V6 (limbs V)∧Below w.heap.size w wr from ⟨hX,hbel⟩)
       clear hz hXe hX hbel hD hXV hs HI h0
       go_wp2
       exact bodyPost_ret (v:=.tuple #[V6,.int .i64 0]) (by simp [results,Tryz.results179,go_sem]) rfl ⟨_,rfl,HX.out.1,HX.out.2⟩
def NAt (W:World) (v:Value) (A:Nat):Prop:=∃ xs,LAt W v xs∧val xs=A∧xs.length≤1099511627776
theorem NAt.below {W W':World} {v:Value} {A:Nat} (h:NAt W v A) (hb:Below W.heap.size W W'):NAt W' v A:=by
 obtain ⟨xs,h1,h2,h3⟩:=h
 exact ⟨xs,h1.below hb,h2,h3⟩
theorem NAt.of {W:World} {v:Value} {A:Nat} (h:LAt W v (limbs A)) (hs:Sm A):NAt W v A:=⟨_,h,Qap A,by unfold Sm at hs;omega⟩
theorem NAt.one (w:World) (x:Nat) (hx:x<4294967296):NAt (w.alloc (.cells #[.int .u32 (x:Int)] 152)) (.slice (some ⟨w.heap.size,0,none⟩) 1 1) x:=⟨_,one_at w x hx,val_one x,by simp⟩
def NRet (A:Nat) (w:World) (e:Ending) (w':World):Prop:=∃ v,e=.returned (.tuple #[v,.int .i64 0])∧NAt w' v A∧Below w.heap.size w w'
def PRet (A:Nat) (w:World) (e:Ending) (w':World):Prop:=∃ v,e=.returned v∧NAt w' v A∧Below w.heap.size w w'
theorem NPost.ret {A:Nat} {w w':World} {e:Ending} (hs:Sm A) (h:NPost A w e w'):NRet A w e w':=by
 obtain ⟨v,h1,h2,h3⟩:=h
 exact ⟨v,h1,.of h2 hs,h3⟩
def Bt (n k:Nat):Prop:=n<2 ^ k
theorem Bt.sm {n k:Nat} (h:Bt n k) (hk:k≤131072):Sm n:=sm_of h hk
theorem Bt.mono {n k l:Nat} (h:Bt n k) (hk:k≤l):Bt n l:=Nat.lt_of_lt_of_le h (Nat.pow_le_pow_right (by decide) hk)
theorem Bt.mul {n m k l:Nat} (h:Bt n k) (h2:Bt m l):Bt (n*m) (k+l):=by
 unfold Bt at *
 rw [Nat.pow_add]
 exact Nat.mul_lt_mul'' h h2
theorem Bt.ten (n:Nat):Bt (10 ^ n) (4*n+1):=by
 unfold Bt
 rw [Nat.pow_succ,Nat.pow_mul]
 have:=Nat.pow_le_pow_left (show 10≤2 ^ 4 by decide) n
 have h2:=Nat.pow_pos (show 0<2 ^ 4 by decide) (n:=n)
 omega
theorem Bt.two (n:Nat):Bt (2 ^ n) (n+1):=Nat.pow_lt_pow_right (by decide) (by omega)
theorem Bt.blen {n k:Nat} (h:Bt n k):blen n≤k:=by
 by_cases h0:n=0
 · subst h0;exact Nat.zero_le _
 · obtain ⟨h1,h2⟩:=blen_le h0
   have:=pow_cancel (Nat.lt_of_le_of_lt h1 h)
   omega
theorem mul_n (A B:Nat) (v u:Value) (w:World) (h1:NAt w v A) (h2:NAt w u B) {a b:Nat} (hA:Bt A a) (hB:Bt B b) (hab:a+b≤131072):Calls Tryz.prog 176 #[v,u] w (NRet (A*B) w):=by
 obtain ⟨xs,h3,rfl,h4⟩:=h1
 obtain ⟨ys,h5,rfl,h6⟩:=h2
 have hs:=(hA.mul hB).sm hab
 exact (mul_any xs ys v u w h3 h5 h4 h6 (hA.sm (by omega)) (hB.sm (by omega)) hs).mono fun e w' h=>h.ret hs
theorem cmp_n (A B:Nat) (v u:Value) (w:World) (h1:NAt w v A) (h2:NAt w u B):Calls Tryz.prog 157 #[v,u] w (Ret (.int .i64 (cmpF A B)) w):=by
 obtain ⟨xs,h3,rfl,h4⟩:=h1
 obtain ⟨ys,h5,rfl,h6⟩:=h2
 exact cmp_any xs ys v u w h3 h5 h4 h6
theorem bits_n (A:Nat) (v:Value) (w:World) (h1:NAt w v A):Calls Tryz.prog 195 #[v] w (Ret (.int .i64 (blen A)) w):=by
 obtain ⟨xs,h3,rfl,h4⟩:=h1
 exact bits_any xs v w h3 h4
theorem digits_n (A:Nat) (v:Value) (w:World) (h1:NAt w v A) {a:Nat} (hA:Bt A a) (ha:a≤131072):Calls Tryz.prog 87 #[v] w (DsPost A w):=by
 obtain ⟨xs,h3,rfl,h4⟩:=h1
 exact digits_any xs v w h3 h4 (hA.sm ha)
theorem add_n (A B:Nat) (v u:Value) (g:Nat) (w:World) (h1:NAt w v A) (h2:∃ ys,FitAt w g [(u,ys)]∧val ys=B) {a:Nat} (hA:Bt A a) (hB:Bt B a) (ha:a+1≤131072):Calls Tryz.prog 86 #[v,.slice (some ⟨g,0,none⟩) 1 1] w (NRet (A+B) w):=by
 obtain ⟨xs,h3,rfl,h4⟩:=h1
 obtain ⟨ys,h5,rfl⟩:=h2
 have hs:Sm (val xs+val ys):=Bt.sm (k:=a+1) (by unfold Bt at *;rw [Nat.pow_succ];omega) ha
 exact (add_any xs ys v u g w h3 h5 h4 (hA.sm (by omega)) hs).mono fun e w' h=>h.ret hs
theorem div_n (A B:Nat) (v u:Value) (w:World) (h1:NAt w v A) (h2:NAt w u B) {a b:Nat} (hA:Bt A a) (hB:Bt B b) (ha:a≤131072) (hb:b≤131072) (h0:B ≠ 0) :
 Calls Tryz.prog 178 #[v,u] w (fun e w'=>∃ q r,e=.returned (.tuple #[q,r,.int .i64 0])∧(LAt w' q (limbs (A / B))∧Sm (A / B))∧NAt w' r (A % B)∧Below w.heap.size w w'):=by
 obtain ⟨xs,h3,rfl,h4⟩:=h1
 obtain ⟨ys,h5,rfl,h6⟩:=h2
 refine (div_any xs ys v u w h3 h5 h4 h6 (hA.sm ha) (hB.sm hb) h0).mono ?_
 rintro e w' ⟨q,r,h1,h2,h3,h4⟩
 exact ⟨q,r,h1,⟨h2,sm_le (hA.sm ha) (Nat.div_le_self ..)⟩,.of h3 (sm_le (hA.sm ha) (Nat.mod_le ..)),h4⟩
set_option maxHeartbeats 4000000 in
set_option maxRecDepth 100000 in
theorem shl_zero (v:Value) (s:Nat) (w:World) (h1:NAt w v 0):Calls Tryz.prog 175 #[v,.int .i64 s] w (NRet 0 w):=by
 obtain ⟨xs,h3,h0,h4⟩:=h1
 obtain ⟨a1,d1,hv1,_⟩:=h3.slice
 obtain ⟨n1,hn1⟩:∃ n,xs.length=n:=⟨_,rfl⟩
 rw [hn1] at hv1
 subst hv1
 have hb0:=(Below.refl w.heap.size w).alloc (Nat.le_refl _) (.cells #[.slice a1 n1 d1] 150)
 have HF:=Lib.hid (fits_any [(.slice a1 n1 d1,xs)] w.heap.size 1 1 _ rfl (fit_one w _ xs h3 h4 (by rw [h0];exact Bt.sm (k:=1) (by unfold Bt;omega) (by omega))) (by omega))
 have HBt:=Lib.hid fun W (hb:Below w.heap.size w W)=>bits_any xs _ W (h3.below hb) h4
 rw [h0] at HBt
 have HB0:=Lib.hid hb0
 have f1:¬ (s:Int)<0:=by omega
 clear h3 h0 h4 hb0 hn1
 go_enter Tryz.func175,Tryz.ntmps175
 go_wp2_with (first
  | (go_at_call 128;refine HF.out.mono ?_;rintro e w1 ⟨he,hb1⟩;subst he;have HB1:=Lib.hid (HB0.out.trans (hb1.mono HB0.out.size));clear hb1 HF)
  | (go_at_call 195;refine (HBt.out w1 HB1.out).mono ?_;rintro e w2 ⟨he,hb2⟩;subst he;have HB2:=Lib.hid (HB1.out.trans (hb2.mono HB1.out.size));clear hb2))
 exact bodyPost_ret (v:=.tuple #[.slice none 0 0,.int .i64 0]) (by simp [results,Tryz.results175,go_sem]) rfl ⟨_,rfl,⟨[],LAt.nil _,rfl,Nat.zero_le _⟩,HB2.out⟩
theorem shl_n (A s:Nat) (v:Value) (w:World) (h1:NAt w v A) {a:Nat} (hA:Bt A a) (ha:a+s≤131072):Calls Tryz.prog 175 #[v,.int .i64 s] w (NRet (A*2 ^ s) w):=by
 by_cases h0:A=0
 · subst h0
   rw [Nat.zero_mul]
   exact shl_zero v s w h1
 · obtain ⟨xs,h3,rfl,h4⟩:=h1
   have hs:Sm (val xs*2 ^ s):=Bt.sm (k:=a+s) (by unfold Bt at *;rw [Nat.pow_add];exact (Nat.mul_lt_mul_right (Nat.two_pow_pos s)).2 hA) ha
   exact (shl_any xs v s w h3 h4 (hA.sm (by omega)) h0 (by have:=hA.blen;omega)).mono fun e w' h=>h.ret hs
set_option maxHeartbeats 4000000 in
set_option maxRecDepth 100000 in
theorem power_any (n:Nat) (w:World) (hn:n≤9):Calls Tryz.prog 197 #[.int .u32 10,.int .i64 n] w (PRet (10 ^ n) w):=by
 go_enter Tryz.func197,Tryz.ntmps197
 go_wp2_with fail
 have HI0:=Lib.hid (show NAt (w.alloc (.cells #[.int .u32 1] 152)) (.slice (some ⟨w.heap.size,0,none⟩) 1 1) (10 ^ 0)∧Below w.heap.size w (w.alloc (.cells #[.int .u32 1] 152)) from ⟨NAt.one w 1 (by omega),(Below.refl _ w).alloc (Nat.le_refl _) _⟩)
 go_loopw [8,5] (fun s v wi=>∃ (k:Nat) (V:Value),k≤n∧s=.int .i64 k∧V=v∧Hid (NAt wi V (10 ^ k)∧Below w.heap.size w wi)) (fun s _ _=>n - (intOf s).toNat)
 case atStart=>exact ⟨0,_,Nat.zero_le _,rfl,rfl,HI0⟩
 case round =>
  clear HI0
  obtain ⟨k,V,hk,rfl,rfl,HI⟩:=hrel
  by_cases hlt:k<n
  · have f1:(k:Int)<(n:Int):=by omega
    have hb:=(Below.refl wr.heap.size wr).alloc (Nat.le_refl _) (.cells #[.int .u32 10] 152)
    have HM:=Lib.hid (mul_n (10 ^ k) 10 V _ _ (HI.out.1.below hb) (NAt.one wr 10 (by omega)) (Bt.ten k) (show Bt 10 4 by unfold Bt;omega) (by omega))
    have HB:=Lib.hid (HI.out.2.trans (hb.mono HI.out.2.size))
    clear hb
    go_wp2_with (go_at_call 176;refine HM.out.mono ?_;rintro e w1 ⟨v1,he,hl1,hb1⟩;subst he;have HI1:=Lib.hid (show NAt w1 v1 (10 ^ (k+1))∧Below w.heap.size w w1 from ⟨by rw [Nat.pow_succ];exact hl1,HB.out.trans (hb1.mono HB.out.size)⟩);clear hl1 hb1)
    go_roundw
    case rel=>exact ⟨k+1,_,by omega,by go_num,rfl,HI1⟩
    case measure=>simp [intOf];omega
  · obtain rfl:k=n:=by omega
    have f1:¬ (k:Int)<(k:Int):=by omega
    go_wp2
    exact bodyPost_ret (v:=V) (by simp [results,Tryz.results197,go_sem]) rfl ⟨_,rfl,HI.out.1,HI.out.2⟩
set_option maxHeartbeats 4000000 in
set_option maxRecDepth 100000 in
theorem ten_any (n:Nat):∀ (w:World),n≤4000→Calls Tryz.prog 177 #[.int .i64 n] w (PRet (10 ^ n) w):=by
 induction n using Nat.strongRecOn with
 | _ n ih =>
   intro w hn
   by_cases h9:n<9
   · have f1:(n:Int)<9:=by omega
     have HP:=Lib.hid (power_any n w (by omega))
     clear ih
     go_enter Tryz.func177,Tryz.ntmps177
     go_wp2_with (go_at_call 197;refine HP.out.mono ?_;rintro e w1 ⟨v1,he,hl1,hb1⟩;subst he;have HI1:=Lib.hid (show NAt w1 v1 (10 ^ n)∧Below w.heap.size w w1 from ⟨hl1,hb1⟩);clear hl1 hb1)
     exact bodyPost_ret (v:=v1) (by simp [results,Tryz.results177,go_sem]) rfl ⟨_,rfl,HI1.out.1,HI1.out.2⟩
   · have f1:¬ (n:Int)<9:=by omega
     obtain ⟨m,hm⟩:∃ m,n / 2=m:=⟨_,rfl⟩
     have e1:(n:Int).tdiv 2=(m:Int):=by rw [Int.tdiv_eq_ediv_of_nonneg (by omega)];omega
     have e2:IntKind.i64.wrap (m:Int)=(m:Int):=by rw [IntKind.wrap_i64];omega
     have e3:(n:Int) / 2=(m:Int):=by omega
     have HP:=Lib.hid (ih m (by omega) w (by omega))
     have hmm:10 ^ m*10 ^ m=10 ^ (2*m):=by rw [← Nat.pow_add];congr 1;omega
     have HMM:=Lib.hid hmm
     have HMe:=Lib.hid (show n / 2=m∧n≤4000 from ⟨hm,hn⟩)
     by_cases hodd:n % 2=1
     · have e4:(n:Int).tmod 2=1:=by rw [Int.tmod_eq_emod_of_nonneg (by omega)];omega
       have e5:(n:Int) % 2=1:=by omega
       have HE:=Lib.hid (show 10 ^ (2*m)*10=10 ^ n by rw [← Nat.pow_succ];congr 1;omega)
       clear ih hm hmm hodd
       go_enter Tryz.func177,Tryz.ntmps177
       go_wp2_with (first
        | (go_at_call 177;refine HP.out.mono ?_;rintro e w1 ⟨v1,he,hl1,hb1⟩;subst he;have HL1:=Lib.hid hl1;have HB1:=Lib.hid hb1;clear hl1 hb1 HP)
        | (go_at_call 176;refine (mul_n (10 ^ m) (10 ^ m) v1 v1 w1 HL1.out HL1.out (Bt.ten m) (Bt.ten m) (by have:=HMe.out;omega)).mono ?_;rintro e w2 ⟨v2,he,hl2,hb2⟩;rw [HMM.out] at hl2;subst he;have HL2:=Lib.hid hl2;have HB2:=Lib.hid (HB1.out.trans (hb2.mono HB1.out.size));clear hl2 hb2 HL1 HMM)
        | (go_at_call 176;refine (mul_n (10 ^ (2*m)) 10 v2 _ _ (HL2.out.below ((Below.refl w2.heap.size w2).alloc (Nat.le_refl _) (.cells #[.int .u32 10] 152))) (NAt.one w2 10 (by omega)) (Bt.ten (2*m)) (show Bt 10 4 by unfold Bt;omega) (by have:=HMe.out;omega)).mono ?_;rintro e w3 ⟨v3,he,hl3,hb3⟩;subst he;have HL3:=Lib.hid hl3;have HB3:=Lib.hid ((HB2.out.trans (((Below.refl w2.heap.size w2).alloc (Nat.le_refl _) (.cells #[.int .u32 10] 152)).mono HB2.out.size)).trans (hb3.mono (by have:=HB2.out.size;simp;omega)));clear hl3 hb3))
       exact bodyPost_ret (v:=v3) (by simp [results,Tryz.results177,go_sem]) rfl ⟨_,rfl,by rw [← HE.out];exact HL3.out,HB3.out⟩
     · have e4:(n:Int).tmod 2=0:=by rw [Int.tmod_eq_emod_of_nonneg (by omega)];omega
       have e5:(n:Int) % 2=0:=by omega
       have HE:=Lib.hid (show 10 ^ (2*m)=10 ^ n by congr 1;omega)
       clear ih hm hmm hodd
       go_enter Tryz.func177,Tryz.ntmps177
       go_wp2_with (first
        | (go_at_call 177;refine HP.out.mono ?_;rintro e w1 ⟨v1,he,hl1,hb1⟩;subst he;have HL1:=Lib.hid hl1;have HB1:=Lib.hid hb1;clear hl1 hb1 HP)
        | (go_at_call 176;refine (mul_n (10 ^ m) (10 ^ m) v1 v1 w1 HL1.out HL1.out (Bt.ten m) (Bt.ten m) (by have:=HMe.out;omega)).mono ?_;rintro e w2 ⟨v2,he,hl2,hb2⟩;rw [HMM.out] at hl2;subst he;have HL2:=Lib.hid hl2;have HB2:=Lib.hid (HB1.out.trans (hb2.mono HB1.out.size));clear hl2 hb2 HL1 HMM))
       exact bodyPost_ret (v:=v2) (by simp [results,Tryz.results177,go_sem]) rfl ⟨_,rfl,by rw [← HE.out];exact HL2.out,HB2.out⟩
def Row2 (W:World) (g:Nat) (t:TypeId) (a b:Value):Prop:=W.heap[g]? = some (.cells #[a,b] t (0,0))
section
variable {W:World} {g:Nat} {t:TypeId} {a b:Value} (h:Row2 W g t a b)
include h
theorem Row2.c0:W.cell? ⟨g,0,none⟩=some a:=cell_of_row W g 0 _ _ _ h
theorem Row2.c1:W.cell? ⟨g,1,none⟩=some b:=cell_of_row W g 1 _ _ _ h
theorem Row2.fz (j:Nat):W.frozen? ⟨g,j,none⟩=false:=frozen_of_row W g j _ _ h
theorem Row2.lt:g<W.heap.size:=block_lt_of_cell h.c0
theorem Row2.s0 (v:Value):Row2 (W.setCell ⟨g,0,none⟩ v) g t v b:=by
 rw [setCell_eq_setRow W g 0 _ _ _ v h];exact setRow_heap _ _ _ _ _ _ h
theorem Row2.s1 (v:Value):Row2 (W.setCell ⟨g,1,none⟩ v) g t a v:=by
 rw [setCell_eq_setRow W g 1 _ _ _ v h];exact setRow_heap _ _ _ _ _ _ h
theorem Row2.below {W1:World} (hb:Below W.heap.size W W1):Row2 W1 g t a b:=(hb.block g h.lt).trans h
theorem Row2.alloc (o:Obj):Row2 (W.alloc o) g t a b:=(Below.heap_alloc W o g h.lt).trans h
theorem Row2.drew:Row2 W.drew g t a b:=h
end
theorem Row2.new (w:World) (t:TypeId) (a b:Value):Row2 (w.alloc (.cells #[a,b] t)) w.heap.size t a b:=heap_alloc_new w _
theorem NAt.slice {W:World} {v:Value} {A:Nat} (h:NAt W v A):∃ a n c,v=.slice a n c:=by
 obtain ⟨xs,h1,_⟩:=h
 obtain ⟨a,c,h2,_⟩:=h1.slice
 exact ⟨a,_,c,h2⟩
def RRet (A B:Nat) (w:World) (e:Ending) (w':World):Prop:=∃ va vb,e=.returned (.agg #[va,vb])∧NAt w' va A∧NAt w' vb B∧Below w.heap.size w w'
def TmIn (w W:World) (q A B:Nat) (va vb:Value):Prop:=Row2 W q 271 va vb∧Row2 W (q+1) 271 (.slice none 0 0) (.slice none 0 0)∧NAt W va A∧NAt W vb B∧Below q w W
theorem TmIn.next {w W W':World} {q A B:Nat} {va vb:Value} (h:TmIn w W q A B va vb) (hb:Below W.heap.size W W'):TmIn w W' q A B va vb:=by
 obtain ⟨h1,h2,h3,h4,h5⟩:=h
 have:=h1.lt
 exact ⟨h1.below hb,h2.below hb,h3.below hb,h4.below hb,h5.trans (hb.mono (by omega))⟩
theorem LAt.stored {W:World} {g:Nat} {t:TypeId} {j:Nat} {v u:Value} {xs:List Nat} {cs:Array Value} {fr:Nat × Nat} (h:LAt W v xs) (hg:W.heap[g]? = some (.cells cs t fr)) (ht:t ≠ 152):LAt (W.setCell ⟨g,j,none⟩ u) v xs:=by
 obtain ⟨a,c,hv,hc,hl,h⟩:=h
 refine ⟨a,c,hv,hc,hl,h.imp id ?_⟩
 rintro ⟨g', p, ha, hlt, ⟨cs', fr', ht'⟩, hx⟩
 have hne:g' ≠ g:=by
  rintro rfl
  rw [hg] at ht'
  injection ht' with ht'
  injection ht' with _ ht' _
  exact ht ht'
 have hb:=Below.heap_setCell W ⟨g,j,none⟩ u g' hne
 refine ⟨g', p, ha, by simpa [World.setCell] using hlt, ⟨cs', fr', hb.trans ht'⟩, fun i x hi => ?_⟩
 have:=hx i x hi
 rw [World.cell?] at this ⊢
 rw [hb]
 exact this
theorem NAt.stored {W:World} {g:Nat} {t:TypeId} {j A:Nat} {v u:Value} {cs:Array Value} {fr:Nat × Nat} (h:NAt W v A) (hg:W.heap[g]? = some (.cells cs t fr)) (ht:t ≠ 152):NAt (W.setCell ⟨g,j,none⟩ u) v A:=by
 obtain ⟨xs,h1,h2,h3⟩:=h
 exact ⟨xs,h1.stored hg ht,h2,h3⟩
theorem TmIn.s0 {w W:World} {q A B A':Nat} {va vb u:Value} (h:TmIn w W q A B va vb) (hu:NAt W u A'):TmIn w (W.setCell ⟨q,0,none⟩ u) q A' B u vb:=by
 obtain ⟨h1,h2,h3,h4,h5⟩:=h
 exact ⟨h1.s0 u,(Below.heap_setCell W ⟨q,0,none⟩ u (q+1) (by simp)).trans h2,hu.stored h1 (by decide),h4.stored h1 (by decide),h5.setCell (Nat.le_refl _) u⟩
theorem TmIn.s1 {w W:World} {q A B B':Nat} {va vb u:Value} (h:TmIn w W q A B va vb) (hu:NAt W u B'):TmIn w (W.setCell ⟨q,1,none⟩ u) q A B' va u:=by
 obtain ⟨h1,h2,h3,h4,h5⟩:=h
 exact ⟨h1.s1 u,(Below.heap_setCell W ⟨q,1,none⟩ u (q+1) (by simp)).trans h2,h3.stored h1 (by decide),hu.stored h1 (by decide),h5.setCell (Nat.le_refl _) u⟩
theorem TmIn.begin (w:World) (A B a1 n1 c1':Nat) (va vb:Value) (h1:NAt w va A) (h2:NAt w vb B):TmIn w ((w.alloc (.cells #[va,vb] 271)).alloc (.cells #[.slice none 0 0,.slice none 0 0] 271)) w.heap.size A B va vb:=by
 have hb:=below_two w (.cells #[va,vb] 271) (.cells #[.slice none 0 0,.slice none 0 0] 271)
 refine ⟨(Row2.new w 271 va vb).alloc _,?_,h1.below hb,h2.below hb,hb⟩
 have:=Row2.new (w.alloc (.cells #[va,vb] 271)) 271 (.slice none 0 0) (.slice none 0 0)
 rwa [show (w.alloc (.cells #[va,vb] 271)).heap.size=w.heap.size+1 by simp] at this
theorem info271:(Tryz.prog.info? 271).map (·.size)=some 2:=by kernel_rfl
theorem TmIn.done {w W:World} {q A B:Nat} {va vb:Value} (h:TmIn w W q A B va vb) (hq:w.heap.size=q):Row2 ((W.setCell ⟨q+1,0,none⟩ va).setCell ⟨q+1,1,none⟩ vb) (q+1) 271 va vb∧NAt ((W.setCell ⟨q+1,0,none⟩ va).setCell ⟨q+1,1,none⟩ vb) va A∧NAt ((W.setCell ⟨q+1,0,none⟩ va).setCell ⟨q+1,1,none⟩ vb) vb B∧Below w.heap.size w ((W.setCell ⟨q+1,0,none⟩ va).setCell ⟨q+1,1,none⟩ vb):=by
 obtain ⟨h1,h2,h3,h4,h5⟩:=h
 have h6:=h2.s0 va
 subst hq
 exact ⟨h6.s1 vb,(h3.stored h2 (by decide)).stored h6 (by decide),(h4.stored h2 (by decide)).stored h6 (by decide),(h5.setCell (p:=⟨w.heap.size+1,0,none⟩) (by simp) _).setCell (p:=⟨w.heap.size+1,1,none⟩) (by simp) _⟩
set_option maxHeartbeats 4000000 in
set_option maxRecDepth 100000 in
theorem times_pp (A B s t:Nat) (va vb:Value) (w:World) (h1:NAt w va A) (h2:NAt w vb B) (hA:Bt A 20000) (hB:Bt B 20000) (hs:s≤20000) (ht:t≤4000) :
 Calls Tryz.prog 155 #[.agg #[va,vb],.int .i64 s,.int .i64 t] w (RRet (A*2 ^ s*10 ^ t) B w):=by
 have hI:=TmIn.begin w A B 0 0 0 va vb h1 h2
 obtain ⟨a1,n1,c1,hv1⟩:=h1.slice
 obtain ⟨a2,n2,c2,hv2⟩:=h2.slice
 subst hv1 hv2
 obtain ⟨w1,hw1⟩:∃ w1,(w.alloc (.cells #[.slice a1 n1 c1,.slice a2 n2 c2] 271)).alloc (.cells #[.slice none 0 0,.slice none 0 0] 271)=w1:=⟨_,rfl⟩
 obtain ⟨q,hq⟩:∃ q,w.heap.size=q:=⟨_,rfl⟩
 rw [hw1,hq] at hI
 have HI:=Lib.hid hI
 have HQ:=Lib.hid hq
 have HS:=Lib.hid (show Bt A 20000∧Bt B 20000∧s≤20000∧t≤4000 from ⟨hA,hB,hs,ht⟩)
 have c0:=hI.1.c0
 have c1:=hI.1.c1
 have g0:(0:Int)≤(s:Int):=by omega
 have g1:(0:Int)≤(t:Int):=by omega
 clear h1 h2 hA hB hI hs ht
 go_enter Tryz.func155,Tryz.ntmps155
 go_wp2_with (go_at_call 175;refine (shl_n A s _ w1 HI.out.2.2.1 HS.out.1 (by have:=HS.out;omega)).mono ?_;rintro e w2 ⟨v2,he,hl2,hb2⟩;subst he;obtain ⟨a3,n3,c3,hv3⟩:=hl2.slice;subst hv3;have HI2:=Lib.hid (HI.out.next hb2);have d0:=HI2.out.1.c0;have d1:=HI2.out.1.c1;have z0:=HI2.out.1.fz 0;have HL2:=Lib.hid hl2;clear hl2 hb2 c0 c1)
 have hI3:TmIn w (w2.setCell ⟨q,0,none⟩ (.slice a3 n3 c3)) q (A*2 ^ s) B (.slice a3 n3 c3) (.slice a2 n2 c2):=HI2.out.s0 HL2.out
 generalize w2.setCell ⟨q,0,none⟩ (.slice a3 n3 c3)=W3 at hI3 ⊢
 have HI3:=Lib.hid (hI3.next ((Below.refl _ W3).drew))
 have k0:=hI3.1.c0
 clear hI3 d0 d1 z0 HI2 HL2
 go_region_with (first
  | (go_at_call 177;refine (ten_any t W3.drew HS.out.2.2.2).mono ?_;rintro e w4 ⟨v4,he,hl4,hb4⟩;obtain ⟨a4,n4,c4,hv4⟩:=hl4.slice;subst hv4;subst he;have HI4:=Lib.hid (HI3.out.next hb4);have k0:=HI4.out.1.c0;have HL4:=Lib.hid hl4;clear hl4 hb4)
  | (go_at_call 176;refine (mul_n (A*2 ^ s) (10 ^ t) _ _ w4 HI4.out.2.2.1 HL4.out (a:=20000+(s+1)) (b:=4*t+1) (HS.out.1.mul (Bt.two s)) (Bt.ten t) (by have:=HS.out;omega)).mono ?_;rintro e w5 ⟨v5,he,hl5,hb5⟩;obtain ⟨a5,n5,c5,hv5⟩:=hl5.slice;subst hv5;subst he;have HI5:=Lib.hid (HI4.out.next hb5);have z0:=HI5.out.1.fz 0;have k1:=HI5.out.1.c0;have HL5:=Lib.hid hl5;clear hl5 hb5))
 all_goals
  have hI6:TmIn w (w5.setCell ⟨q,0,none⟩ (.slice a5 n5 c5)) q (A*2 ^ s*10 ^ t) B (.slice a5 n5 c5) (.slice a2 n2 c2):=HI5.out.s0 HL5.out
  generalize w5.setCell ⟨q,0,none⟩ (.slice a5 n5 c5)=W6 at hI6 ⊢
  have HI6:=Lib.hid hI6
  have e0:=hI6.1.c0
  have e1:=hI6.1.c1
  have y0:=hI6.2.1.fz 0
  have y1:=(hI6.2.1.s0 (.slice a5 n5 c5)).fz 1
  have x0:=hI6.2.1.c0
  have x1:=(hI6.2.1.s0 (.slice a5 n5 c5)).c1
  have hE:=hI6.done HQ.out
  clear hI6 k0 k1 z0 HI5 HL5 HI4 HL4
  have HE:=Lib.hid hE
  clear hE
  go_wp2
  exact bodyPost_ret (v:=.agg #[.slice a5 n5 c5,.slice a2 n2 c2]) (results_cell_row rfl _ _ (q+1) 271 _ _ _ rfl HE.out.1 Tryz.underlying271 rfl info271) rfl ⟨_,_,rfl,HE.out.2.1,HE.out.2.2.1,HE.out.2.2.2⟩
set_option maxHeartbeats 4000000 in
set_option maxRecDepth 100000 in
theorem times_pn (A B s t:Nat) (y:Int) (hy:y = -(t:Int)) (ht0:0<t) (va vb:Value) (w:World) (h1:NAt w va A) (h2:NAt w vb B) (hA:Bt A 20000) (hB:Bt B 20000) (hs:s≤20000) (ht:t≤4000) :
 Calls Tryz.prog 155 #[.agg #[va,vb],.int .i64 s,.int .i64 y] w (RRet (A*2 ^ s) (B*10 ^ t) w):=by
 have hI:=TmIn.begin w A B 0 0 0 va vb h1 h2
 obtain ⟨a1,n1,c1,hv1⟩:=h1.slice
 obtain ⟨a2,n2,c2,hv2⟩:=h2.slice
 subst hv1 hv2
 obtain ⟨w1,hw1⟩:∃ w1,(w.alloc (.cells #[.slice a1 n1 c1,.slice a2 n2 c2] 271)).alloc (.cells #[.slice none 0 0,.slice none 0 0] 271)=w1:=⟨_,rfl⟩
 obtain ⟨q,hq⟩:∃ q,w.heap.size=q:=⟨_,rfl⟩
 rw [hw1,hq] at hI
 have HI:=Lib.hid hI
 have HQ:=Lib.hid hq
 have HS:=Lib.hid (show Bt A 20000∧Bt B 20000∧s≤20000∧t≤4000 from ⟨hA,hB,hs,ht⟩)
 have c0:=hI.1.c0
 have c1:=hI.1.c1
 have g0:(0:Int)≤(s:Int):=by omega
 have g1:¬ (0:Int)≤y:=by omega
 have n2':IntKind.i64.wrap (-y)=(t:Int):=by rw [IntKind.wrap_i64];omega
 clear h1 h2 hA hB hI hs ht hy ht0
 go_enter Tryz.func155,Tryz.ntmps155
 go_wp2_with (go_at_call 175;refine (shl_n A s _ w1 HI.out.2.2.1 HS.out.1 (by have:=HS.out;omega)).mono ?_;rintro e w2 ⟨v2,he,hl2,hb2⟩;subst he;obtain ⟨a3,n3,c3,hv3⟩:=hl2.slice;subst hv3;have HI2:=Lib.hid (HI.out.next hb2);have d0:=HI2.out.1.c0;have d1:=HI2.out.1.c1;have z0:=HI2.out.1.fz 0;have HL2:=Lib.hid hl2;clear hl2 hb2 c0 c1)
 have hI3:TmIn w (w2.setCell ⟨q,0,none⟩ (.slice a3 n3 c3)) q (A*2 ^ s) B (.slice a3 n3 c3) (.slice a2 n2 c2):=HI2.out.s0 HL2.out
 generalize w2.setCell ⟨q,0,none⟩ (.slice a3 n3 c3)=W3 at hI3 ⊢
 have HI3:=Lib.hid (hI3.next ((Below.refl _ W3).drew))
 have k0:=hI3.1.c1
 clear hI3 d0 d1 z0 HI2 HL2
 go_region_with (first
  | (go_at_call 177;refine (ten_any t W3.drew HS.out.2.2.2).mono ?_;rintro e w4 ⟨v4,he,hl4,hb4⟩;obtain ⟨a4,n4,c4,hv4⟩:=hl4.slice;subst hv4;subst he;have HI4:=Lib.hid (HI3.out.next hb4);have k0:=HI4.out.1.c1;have HL4:=Lib.hid hl4;clear hl4 hb4)
  | (go_at_call 176;refine (mul_n B (10 ^ t) _ _ w4 HI4.out.2.2.2.1 HL4.out (a:=20000) (b:=4*t+1) HS.out.2.1 (Bt.ten t) (by have:=HS.out;omega)).mono ?_;rintro e w5 ⟨v5,he,hl5,hb5⟩;obtain ⟨a5,n5,c5,hv5⟩:=hl5.slice;subst hv5;subst he;have HI5:=Lib.hid (HI4.out.next hb5);have z0:=HI5.out.1.fz 1;have k1:=HI5.out.1.c1;have HL5:=Lib.hid hl5;clear hl5 hb5))
 all_goals
  have hI6:TmIn w (w5.setCell ⟨q,1,none⟩ (.slice a5 n5 c5)) q (A*2 ^ s) (B*10 ^ t) (.slice a3 n3 c3) (.slice a5 n5 c5):=HI5.out.s1 HL5.out
  generalize w5.setCell ⟨q,1,none⟩ (.slice a5 n5 c5)=W6 at hI6 ⊢
  have HI6:=Lib.hid hI6
  have e0:=hI6.1.c0
  have e1:=hI6.1.c1
  have y0:=hI6.2.1.fz 0
  have y1:=(hI6.2.1.s0 (.slice a3 n3 c3)).fz 1
  have x0:=hI6.2.1.c0
  have x1:=(hI6.2.1.s0 (.slice a3 n3 c3)).c1
  have hE:=hI6.done HQ.out
  clear hI6 k0 k1 z0 HI5 HL5 HI4 HL4
  have HE:=Lib.hid hE
  clear hE
  go_wp2
  exact bodyPost_ret (v:=.agg #[.slice a3 n3 c3,.slice a5 n5 c5]) (results_cell_row rfl _ _ (q+1) 271 _ _ _ rfl HE.out.1 Tryz.underlying271 rfl info271) rfl ⟨_,_,rfl,HE.out.2.1,HE.out.2.2.1,HE.out.2.2.2⟩
set_option maxHeartbeats 4000000 in
set_option maxRecDepth 100000 in
theorem times_np (A B s t:Nat) (x:Int) (hx:x = -(s:Int)) (hs0:0<s) (va vb:Value) (w:World) (h1:NAt w va A) (h2:NAt w vb B) (hA:Bt A 20000) (hB:Bt B 20000) (hs:s≤20000) (ht:t≤4000) :
 Calls Tryz.prog 155 #[.agg #[va,vb],.int .i64 x,.int .i64 t] w (RRet (A*10 ^ t) (B*2 ^ s) w):=by
 have hI:=TmIn.begin w A B 0 0 0 va vb h1 h2
 obtain ⟨a1,n1,c1,hv1⟩:=h1.slice
 obtain ⟨a2,n2,c2,hv2⟩:=h2.slice
 subst hv1 hv2
 obtain ⟨w1,hw1⟩:∃ w1,(w.alloc (.cells #[.slice a1 n1 c1,.slice a2 n2 c2] 271)).alloc (.cells #[.slice none 0 0,.slice none 0 0] 271)=w1:=⟨_,rfl⟩
 obtain ⟨q,hq⟩:∃ q,w.heap.size=q:=⟨_,rfl⟩
 rw [hw1,hq] at hI
 have HI:=Lib.hid hI
 have HQ:=Lib.hid hq
 have HS:=Lib.hid (show Bt A 20000∧Bt B 20000∧s≤20000∧t≤4000 from ⟨hA,hB,hs,ht⟩)
 have c0:=hI.1.c0
 have c1:=hI.1.c1
 have g0:¬ (0:Int)≤x:=by omega
 have n1':IntKind.i64.wrap (-x)=(s:Int):=by rw [IntKind.wrap_i64];omega
 have g1:(0:Int)≤(t:Int):=by omega
 clear h1 h2 hA hB hI hs ht hx hs0
 go_enter Tryz.func155,Tryz.ntmps155
 go_wp2_with (go_at_call 175;refine (shl_n B s _ w1 HI.out.2.2.2.1 HS.out.2.1 (by have:=HS.out;omega)).mono ?_;rintro e w2 ⟨v2,he,hl2,hb2⟩;subst he;obtain ⟨a3,n3,c3,hv3⟩:=hl2.slice;subst hv3;have HI2:=Lib.hid (HI.out.next hb2);have d0:=HI2.out.1.c0;have d1:=HI2.out.1.c1;have z0:=HI2.out.1.fz 1;have HL2:=Lib.hid hl2;clear hl2 hb2 c0 c1)
 have hI3:TmIn w (w2.setCell ⟨q,1,none⟩ (.slice a3 n3 c3)) q A (B*2 ^ s) (.slice a1 n1 c1) (.slice a3 n3 c3):=HI2.out.s1 HL2.out
 generalize w2.setCell ⟨q,1,none⟩ (.slice a3 n3 c3)=W3 at hI3 ⊢
 have HI3:=Lib.hid (hI3.next ((Below.refl _ W3).drew))
 have k0:=hI3.1.c0
 clear hI3 d0 d1 z0 HI2 HL2
 go_region_with (first
  | (go_at_call 177;refine (ten_any t W3.drew HS.out.2.2.2).mono ?_;rintro e w4 ⟨v4,he,hl4,hb4⟩;obtain ⟨a4,n4,c4,hv4⟩:=hl4.slice;subst hv4;subst he;have HI4:=Lib.hid (HI3.out.next hb4);have k0:=HI4.out.1.c0;have HL4:=Lib.hid hl4;clear hl4 hb4)
  | (go_at_call 176;refine (mul_n A (10 ^ t) _ _ w4 HI4.out.2.2.1 HL4.out (a:=20000) (b:=4*t+1) HS.out.1 (Bt.ten t) (by have:=HS.out;omega)).mono ?_;rintro e w5 ⟨v5,he,hl5,hb5⟩;obtain ⟨a5,n5,c5,hv5⟩:=hl5.slice;subst hv5;subst he;have HI5:=Lib.hid (HI4.out.next hb5);have z0:=HI5.out.1.fz 0;have k1:=HI5.out.1.c0;have HL5:=Lib.hid hl5;clear hl5 hb5))
 all_goals
  have hI6:TmIn w (w5.setCell ⟨q,0,none⟩ (.slice a5 n5 c5)) q (A*10 ^ t) (B*2 ^ s) (.slice a5 n5 c5) (.slice a3 n3 c3):=HI5.out.s0 HL5.out
  generalize w5.setCell ⟨q,0,none⟩ (.slice a5 n5 c5)=W6 at hI6 ⊢
  have HI6:=Lib.hid hI6
  have e0:=hI6.1.c0
  have e1:=hI6.1.c1
  have y0:=hI6.2.1.fz 0
  have y1:=(hI6.2.1.s0 (.slice a5 n5 c5)).fz 1
  have x0:=hI6.2.1.c0
  have x1:=(hI6.2.1.s0 (.slice a5 n5 c5)).c1
  have hE:=hI6.done HQ.out
  clear hI6 k0 k1 z0 HI5 HL5 HI4 HL4
  have HE:=Lib.hid hE
  clear hE
  go_wp2
  exact bodyPost_ret (v:=.agg #[.slice a5 n5 c5,.slice a3 n3 c3]) (results_cell_row rfl _ _ (q+1) 271 _ _ _ rfl HE.out.1 Tryz.underlying271 rfl info271) rfl ⟨_,_,rfl,HE.out.2.1,HE.out.2.2.1,HE.out.2.2.2⟩
set_option maxHeartbeats 4000000 in
set_option maxRecDepth 100000 in
theorem times_nn (A B s t:Nat) (x:Int) (hx:x = -(s:Int)) (hs0:0<s) (y:Int) (hy:y = -(t:Int)) (ht0:0<t) (va vb:Value) (w:World) (h1:NAt w va A) (h2:NAt w vb B) (hA:Bt A 20000) (hB:Bt B 20000) (hs:s≤20000) (ht:t≤4000) :
 Calls Tryz.prog 155 #[.agg #[va,vb],.int .i64 x,.int .i64 y] w (RRet A (B*2 ^ s*10 ^ t) w):=by
 have hI:=TmIn.begin w A B 0 0 0 va vb h1 h2
 obtain ⟨a1,n1,c1,hv1⟩:=h1.slice
 obtain ⟨a2,n2,c2,hv2⟩:=h2.slice
 subst hv1 hv2
 obtain ⟨w1,hw1⟩:∃ w1,(w.alloc (.cells #[.slice a1 n1 c1,.slice a2 n2 c2] 271)).alloc (.cells #[.slice none 0 0,.slice none 0 0] 271)=w1:=⟨_,rfl⟩
 obtain ⟨q,hq⟩:∃ q,w.heap.size=q:=⟨_,rfl⟩
 rw [hw1,hq] at hI
 have HI:=Lib.hid hI
 have HQ:=Lib.hid hq
 have HS:=Lib.hid (show Bt A 20000∧Bt B 20000∧s≤20000∧t≤4000 from ⟨hA,hB,hs,ht⟩)
 have c0:=hI.1.c0
 have c1:=hI.1.c1
 have g0:¬ (0:Int)≤x:=by omega
 have n1':IntKind.i64.wrap (-x)=(s:Int):=by rw [IntKind.wrap_i64];omega
 have g1:¬ (0:Int)≤y:=by omega
 have n2':IntKind.i64.wrap (-y)=(t:Int):=by rw [IntKind.wrap_i64];omega
 clear h1 h2 hA hB hI hs ht hx hs0 hy ht0
 go_enter Tryz.func155,Tryz.ntmps155
 go_wp2_with (go_at_call 175;refine (shl_n B s _ w1 HI.out.2.2.2.1 HS.out.2.1 (by have:=HS.out;omega)).mono ?_;rintro e w2 ⟨v2,he,hl2,hb2⟩;subst he;obtain ⟨a3,n3,c3,hv3⟩:=hl2.slice;subst hv3;have HI2:=Lib.hid (HI.out.next hb2);have d0:=HI2.out.1.c0;have d1:=HI2.out.1.c1;have z0:=HI2.out.1.fz 1;have HL2:=Lib.hid hl2;clear hl2 hb2 c0 c1)
 have hI3:TmIn w (w2.setCell ⟨q,1,none⟩ (.slice a3 n3 c3)) q A (B*2 ^ s) (.slice a1 n1 c1) (.slice a3 n3 c3):=HI2.out.s1 HL2.out
 generalize w2.setCell ⟨q,1,none⟩ (.slice a3 n3 c3)=W3 at hI3 ⊢
 have HI3:=Lib.hid (hI3.next ((Below.refl _ W3).drew))
 have k0:=hI3.1.c1
 clear hI3 d0 d1 z0 HI2 HL2
 go_region_with (first
  | (go_at_call 177;refine (ten_any t W3.drew HS.out.2.2.2).mono ?_;rintro e w4 ⟨v4,he,hl4,hb4⟩;obtain ⟨a4,n4,c4,hv4⟩:=hl4.slice;subst hv4;subst he;have HI4:=Lib.hid (HI3.out.next hb4);have k0:=HI4.out.1.c1;have HL4:=Lib.hid hl4;clear hl4 hb4)
  | (go_at_call 176;refine (mul_n (B*2 ^ s) (10 ^ t) _ _ w4 HI4.out.2.2.2.1 HL4.out (a:=20000+(s+1)) (b:=4*t+1) (HS.out.2.1.mul (Bt.two s)) (Bt.ten t) (by have:=HS.out;omega)).mono ?_;rintro e w5 ⟨v5,he,hl5,hb5⟩;obtain ⟨a5,n5,c5,hv5⟩:=hl5.slice;subst hv5;subst he;have HI5:=Lib.hid (HI4.out.next hb5);have z0:=HI5.out.1.fz 1;have k1:=HI5.out.1.c1;have HL5:=Lib.hid hl5;clear hl5 hb5))
 all_goals
  have hI6:TmIn w (w5.setCell ⟨q,1,none⟩ (.slice a5 n5 c5)) q A (B*2 ^ s*10 ^ t) (.slice a1 n1 c1) (.slice a5 n5 c5):=HI5.out.s1 HL5.out
  generalize w5.setCell ⟨q,1,none⟩ (.slice a5 n5 c5)=W6 at hI6 ⊢
  have HI6:=Lib.hid hI6
  have e0:=hI6.1.c0
  have e1:=hI6.1.c1
  have y0:=hI6.2.1.fz 0
  have y1:=(hI6.2.1.s0 (.slice a1 n1 c1)).fz 1
  have x0:=hI6.2.1.c0
  have x1:=(hI6.2.1.s0 (.slice a1 n1 c1)).c1
  have hE:=hI6.done HQ.out
  clear hI6 k0 k1 z0 HI5 HL5 HI4 HL4
  have HE:=Lib.hid hE
  clear hE
  go_wp2
  exact bodyPost_ret (v:=.agg #[.slice a1 n1 c1,.slice a5 n5 c5]) (results_cell_row rfl _ _ (q+1) 271 _ _ _ rfl HE.out.1 Tryz.underlying271 rfl info271) rfl ⟨_,_,rfl,HE.out.2.1,HE.out.2.2.1,HE.out.2.2.2⟩
theorem times_any (A B:Nat) (x y:Int) (va vb:Value) (w:World) (h1:NAt w va A) (h2:NAt w vb B) (hA:Bt A 20000) (hB:Bt B 20000) (hx : -20000≤x∧x≤20000) (hy : -4000≤y∧y≤4000) :
 Calls Tryz.prog 155 #[.agg #[va,vb],.int .i64 x,.int .i64 y] w (RRet (A*2 ^ x.toNat*10 ^ y.toNat) (B*2 ^ (-x).toNat*10 ^ (-y).toNat) w):=by
 by_cases h3:0≤x
 · obtain ⟨s,rfl⟩:∃ s:Nat,x=s:=⟨x.toNat,by omega⟩
   rw [Int.toNat_natCast,show (-(s:Int)).toNat=0 by omega,Nat.pow_zero,Nat.mul_one]
   by_cases h4:0≤y
   · obtain ⟨t,rfl⟩:∃ t:Nat,y=t:=⟨y.toNat,by omega⟩
     rw [Int.toNat_natCast,show (-(t:Int)).toNat=0 by omega,Nat.pow_zero,Nat.mul_one]
     exact times_pp A B s t va vb w h1 h2 hA hB (by omega) (by omega)
   · rw [show y.toNat=0 by omega,Nat.pow_zero,Nat.mul_one]
     exact times_pn A B s (-y).toNat y (by omega) (by omega) va vb w h1 h2 hA hB (by omega) (by omega)
 · rw [show x.toNat=0 by omega,Nat.pow_zero,Nat.mul_one]
   by_cases h4:0≤y
   · obtain ⟨t,rfl⟩:∃ t:Nat,y=t:=⟨y.toNat,by omega⟩
     rw [Int.toNat_natCast,show (-(t:Int)).toNat=0 by omega,Nat.pow_zero,Nat.mul_one]
     exact times_np A B (-x).toNat t x (by omega) (by omega) va vb w h1 h2 hA hB (by omega) (by omega)
   · rw [show y.toNat=0 by omega,Nat.pow_zero,Nat.mul_one]
     exact times_nn A B (-x).toNat (-y).toNat x (by omega) (by omega) y (by omega) (by omega) va vb w h1 h2 hA hB (by omega) (by omega)
end Go.Proofs.YtfmceonbejlhlaaGreatDoor
