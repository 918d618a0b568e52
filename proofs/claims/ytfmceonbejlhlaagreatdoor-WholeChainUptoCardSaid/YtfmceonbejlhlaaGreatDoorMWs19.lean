import Derived.Shelf.SlicesE.Reverse
import Derived.Deep.LoopGhost
import Derived.Test.YtfmceonbejlhlaaGreatDoorMWs15
namespace Go.Proofs.YtfmceonbejlhlaaGreatDoor
open Go.RowKit Go.Proofs.YtfmceonbejlhlaaGreatDoorW.PrintWords Go.Proofs.YtfmceonbejlhlaaGreatDoorW.PrintLast Go.Proofs.YtfmceonbejlhlaaGreatDoorW.PrintMore
set_option linter.unusedVariables false
def revNums:Go.Shelf.Ren:={ f:=fun n=>if n=35 then 134 else 0,t:=fun n=>if n=0 then 0 else if n=22 then 26 else if n=23 then 5 else n,g:=fun n=>n }
theorem rev_body : Go.Proofs.Bears Tryz.prog 134 (Go.Proofs.SlBodyN.n35 revNums) := ⟨ "slices.Reverse[[]byte,byte]", by decide, by kernel_rfl⟩
theorem revLays:Go.Proofs.SlLaysE.n35 Tryz.prog revNums where
 mixed:=by kernel_rfl
 f35:=rev_body
 t0:=Tryz.underlying0
 a0:=Tryz.isAgg0
 z0:=Tryz.sizeOf0
 v0:=Tryz.zeroValue0
 t3:=Tryz.underlying3
 a3:=Tryz.isAgg3
 z3:=Tryz.sizeOf3
 v3:=Tryz.zeroValue3
 t4:=Tryz.underlying4
 a4:=Tryz.isAgg4
 z4:=Tryz.sizeOf4
 v4:=Tryz.zeroValue4
 t22:=Tryz.underlying26
 a22:=Tryz.isAgg26
 z22:=Tryz.sizeOf26
 v22:=Tryz.zeroValue26
 a23:=Tryz.isAgg5
 z23:=Tryz.sizeOf5
theorem holds_bytes {W:World} {base g n c:Nat} {xs:List Int} (h:W.ownsRow base 5 1 (.slice (some ⟨g,0,none⟩) n c) n (nums .u8 xs)):Go.Sort.Holds (Value.int .u8) W g 0 xs.toArray:=by
 intro j hj
 have hj':j<xs.length:=by simpa using hj
 have e:xs.toArray[j]! = xs.getD j 0:=by
  rw [getElem!_pos xs.toArray j hj,List.getD_eq_getElem?_getD,List.getElem?_eq_getElem hj']
  rfl
 rw [e]
 have h1 := h.cells (g := g) rfl j (.int .u8 (xs.getD j 0)) (by simp [nums, List.getElem?_eq_getElem hj', List.getD_eq_getElem?_getD])
 rw [WideShapes.add_plain] at h1
 obtain ⟨cs,hc⟩:=Qba h g rfl
 exact ⟨h1,frozen_of_row W g (0+j) _ _ hc⟩
theorem rev_any (xs:List Int) (base g n c:Nat) (W:World) (hn:xs.length=n) (hs:n≤1099511627776) (h:W.ownsRow base 5 1 (.slice (some ⟨g,0,none⟩) n c) n (nums .u8 xs)) :
 Calls Tryz.prog 134 #[.slice (some ⟨g,0,none⟩) n c] W (fun e w'=>e=.returned (.tuple #[])∧(convert 26 9 (.slice (some ⟨g,0,none⟩) n c)).run Tryz.prog w'=.ok (.string (strOfNums xs.reverse)) w'∧Fr g W w'):=by
 have hH:=holds_bytes h
 have hr:=Go.Proofs.AnyE.slices_Reverse revLays (Value.int .u8) (fun x=>rfl) g 0 c xs W hH (by omega)
 rw [hn] at hr
 refine hr.mono ?_
 rintro e w' ⟨rfl,k,rfl⟩
 have hH2:Go.Sort.Holds (Value.int .u8) (Go.Sort.ahead W k) g 0 xs.toArray:=hH
 refine ⟨rfl,?_,?_⟩
 · refine run_convert_bytes_arg _ 26 5 Tryz.underlying26 Tryz.underlying5 g 0 n c xs.reverse (by rw [List.length_reverse];exact hn) (fun i hi=>?_) 9 Tryz.underlying9
   have h1:=Go.Sort.cell?_putRow (Value.int .u8) (Go.Sort.ahead W k) g 0 xs.toArray xs.reverse.toArray hH2 (by simp) i (by simp;omega)
   rw [h1]
   congr 2
   have hi':i<xs.reverse.length:=by rw [List.length_reverse];omega
   rw [getElem!_pos xs.reverse.toArray i (by simpa using hi'),List.getD_eq_getElem?_getD,List.getElem?_eq_getElem hi']
   rfl
 · refine ⟨rfl,rfl,rfl,by simp [Go.Sort.putRow,Go.Sort.mapBlock,Go.Sort.ahead],fun j hj hne=>?_⟩
   simp only [Go.Sort.putRow,Go.Sort.mapBlock,Go.Sort.ahead,Array.getElem?_modify]
   rw [if_neg (by omega)]
def lowD (n:Nat):List Int:=if h:n=0 then [] else (48+(n % 10:Nat):Int) :: lowD (n / 10)
termination_by n
decreasing_by omega
theorem lowD_zero:lowD 0=[]:=by rw [lowD];simp
theorem lowD_pos {n:Nat} (h:n ≠ 0):lowD n=(48+(n % 10:Nat):Int) :: lowD (n / 10):=by rw [lowD,dif_neg h]
theorem lowD_len:∀ (k n:Nat),n<10 ^ k→(lowD n).length≤k:=by
 intro k
 induction k with
 | zero=>intro n h;simp at h;subst h;simp [lowD_zero]
 | succ k ih =>
   intro n h
   by_cases h0:n=0
   · subst h0;simp [lowD_zero]
   · rw [lowD_pos h0,List.length_cons]
     have:=ih (n / 10) (by rw [Nat.pow_succ] at h;omega)
     omega
theorem lowD_sm {A:Nat} (h:Sm A):(lowD A).length≤40960:=by
 have h1:=val_lt (limbs A) (Qay A)
 rw [Qap] at h1
 have h2:4294967296 ^ (limbs A).length≤(10 ^ 10) ^ (limbs A).length:=Nat.pow_le_pow_left (by decide) _
 rw [← Nat.pow_mul] at h2
 have h3:=lowD_len (10*(limbs A).length) A (by omega)
 unfold Sm at h
 omega
def decS (n:Nat):ByteArray:=if n=0 then ⟨#[48]⟩ else strOfNums (lowD n).reverse
theorem lowD_step {r i X:Nat} (hi:i<9) (h0:r ≠ 0 ∨ X ≠ 0):lowD (r+10 ^ (9 - i)*X)=(48+(r % 10:Nat):Int) :: lowD (r / 10+10 ^ (9 - (i+1))*X):=by
 have e:10 ^ (9 - i)=10*10 ^ (9 - (i+1)):=by rw [show 9 - i=(9 - (i+1))+1 by omega,Nat.pow_succ,Nat.mul_comm]
 have hp:0<10 ^ (9 - (i+1)):=Nat.pow_pos (by decide)
 have hne:r+10 ^ (9 - i)*X ≠ 0:=by
  rcases h0 with h | h
  · omega
  · have:0<10 ^ (9 - i)*X:=Nat.mul_pos (Nat.pow_pos (by decide)) (by omega)
    omega
 rw [lowD_pos hne,e,Nat.mul_assoc]
 have h1:(r+10*(10 ^ (9 - (i+1))*X)) % 10=r % 10:=by omega
 have h2:(r+10*(10 ^ (9 - (i+1))*X)) / 10=r / 10+10 ^ (9 - (i+1))*X:=by omega
 rw [h1,h2]
theorem info5b:(Tryz.prog.info? 5).map (fun i=>(i.zero,i.size,i.bytes))=some (some (.int .u8 0),1,1):=by kernel_rfl
def BOwn (W:World) (base:Nat) (v:Value) (xs:List Int):Prop:=W.ownsRow base 5 1 v xs.length (nums .u8 xs)
theorem BOwn.below {W W':World} {base:Nat} {v:Value} {xs:List Int} (h:BOwn W base v xs) (hb:Below W.heap.size W W'):BOwn W' base v xs:=by
 refine ⟨h.1,h.2.imp id ?_⟩
 rintro ⟨g,cap,cur,hv,hg,hc,r⟩
 have hlt:g<W.heap.size:=by
  by_cases hl:g<W.heap.size
  · exact hl
  · rw [Array.getElem?_eq_none (by omega)] at hc;cases hc
 exact ⟨g,cap,cur,hv,hg,(hb.block g hlt).trans hc,r⟩
theorem BOwn.slice {W:World} {base:Nat} {v:Value} {xs:List Int} (h:BOwn W base v xs):∃ a c,v=.slice a xs.length c∧xs.length≤c:=by
 rcases h.2 with ⟨hv,hx⟩ | ⟨g,cap,cur,hv,h1⟩
 · exact ⟨none,0,by rw [hv,hx],by omega⟩
 · obtain ⟨_,_,h2,_⟩:=h1
   exact ⟨_,_,hv,h2⟩
theorem BOwn.block {W:World} {base n c:Nat} {a:Option Addr} {xs:List Int} (h:BOwn W base (.slice a n c) xs) (h0:0<n):∃ g,a=some ⟨g,0,none⟩∧base≤g:=by
 rcases h.2 with ⟨hv,hx⟩ | ⟨g,cap,cur,hv,hg,h1⟩
 · injection hv;omega
 · injection hv with e1 e2 e3
   exact ⟨g,e1,hg⟩
theorem BOwn.ge {W:World} {base:Nat} {v:Value} {xs:List Int} (h:BOwn W base v xs) (k:Nat) (hk:v.ownBlock=some k):base≤k:=by
 rcases h.2 with ⟨hv,hx⟩ | ⟨g,cap,cur,hv,hg,h1⟩
 · rw [hv] at hk;cases hk
 · rw [hv] at hk
   have:some g=some k:=hk
   injection this with this
   omega
theorem LAt.grown {W W':World} {base:Nat} {v v5:Value} {xs:List Nat} {o:List Int} (h:LAt W v xs) (hB:BOwn W base v5 o) (hg:W.grownBy W' v5.ownBlock):LAt W' v xs:=by
 obtain ⟨a,c,hv,hc,hl,h⟩:=h
 refine ⟨a,c,hv,hc,hl,h.imp id ?_⟩
 rintro ⟨g,p,ha,hlt,⟨cs,fr,ht⟩,hx⟩
 have hne:Option.some g ≠ v5.ownBlock:=fun e=>by
  obtain ⟨ds,hd⟩:=Qba hB g e.symm
  rw [ht] at hd
  injection hd with hd
  injection hd with _ hd _
  exact absurd hd (by decide)
 have hb:W'.heap[g]? = W.heap[g]?:=hg.block g hlt hne
 refine ⟨g,p,ha,Nat.lt_of_lt_of_le hlt hg.size,⟨cs,fr,hb.trans ht⟩,fun i x hi=>?_⟩
 have:=hx i x hi
 rw [World.cell?] at this ⊢
 rw [hb]
 exact this
def DoIn (w wi:World) (q A X:Nat) (V4 V5:Value) (o:List Int):Prop:=LAt wi V4 (limbs X)∧X≤A∧lowD A=o ++ lowD X∧BOwn wi q V5 o∧Below q w wi
def DiIn (w wi:World) (q A X i r:Nat) (V4 V5:Value) (o:List Int):Prop:=LAt wi V4 (limbs X)∧r<10 ^ (9 - i)∧lowD A=o ++ lowD (r+10 ^ (9 - i)*X)∧BOwn wi q V5 o∧Below q w wi
def DsPost (A:Nat) (w:World) (e:Ending) (w':World):Prop:=e=.returned (.tuple #[.string (decS A),.int .i64 0])∧Below w.heap.size w w'
set_option maxHeartbeats 8000000 in
set_option maxRecDepth 100000 in
theorem digits_any (xs:List Nat) (v:Value) (w:World) (h1:LAt w v xs) (hs1:xs.length≤1099511627776) (hm1:Sm (val xs)) :
 Calls Tryz.prog 87 #[v] w (DsPost (val xs) w):=by
 obtain ⟨a1,d1,hv1,_⟩:=h1.slice
 obtain ⟨n1,hn1⟩:∃ n,xs.length=n:=⟨_,rfl⟩
 rw [hn1] at hv1
 subst hv1
 obtain ⟨i0,hi,hz0,hz1,hz2⟩:=info_parts info5b
 obtain ⟨A,hA⟩:∃ A,val xs=A:=⟨_,rfl⟩
 have hb0:=(Below.refl w.heap.size w).alloc (Nat.le_refl _) (.cells #[.slice a1 n1 d1] 150)
 have HF:=Lib.hid (fits_any [(.slice a1 n1 d1,xs)] w.heap.size 1 1 _ rfl (fit_one w _ xs h1 hs1 hm1) (by omega))
 have HT1:=Lib.hid fun W (hb:Below w.heap.size w W)=>Qbq xs _ W (h1.below hb) hs1
 have HB0:=Lib.hid hb0
 rw [hA] at HT1 hm1 ⊢
 have HSA:=Lib.hid hm1
 have hla:(limbs A).length≤1099511627776:=by unfold Sm at hm1;omega
 have HLA:=Lib.hid hla
 clear hA h1 hs1 hm1 hb0 hn1 hla
 go_enter Tryz.func87,Tryz.ntmps87
 go_wp2_with (first
  | (go_at_call 128;refine HF.out.mono ?_;rintro e w1 ⟨he,hb1⟩;subst he;have HB1:=Lib.hid (HB0.out.trans (hb1.mono HB0.out.size));clear hb1 HF)
  | (go_at_call 130;refine (HT1.out w1 HB1.out).mono ?_;rintro e w2 ⟨v2,he,hl2,hb2⟩;subst he;have HL2:=Lib.hid hl2;have HB2:=Lib.hid (HB1.out.trans (hb2.mono HB1.out.size));clear hb2 hl2 HT1)
  | (go_at_call 129;refine (clone_any (limbs A) _ w2 HL2.out HLA.out).mono ?_;rintro e w3 ⟨v3,he,hl3,hb3⟩;subst he;have HL3:=Lib.hid (hl3.at_ (Qay _));have HB3:=Lib.hid (HB2.out.trans (hb3.mono HB2.out.size));clear hl3 hb3))
 obtain ⟨q,hq⟩:∃ q,w.heap.size=q:=⟨_,rfl⟩
 have hI0:DoIn w w3 q A A v3 (.slice none 0 0) []:=⟨HL3.out,Nat.le_refl _,rfl,World.ownsRow_nil _ _ _ _,by rw [← hq];exact HB3.out⟩
 have HI0:=Lib.hid hI0
 have HQ:=Lib.hid hq
 clear hI0 hq HL2 HL3 HB3 HB1 HB0 HB2
 go_loopg [4,5] A (fun X s4 s5 wi=>∃ (o:List Int) (V4 V5:Value),V4=s4∧V5=s5∧Hid (DoIn w wi q A X V4 V5 o))
 case atStart=>exact ⟨[],_,_,rfl,rfl,HI0⟩
 case round =>
  clear HI0
  obtain ⟨o,V4,V5,rfl,rfl,HI⟩:=hrel
  obtain ⟨a4,c4,hv4,hc4⟩:=HI.out.1.slice
  obtain ⟨n4,hn4⟩:∃ n4,(limbs gk).length=n4:=⟨_,rfl⟩
  rw [hn4] at hv4
  subst hv4
  have HN4:=Lib.hid (show (limbs gk).length=n4∧n4≤4096 from ⟨hn4,by
   have h1:=sm_le HSA.out HI.out.2.1
   unfold Sm at h1
   omega⟩)
  clear hc4 hn4
  by_cases hX:gk=0
  · have hn0:n4=0:=by rw [← HN4.out.1,hX,limbs_zero];rfl
    have f1:¬ (0:Int)<(n4:Int):=by omega
    have ho:lowD A=o:=by have:=HI.out.2.2.1;rw [hX,lowD_zero,List.append_nil] at this;exact this
    have hol:=lowD_sm HSA.out
    rw [ho] at hol
    obtain ⟨a6,c6,hv6,hc6⟩:=HI.out.2.2.2.1.slice
    obtain ⟨l,hl⟩:∃ l,o.length=l:=⟨_,rfl⟩
    rw [hl] at hv6 hol
    subst hv6
    have hbw:Below w.heap.size w wr:=by rw [HQ.out];exact HI.out.2.2.2.2
    by_cases hl0:l=0
    · have hd:decS A=⟨#[48]⟩:=by
       unfold decS
       rw [if_pos]
       rcases Nat.eq_zero_or_pos A with h | h
       · exact h
       · rw [lowD_pos (by omega)] at ho
         rw [← ho] at hl
         simp at hl
         omega
      have HD:=Lib.hid (show decS A=⟨#[48]⟩∧Below w.heap.size w wr from ⟨hd,hbw⟩)
      have f2:((l:Int) == 0)=true:=by simp [hl0]
      clear hd hbw ho hl hol hc6
      subst hl0
      go_wp2
      exact bodyPost_ret (v:=.tuple #[.string ⟨#[48]⟩,.int .i64 0]) (by simp [results,Tryz.results87,go_sem]) rfl ⟨by rw [HD.out.1],HD.out.2⟩
    · have hd:decS A=strOfNums o.reverse:=by
       unfold decS
       rw [if_neg,ho]
       intro h
       rw [h,lowD_zero] at ho
       rw [← ho] at hl
       exact hl0 hl.symm
      obtain ⟨g6,e6,hg6⟩:=HI.out.2.2.2.1.block (by omega)
      subst e6
      have hown:=HI.out.2.2.2.1
      unfold BOwn at hown
      rw [hl] at hown
      have hrv:=rev_any o q g6 l c6 wr hl (by omega) hown
      have HRv:=Lib.hid hrv
      have HD:=Lib.hid (show decS A=strOfNums o.reverse∧Below w.heap.size w wr∧w.heap.size≤g6 from ⟨hd,hbw,by rw [HQ.out];exact hg6⟩)
      have f2:((l:Int) == 0)=false:=by simp;omega
      clear hd hbw ho hl hol hc6 hg6 hown hrv
      go_wp2_with (go_at_call 134;refine HRv.out.mono ?_;rintro e w8 ⟨he,hcv,hfr⟩;subst he;have HFr:=Lib.hid hfr;clear hfr)
      exact bodyPost_ret (v:=.tuple #[.string (strOfNums o.reverse),.int .i64 0]) (by simp [results,Tryz.results87,go_sem]) rfl ⟨by rw [HD.out.1],HD.out.2.1.trans (HFr.out.below HD.out.2.2 HD.out.2.1.size)⟩
  · have hn0:0<n4:=by
     rcases Nat.eq_zero_or_pos n4 with h | h
     · exact absurd (limbs_nil.1 (List.eq_nil_of_length_eq_zero (by rw [HN4.out.1];exact h))) hX
     · exact h
    have f1:(0:Int)<(n4:Int):=by omega
    obtain ⟨X', hX'⟩ : ∃ X', gk / 1000000000 = X' := ⟨_, rfl⟩
    obtain ⟨r,hr⟩:∃ r,gk % 1000000000=r:=⟨_,rfl⟩
    have hds:=divsmall_any (limbs gk) _ 1000000000 wr HI.out.1 (by have:=HN4.out;omega) (by rw [Qap];unfold Sm;have:=HN4.out;omega) (by omega) (by omega)
    rw [Qap] at hds
    have HDs:=Lib.hid hds
    have HR := Lib.hid (show gk / 1000000000 = X' ∧ gk % 1000000000 = r ∧ gk ≠ 0 ∧ X' ≤ A from ⟨hX', hr, hX, by have := HI.out.2.1; omega⟩)
    clear hds hX' hr hX
    go_wp2_with (go_at_call 133;refine HDs.out.mono ?_;rintro e w5 ⟨v5,he,hl5,hb5⟩;rw [HR.out.2.1] at he;rw [HR.out.1] at hl5;subst he;obtain ⟨a5,c5,hv5,hc5⟩:=hl5.slice;obtain ⟨n5,hn5⟩:∃ n5,(limbs X').length=n5:=⟨_,rfl⟩;rw [hn5] at hv5;subst hv5;have HL5:=Lib.hid hl5;have HB5:=Lib.hid hb5;have HN5:=Lib.hid hn5;clear hl5 hb5 hc5 hn5)
    have hJ0:DiIn w w5 q A X' 0 r (.slice a5 n5 c5) V5 o:=⟨HL5.out,by rw [← HR.out.2.1];exact Nat.mod_lt _ (by decide),by
     rw [HI.out.2.2.1]
     congr 2
     have:=Nat.mod_add_div gk 1000000000
     rw [HR.out.1,HR.out.2.1] at this
     exact this.symm,HI.out.2.2.2.1.below HB5.out,fr_next HI.out.2.2.2.2 HQ.out HB5.out⟩
    have HJ0:=Lib.hid hJ0
    clear hJ0 HI HDs HB5
    go_loopw [7,6,5] (fun s7 s6 s5 wi=>∃ (i r:Nat) (o:List Int) (V5:Value),i≤9∧s7=.int .i64 i∧s6=.int .u32 r∧V5=s5∧Hid (DiIn w wi q A X' i r (.slice a5 n5 c5) V5 o)) (fun s7 _ _ _=>9 - (intOf s7).toNat)
    case atStart=>exact ⟨0,r,o,_,by omega,rfl,rfl,rfl,HJ0⟩
    case round =>
     clear HJ0
     obtain ⟨i,r,o,V5,hi9,rfl,rfl,rfl,HI⟩:=hrel
     obtain ⟨l,hl⟩:∃ l,o.length=l:=⟨_,rfl⟩
     have hll:l≤1099511627776:=by
      have h1:=congrArg List.length HI.out.2.2.1
      rw [List.length_append] at h1
      have h2:=lowD_sm HSA.out
      omega
     have HLL:=Lib.hid (show o.length=l∧l≤1099511627776 from ⟨hl,hll⟩)
     clear hl hll
     obtain ⟨a6,c6,hv6,hc6⟩:=HI.out.2.2.2.1.slice
     rw [HLL.out.1] at hv6
     subst hv6
     clear hc6
     by_cases hi9':i<9
     · have f2:(i:Int)<9:=by omega
       have hrb:r<1000000000:=by
        have h1:=HI.out.2.1
        have h2:10 ^ (9 - i)≤10 ^ 9:=Nat.pow_le_pow_right (by decide) (by omega)
        omega
       by_cases hr0:r=0
       · subst hr0
         by_cases hX0:X'=0
         · have hn5:n5=0:=by rw [← HN5.out,hX0,limbs_zero];rfl
           have f3:¬ (0:Int)<(n5:Int):=by omega
           have HO:=Lib.hid (show DoIn w wr q A X' (.slice a5 n5 c5) (.slice a6 l c6) o from ⟨HI.out.1,by omega,by have:=HI.out.2.2.1;rw [hX0] at this ⊢;simpa using this,HI.out.2.2.2.1,HI.out.2.2.2.2⟩)
           clear hn5
           go_wp2
           go_roundg X'
           case measure=>have:=HR.out;omega
           case rel=>exact ⟨o,_,_,rfl,rfl,HO⟩
         · have hn5:0<n5:=by
            rcases Nat.eq_zero_or_pos n5 with h | h
            · exact absurd (limbs_nil.1 (List.eq_nil_of_length_eq_zero (by rw [HN5.out];exact h))) hX0
            · exact h
           have f3:(0:Int)<(n5:Int):=by omega
           have hne:(0:Nat) ≠ 0 ∨ X' ≠ 0:=.inr hX0
           have hst:=lowD_step (r:=0) (i:=i) (X:=X') hi9' hne
           have hrl:0 / 10<10 ^ (9 - (i+1)):=Nat.pow_pos (by decide)
           have HSt:=Lib.hid (show _∧_ from ⟨hst,hrl⟩)
           clear hst hrl hne
           go_wp2_with (at_builtin;refine wpList_append_own _ rfl _ _ 26 rfl q 5 i0 (.int .u8 0) 1 1 Tryz.underlying26 hi hz0 hz1 hz2 rfl (by omega) _ l (nums .u8 o) rfl (show (wr.alloc _).ownsRow q 5 1 _ l (nums .u8 o) from by have:=(BOwn.below HI.out.2.2.2.1 ((Below.refl _ wr).alloc (Nat.le_refl _) (.cells #[.int .u8 48] 5)));unfold BOwn at this;rw [HLL.out.1] at this;exact this) ⟨wr.heap.size,0,none⟩ 1 1 [.int .u8 48] rfl rfl (new_one wr _ 5) (fun u hu=>by rw [List.mem_singleton.1 hu];rfl) ?qc4 ?qc5 ?qc6 ?_)
           case qc4=>have:=HLL.out.2;unfold maxLen;omega
           case qc5=>have:=HLL.out.2;omega
           case qc6=>have:=HI.out.2.2.2.2.size;have:=HQ.out;simp;omega
           intro v7 w7 hown hgrow hnil
           have hI7:DiIn w w7 q A X' (i+1) 0 (.slice a5 n5 c5) v7 (o ++ [48]):=by
            obtain ⟨h1,h2,h3,h4,h5⟩:=HI.out
            have hb:=(Below.refl wr.heap.size wr).alloc (Nat.le_refl _) (.cells #[.int .u8 48] 5)
            refine ⟨?_,HSt.out.2,?_,?_,?_⟩
            · exact (h1.below hb).grown (h4.below hb) hgrow
            · rw [h3,HSt.out.1,List.append_assoc];rfl
            · unfold BOwn
              rw [List.length_append,HLL.out.1]
              have:nums .u8 (o ++ [48])=nums .u8 o ++ [.int .u8 48]:=by simp [nums]
              rw [this]
              exact hown
            · exact (fr_next h5 HQ.out hb).grown hgrow (by have:=h5.size;have:=HQ.out;simp;omega) (fun k hk=>BOwn.ge h4 k hk)
           have HI7:=Lib.hid hI7
           clear hI7 hown hgrow hnil
           go_wp2
           go_roundw
           case rel=>exact ⟨i+1,0,_,v7,by omega,by go_num,rfl,rfl,HI7⟩
           case measure=>(simp [intOf] <;> omega)
       · have hne:r ≠ 0 ∨ X' ≠ 0:=.inl hr0
         have f3:(0:Int)<(r:Int):=by omega
         obtain ⟨d,hd⟩:∃ d,r % 10=d:=⟨_,rfl⟩
         obtain ⟨r', hr'⟩ : ∃ r', r / 10 = r' := ⟨_, rfl⟩
         have e1:(r:Int) % 10=(d:Int):=by omega
         have e2:(r:Int) / 10=(r':Int):=by omega
         have e3:IntKind.u32.wrap (48+(d:Int))=48+(d:Int):=by rw [IntKind.wrap_u32];omega
         have e4:IntKind.u8.wrap (48+(d:Int))=48+(d:Int):=by rw [IntKind.wrap_u8];omega
         have hst:=lowD_step (r:=r) (i:=i) (X:=X') hi9' hne
         rw [hd,hr'] at hst
         have hrl:r'<10 ^ (9 - (i+1)):=by
          have h1:=HI.out.2.1
          rw [show 9 - i=(9 - (i+1))+1 by omega,Nat.pow_succ] at h1
          rw [← hr', Nat.div_lt_iff_lt_mul (by decide)]
          exact h1
         have HSt:=Lib.hid (show _∧_ from ⟨hst,hrl⟩)
         clear hst hrl hd hr' hne
         go_wp2_with (at_builtin;refine wpList_append_own _ rfl _ _ 26 rfl q 5 i0 (.int .u8 0) 1 1 Tryz.underlying26 hi hz0 hz1 hz2 rfl (by omega) _ l (nums .u8 o) rfl (show (wr.alloc _).ownsRow q 5 1 _ l (nums .u8 o) from by have:=(BOwn.below HI.out.2.2.2.1 ((Below.refl _ wr).alloc (Nat.le_refl _) (.cells #[.int .u8 (48+(d:Int))] 5)));unfold BOwn at this;rw [HLL.out.1] at this;exact this) ⟨wr.heap.size,0,none⟩ 1 1 [.int .u8 (48+(d:Int))] rfl rfl (new_one wr _ 5) (fun u hu=>by rw [List.mem_singleton.1 hu];rfl) ?qc4 ?qc5 ?qc6 ?_)
         case qc4=>have:=HLL.out.2;unfold maxLen;omega
         case qc5=>have:=HLL.out.2;omega
         case qc6=>have:=HI.out.2.2.2.2.size;have:=HQ.out;simp;omega
         intro v7 w7 hown hgrow hnil
         have hI7:DiIn w w7 q A X' (i+1) r' (.slice a5 n5 c5) v7 (o ++ [48+(d:Int)]):=by
          obtain ⟨h1,h2,h3,h4,h5⟩:=HI.out
          have hb:=(Below.refl wr.heap.size wr).alloc (Nat.le_refl _) (.cells #[.int .u8 (48+(d:Int))] 5)
          refine ⟨?_,HSt.out.2,?_,?_,?_⟩
          · exact (h1.below hb).grown (h4.below hb) hgrow
          · rw [h3,HSt.out.1,List.append_assoc];rfl
          · unfold BOwn
            rw [List.length_append,HLL.out.1]
            have:nums .u8 (o ++ [48+(d:Int)])=nums .u8 o ++ [.int .u8 (48+(d:Int))]:=by simp [nums]
            rw [this]
            exact hown
          · exact (fr_next h5 HQ.out hb).grown hgrow (by have:=h5.size;have:=HQ.out;simp;omega) (fun k hk=>BOwn.ge h4 k hk)
         have HI7:=Lib.hid hI7
         clear hI7 hown hgrow hnil
         go_wp2
         go_roundw
         case rel => exact ⟨i + 1, r', _, v7, by omega, by go_num, rfl, rfl, HI7⟩
         case measure=>(simp [intOf] <;> omega)
     · obtain rfl:i=9:=by omega
       have hr0:r=0:=by have:=HI.out.2.1;omega
       have f2:¬ ((9:Nat):Int)<9:=by omega
       have HO:=Lib.hid (show DoIn w wr q A X' (.slice a5 n5 c5) (.slice a6 l c6) o from ⟨HI.out.1,HR.out.2.2.2,by have:=HI.out.2.2.1;rw [hr0] at this;simpa using this,HI.out.2.2.2.1,HI.out.2.2.2.2⟩)
       clear hr0
       go_wp2
       go_roundg X'
       case measure=>have:=HR.out;omega
       case rel=>exact ⟨o,_,_,rfl,rfl,HO⟩
end Go.Proofs.YtfmceonbejlhlaaGreatDoor
