import Derived.Deep.DeepCutAuto
import Derived.Deep.LoopGhost
import Derived.Test.YtfmceonbejlhlaaGreatDoorMWs26
namespace Go.Proofs.YtfmceonbejlhlaaGreatDoor
open Go.RowKit Go.Proofs.YtfmceonbejlhlaaGreatDoorW.PrintWords Go.Proofs.YtfmceonbejlhlaaGreatDoorW.PrintLast Go.Proofs.YtfmceonbejlhlaaGreatDoorW.PrintMore
set_option linter.unusedVariables false
theorem Boxed.wrote {W w1:World} {base g n:Nat} {v v':Value} {xs:List Int} (hrow:W.ownsRow base 5 1 v n (xs.map (Value.int .u8))) (hb:base≤W.heap.size) (hg:base≤g) (hgrow:W.grownBy w1 v.ownBlock):Wrote base g W (w1.setCell ⟨g,0,none⟩ v'):=by
 refine ⟨((Below.refl base W).grown hgrow hb fun j ej => Qb5 hrow j ej).setCell (p := ⟨g, 0, none⟩) hg v', fun k cs t fr h ht hp => ?_⟩
 have h1:w1.heap[k]? = some (.cells cs t fr):=by
  refine (hgrow.block k (Array.getElem?_eq_some_iff.1 h).1 fun e=>?_).trans h
  obtain ⟨cells,hc⟩:=Qba hrow k e.symm
  rw [h] at hc
  injection hc with hc
  injection hc with _ hc
  exact ht hc
 exact (Below.heap_setCell w1 _ _ k (fun e=>hp e)).trans h1
theorem ownsRow_any {W:World} {base n:Nat} {v:Value} {xs:List Value} (h:W.ownsRow base 5 1 v n xs):∃ a c,v=.slice a n c:=by
 rcases h.2 with ⟨hv,hx⟩ | ⟨g,cap,cur,hv,h1⟩
 · exact ⟨none,0,by rw [hv,hx]⟩
 · exact ⟨_,_,hv⟩
def BpPost (base g:Nat) (xs:List Int) (w:World) (e:Ending) (w':World):Prop:=e=.returned (.tuple #[])∧OutIs w' base g xs∧Wrote base g w w'
set_option maxHeartbeats 4000000 in
set_option maxRecDepth 100000 in
theorem bput_any (L:ByteArray) (c:Nat) (hc:c<L.size) (base g al:Nat) (xs:List Int) (b f:Value) (w:World) (hb:base≤w.heap.size) (ho:OutIs w base g xs) (hA:Row3 w al 158 (.string L) b f) (hl:xs.length≤70368744177664) :
 Calls Tryz.prog 90 #[.int .i64 c,.pointer (some ⟨g,0,none⟩),.pointer (some ⟨al,0,none⟩)] w (BpPost base g (xs ++ [(L[c].toNat:Int)]) w):=by
 obtain ⟨v,hv,hrow,hg⟩:=ho
 obtain ⟨n,hn⟩:∃ n,n=xs.length:=⟨_,rfl⟩
 rw [← hn] at hrow
 obtain ⟨a,cap,rfl⟩:=ownsRow_any hrow
 obtain ⟨i0,hi,hz0,hz1,hz2⟩:=info_parts info5
 obtain ⟨x,hx⟩:∃ x,L[c].toNat=x:=⟨_,rfl⟩
 rw [hx]
 have hnl:n≤70368744177664:=by omega
 have hrE:((w.alloc (.cells #[.int .u8 (x:Int)] 5)).drew).ownsRow base 5 1 (.slice a n cap) n (xs.map (Value.int .u8)):=(hrow.alloc _).drew
 have hne:∀ j u,(List.map (Value.int .u8) [(x:Int)])[j]? = some u→((w.alloc (.cells #[.int .u8 (x:Int)] 5)).drew).cell? ((⟨w.heap.size,0,none⟩:Addr).add j)=some u:=World.news_of_block (heap_alloc_new w _)
 have hbE:base≤((w.alloc (.cells #[.int .u8 (x:Int)] 5)).drew).heap.size:=Nat.le_trans hb (by simp)
 have HR:=Lib.hid hrE
 have HN:=Lib.hid hne
 have HB:=Lib.hid hbE
 have hc0:=hv.cell
 have hcF:∀ ob,(w.alloc ob).cell? ⟨g,0,none⟩=some (.slice a n cap):=fun ob=>(hv.alloc ob).cell
 have ha0:=hA.c0
 have haF:∀ ob,(w.alloc ob).cell? ⟨al,0,none⟩=some (.string L):=fun ob=>(hA.alloc ob).c0
 clear hrE hne hbE hn hl
 go_enter Tryz.func90,Tryz.ntmps90
 go_wp2_with fail
 go_region_law (refine step_append_lies _ rfl (.tmp 4) (.tmp 9) 26 rfl base 5 i0 (.int .u8 0) 1 1 Tryz.underlying26 hi hz0 hz1 hz2 rfl (by decide) (.slice a n cap) n (xs.map (Value.int .u8)) (by simp [Act.eval]) HR.out ⟨w.heap.size,0,none⟩ 1 1 (List.map (Value.int .u8) [(x:Int)]) (by simp [Act.eval]) rfl HN.out (one_u8q _) (by decide) (by unfold maxLen;omega) (by omega) HB.out _ rfl ?_;intro g2 cap2 w2 hown2 hgrow2 _ _;obtain ⟨hva,hvb,hrb,hbb⟩:=OutIs.appended (W:=w.drew) (ys:=[(x:Int)]) hv hrow.drew hb hg (by rw [List.map_append];exact hown2) hgrow2;have hca:=hva.cell;have hfa:=hva.frozen)
 all_goals
  go_end0
  refine ⟨rfl,OutIs.of hvb hrb hg,?_⟩
  exact ((Wrote.refl base g w).alloc hb _).drew.trans (Boxed.wrote HR.out HB.out hg hgrow2)
theorem bput_ch (L:ByteArray) (hLa:Asc L) (c:Nat) (hc:c<L.size):∃ ch:Int,(0≤ch∧ch<128)∧∀ (base g al:Nat) (xs:List Int) (b f:Value) (w:World),base≤w.heap.size→OutIs w base g xs→Row3 w al 158 (.string L) b f→xs.length≤70368744177664 →
 Calls Tryz.prog 90 #[.int .i64 c,.pointer (some ⟨g,0,none⟩),.pointer (some ⟨al,0,none⟩)] w (BpPost base g (xs ++ [ch]) w):=by
 refine ⟨(L[c].toNat:Int),?_,fun base g al xs b f w h1 h2 h3 h4=>bput_any L c hc base g al xs b f w h1 h2 h3 h4⟩
 have:=hLa L[c] (by rw [show L[c]=L.data[c]'hc from rfl];simp)
 omega
def putFn (g al:Nat):Value:=.func (.func 90) #[] #[.pointer (some ⟨g,0,none⟩),.pointer (some ⟨al,0,none⟩)]
def Bst (W:World) (base g al xb fb nb tb pb:Nat) (L:ByteArray) (b x n:Nat) (xs:List Int):Prop :=
 OutIs W base g xs∧Row3 W al 158 (.string L) (.int .i64 b) (.int .i64 1)∧Boxed W xb 3 (.int .i64 x)∧Boxed W fb 3 (.int .i64 8)∧Boxed W nb 3 (.int .i64 n)∧Boxed W tb 3 (.int .i64 b)∧Boxed W pb 162 (putFn g al)
def Bap (g al xb fb nb tb pb:Nat):Prop:=xb ≠ g∧fb ≠ g∧nb ≠ g∧tb ≠ g∧pb ≠ g∧al ≠ g∧xb ≠ nb∧xb ≠ fb∧xb ≠ tb∧xb ≠ pb∧xb ≠ al∧nb ≠ fb∧nb ≠ tb∧nb ≠ pb∧nb ≠ al
def AscL (xs:List Int):Prop:=∀ d ∈ xs,0≤d∧d<128
theorem boxed_far {W:World} {k g j:Nat} {t:TypeId} {v u:Value} (h:Boxed W k t v) (hk:k ≠ g):Boxed (W.setCell ⟨g,j,none⟩ u) k t v:=(Below.heap_setCell W ⟨g,j,none⟩ u k hk).trans h
theorem Row3.far {W:World} {k g j:Nat} {t:TypeId} {a b c u:Value} (h:Row3 W k t a b c) (hk:k ≠ g):Row3 (W.setCell ⟨g,j,none⟩ u) k t a b c:=(Below.heap_setCell W ⟨g,j,none⟩ u k hk).trans h
theorem OutIs.far {W:World} {base g k j:Nat} {t:TypeId} {v u:Value} {xs:List Int} (h:OutIs W base g xs) (hk:Boxed W k t v) (ht:t ≠ 5) (hg:k ≠ g):OutIs (W.setCell ⟨k,j,none⟩ u) base g xs:=by
 obtain ⟨v', hv, hrow, hb⟩ := h
 exact ⟨v', boxed_far hv (Ne.symm hg), Qbl hrow (fun i hi => Below.heap_setCell _ _ _ i (fun e => hk.not_row ht hrow (by rw [hi, e]))), hb⟩
theorem OutIs.drew {W:World} {base g:Nat} {xs:List Int} (h:OutIs W base g xs):OutIs W.drew base g xs:=by
 obtain ⟨v', hv, hrow, hb⟩ := h
 exact ⟨v', hv, hrow.drew, hb⟩
section
variable {W:World} {base g al xb fb nb tb pb:Nat} {L:ByteArray} {b x n:Nat} {xs:List Int} (h:Bst W base g al xb fb nb tb pb L b x n xs) (hap:Bap g al xb fb nb tb pb)
include h
theorem Bst.drew:Bst W.drew base g al xb fb nb tb pb L b x n xs:=⟨h.1.drew,h.2⟩
include hap
theorem Bst.setx (x':Nat):Bst (W.setCell ⟨xb,0,none⟩ (.int .i64 (x':Int))) base g al xb fb nb tb pb L b x' n xs:=by
 obtain ⟨h1,h2,h3,h4,h5,h6,h7⟩:=h
 obtain ⟨a1,a2,a3,a4,a5,a6,a7,a8,a9,a10,a11,a12,a13,a14,a15⟩:=hap
 exact ⟨h1.far h3 (by decide) a1,h2.far (Ne.symm a11),h3.set _,boxed_far h4 (Ne.symm a8),boxed_far h5 (Ne.symm a7),boxed_far h6 (Ne.symm a9),boxed_far h7 (Ne.symm a10)⟩
theorem Bst.setn (n':Nat):Bst (W.setCell ⟨nb,0,none⟩ (.int .i64 (n':Int))) base g al xb fb nb tb pb L b x n' xs:=by
 obtain ⟨h1,h2,h3,h4,h5,h6,h7⟩:=h
 obtain ⟨a1,a2,a3,a4,a5,a6,a7,a8,a9,a10,a11,a12,a13,a14,a15⟩:=hap
 exact ⟨h1.far h5 (by decide) a3,h2.far (Ne.symm a15),boxed_far h3 a7,boxed_far h4 (Ne.symm a12),h5.set _,boxed_far h6 (Ne.symm a13),boxed_far h7 (Ne.symm a14)⟩
end
theorem Bst.put {W W':World} {base g al xb fb nb tb pb:Nat} {L:ByteArray} {b x n:Nat} {xs ys:List Int} (h:Bst W base g al xb fb nb tb pb L b x n xs) (hap:Bap g al xb fb nb tb pb) (ho:OutIs W' base g ys) (hw:Wrote base g W W'):Bst W' base g al xb fb nb tb pb L b x n ys:=by
 obtain ⟨h1,h2,h3,h4,h5,h6,h7⟩:=h
 obtain ⟨a1,a2,a3,a4,a5,a6,_⟩:=hap
 exact ⟨ho,hw.cell h2 (by decide) a6,hw.cell h3 (by decide) a1,hw.cell h4 (by decide) a2,hw.cell h5 (by decide) a3,hw.cell h6 (by decide) a4,hw.cell h7 (by decide) a5⟩
def BaPost (base g al xb fb nb tb pb:Nat) (L:ByteArray) (b:Nat) (xs:List Int) (w:World) (e:Ending) (w':World):Prop:=e=.returned (.tuple #[])∧∃ x n ds,x<2 ^ n∧n<b∧AscL ds∧ds.length≤2∧Bst w' base g al xb fb nb tb pb L b x n (xs ++ ds)∧Below base w w'
set_option maxHeartbeats 4000000 in
set_option maxRecDepth 100000 in
theorem badd_any (L:ByteArray) (b:Nat) (hL:L.size=2 ^ b) (hLa:Asc L) (hb4:b=4 ∨ b=6) (v x n:Nat) (hv:v<256) (hx:x<2 ^ n) (hn:n<b) (base g al xb fb nb tb pb:Nat) (xs:List Int) (w:World) (hb:base≤w.heap.size)
 (hS:Bst w base g al xb fb nb tb pb L b x n xs) (hap:Bap g al xb fb nb tb pb) (hbs:base≤xb∧base≤nb) (hl:xs.length≤70368744170000) :
 Calls Tryz.prog 136 #[.int .i64 v,.pointer (some ⟨xb,0,none⟩),.pointer (some ⟨fb,0,none⟩),.pointer (some ⟨nb,0,none⟩),.pointer (some ⟨tb,0,none⟩),.pointer (some ⟨pb,0,none⟩)] w (BaPost base g al xb fb nb tb pb L b xs w):=by
 have HS:=Lib.hid hS
 have c1:=hS.2.2.1.cell
 have c2:=hS.2.2.2.1.cell
 have c3:=hS.2.2.2.2.1.cell
 have c4:=hS.2.2.2.2.2.1.cell
 have c5:=hS.2.2.2.2.2.2.cell
 have z1:=hS.2.2.1.frozen
 have z3:=hS.2.2.2.2.1.frozen
 have HAp:=Lib.hid hap
 clear hap
 obtain ⟨X2,hX2⟩:∃ X2,x*256=X2:=⟨_,rfl⟩
 obtain ⟨y,hy⟩:∃ y,X2+v=y:=⟨_,rfl⟩
 obtain ⟨m,hm⟩:∃ m,n+8=m:=⟨_,rfl⟩
 have hx64:x<64:=Nat.lt_of_lt_of_le hx (by have:2 ^ n≤2 ^ 6:=Nat.pow_le_pow_right (by decide) (by omega);omega)
 have hy2:y<2 ^ m:=by
  rw [← hm,Nat.pow_add,← hy,← hX2]
  omega
 have e1:IntKind.i64.wrap ((x:Int)*256)=(X2:Int):=by rw [IntKind.wrap_i64];omega
 have e2:Go.bits .or .i64 (X2:Int) (v:Int)=(y:Int):=by
  have:=bits_join .i64 63 (by decide) (fun n h0 h1=>by rw [IntKind.wrap_i64];omega) 8 (X2:Int) (v:Int) (by omega) (by omega) (by omega) (by omega) (by omega) (by omega)
  omega
 have e3:IntKind.i64.wrap ((n:Int)+8)=(m:Int):=by rw [IntKind.wrap_i64];omega
 have HY:=Lib.hid (show y<2 ^ m∧m<b+8∧n+8=m from ⟨hy2,by omega,hm⟩)
 clear hS hX2 hy hm hy2
 have a7:xb ≠ nb:=HAp.out.2.2.2.2.2.2.1
 have a7':nb ≠ xb:=Ne.symm a7
 have a8:xb ≠ fb:=HAp.out.2.2.2.2.2.2.2.1
 have a12:nb ≠ fb:=HAp.out.2.2.2.2.2.2.2.2.2.2.2.1
 have mixed:Tryz.prog.follows .mixedOrders=true:=by kernel_rfl
 have hS1:=((HS.out.setx HAp.out y).setn HAp.out m).drew
 have hB1:Below base w (((w.setCell ⟨xb,0,none⟩ (.int .i64 (y:Int))).setCell ⟨nb,0,none⟩ (.int .i64 (m:Int))).drew):=(((Below.refl base w).setCell (p:=⟨xb,0,none⟩) hbs.1 _).setCell (p:=⟨nb,0,none⟩) hbs.2 _).drew
 have HS1:=Lib.hid hS1
 have HB1:=Lib.hid hB1
 clear hS1 hB1
 go_enter Tryz.func136,Tryz.ntmps136
 go_upto_region 0 with fail
 go_cut [7] (fun sv wx=>Hid (Bst wx base g al xb fb nb tb pb L b y m xs)∧Hid (Below base w wx))
 case first =>
  go_big_region_o
  go_wp2_with fail
  go_meet
  exact ⟨HS1,HB1⟩
 case rest =>
  obtain ⟨HS2,HB2⟩:=hcut
  clear a7 a7' a8 a12 c1 c2 c3 c4 c5 z1 z3 e1 e2 e3 HS1 HB1 mixed
  go_wp2_with fail
  go_loopg [15] m (fun k sv wi=>∃ (x':Nat) (ds:List Int),Hid (x'<2 ^ k∧ds.length*b+k=m∧AscL ds)∧Hid (Bst wi base g al xb fb nb tb pb L b x' k (xs ++ ds))∧Hid (Below base w wi))
  case atStart=>exact ⟨y,[],⟨HY.out.1,by simp,fun d hd=>by simp at hd⟩,by rw [List.append_nil];exact HS2,HB2⟩
  case round =>
   clear HS2 HB2
   obtain ⟨x', ds, HX, HS2, HB2⟩ := hrel
   have c3:=HS2.out.2.2.2.2.1.cell
   have c4:=HS2.out.2.2.2.2.2.1.cell
   by_cases hge:b≤gk
   · have f1:(b:Int)≤(gk:Int):=by omega
     obtain ⟨r,hr⟩:∃ r,gk - b=r:=⟨_,rfl⟩
     have e1:IntKind.i64.wrap ((gk:Int) - (b:Int))=(r:Int):=by
      have:=HY.out
      have h2:=HX.out.2.1
      have h3:gk≤m:=by omega
      rw [IntKind.wrap_i64];omega
     have z3:=HS2.out.2.2.2.2.1.frozen
     have HS3:=Lib.hid (HS2.out.setn HAp.out r)
     have HB3:=Lib.hid (HB2.out.setCell (p:=⟨nb,0,none⟩) hbs.2 (.int .i64 (r:Int)))
     go_wp2_with fail
     clear c3 c4 z3
     generalize wr.setCell ⟨nb,0,none⟩ (.int .i64 (r:Int))=W3 at HS3 HB3 ⊢
     have hm13:m≤13:=by have:=HY.out;omega
     have hgk:gk≤13:=by have h2:=HX.out.2.1;omega
     obtain ⟨c,hc⟩:∃ c,x' / 2 ^ r=c:=⟨_,rfl⟩
     have hcL:c<L.size:=by
      rw [hL,← hc]
      refine Nat.div_lt_of_lt_mul ?_
      rw [← Nat.pow_add,show r+b=gk by omega]
      exact HX.out.1
     have e2:(x':Int) / 2 ^ r=(c:Int):=by
      have e3:((2:Int) ^ r)=((2 ^ r:Nat):Int):=by rw [Int.natCast_pow];rfl
      rw [e3,← Int.natCast_ediv,hc]
     have d1:=HS3.out.2.2.1.cell
     have d3:=HS3.out.2.2.2.2.1.cell
     have d5:=HS3.out.2.2.2.2.2.2.cell
     have hdl:ds.length≤13:=by
      have h2:=HX.out.2.1
      have:ds.length*1≤ds.length*b:=Nat.mul_le_mul_left _ (by omega)
      omega
     obtain ⟨ch,hch,hput⟩:=bput_ch L hLa c hcL
     have HP:=Lib.hid fun (W:World) (h:Bst W base g al xb fb nb tb pb L b x' r (xs ++ ds)) (hW:base≤W.heap.size)=>hput base g al (xs ++ ds) (.int .i64 b) (.int .i64 1) W hW h.1 h.2.1 (by rw [List.length_append];omega)
     have HBW:=Lib.hid (Nat.le_trans hb HB3.out.size)
     have HC:=Lib.hid (show x' / 2 ^ r=c∧ds.length≤13 from ⟨hc,hdl⟩)
     unfold putFn at d5
     clear hc hcL hdl hput
     go_cut [21] (fun sv wx=>Hid (Bst wx base g al xb fb nb tb pb L b x' r (xs ++ (ds ++ [ch])))∧Hid (Below base w wx))
     case first =>
      go_region_with ((go_at_call 90;refine (HP.out _ HS3.out.drew HBW.out).mono ?_;rintro ee w4 ⟨he,ho4,hw4⟩;subst he;have HS4:=Lib.hid (HS3.out.drew.put HAp.out ho4 hw4);have HB4:=Lib.hid (HB3.out.drew.trans hw4.1);clear ho4 hw4))
      all_goals
       go_wp2_with fail
       go_meet
       exact ⟨by rw [← List.append_assoc];exact HS4.out,HB4.out⟩
     case rest =>
      clear HP d1 d3 d5 e2 HS3 HB3
      obtain ⟨HS4,HB4⟩:=hcut
      obtain ⟨p2,hp2⟩:∃ p2,2 ^ r=p2:=⟨_,rfl⟩
      obtain ⟨x2,hx2⟩:∃ x2,x' % p2=x2:=⟨_,rfl⟩
      have hrr:r≤13:=by omega
      have hp3:1≤p2∧p2≤8192:=by
       rw [← hp2]
       refine ⟨Nat.two_pow_pos r,?_⟩
       exact Nat.le_trans (Nat.pow_le_pow_right (by decide) hrr) (by decide)
      have e3:((2:Int) ^ r)=(p2:Int):=by rw [← hp2,Int.natCast_pow];rfl
      have s1:IntKind.i64.wrap ((2:Int) ^ r)=(p2:Int):=by rw [e3,IntKind.wrap_i64];omega
      have s2:IntKind.i64.wrap ((p2:Int) - 1)=(p2:Int) - 1:=by rw [IntKind.wrap_i64];omega
      have hxg:x'<8192:=Nat.lt_of_lt_of_le HX.out.1 (Nat.le_trans (Nat.pow_le_pow_right (by decide) hgk) (by decide))
      have s3:Go.bits .and .i64 (x':Int) ((p2:Int) - 1)=(x2:Int):=by
       have:=i64_mask r (by omega) (b:=(x':Int)) (by omega) (by omega)
       rw [e3] at this
       rw [this]
       omega
      have HX2:=Lib.hid (show x2<2 ^ r from by rw [← hx2,hp2];exact Nat.mod_lt _ (by omega))
      have hr64:(r:Int)<64:=by omega
      have d1:=HS4.out.2.2.1.cell
      have d3:=HS4.out.2.2.2.2.1.cell
      have f1:=HS4.out.2.2.1.frozen
      have mixed:Tryz.prog.follows .mixedOrders=true:=by kernel_rfl
      clear hp2 hx2 hp3 e3 hxg
      go_wp2_with fail
      go_big_region_o
      have HS5:=Lib.hid ((HS4.out.setx HAp.out x2).drew)
      have HB5:=Lib.hid ((HB4.out.setCell (p:=⟨xb,0,none⟩) hbs.1 (.int .i64 (x2:Int))).drew)
      have HDs:=Lib.hid (show (ds ++ [ch]).length*b+r=m∧AscL (ds ++ [ch]) from ⟨by
       have h2:=HX.out.2.1
       rw [List.length_append]
       show (ds.length+1)*b+r=m
       rw [Nat.succ_mul]
       omega,fun d hd=>by
       rcases List.mem_append.1 hd with h | h
       · exact HX.out.2.2 d h
       · rw [List.mem_singleton.1 h];exact hch⟩)
      clear d1 d3 f1 s1 s2 s3
      go_wp2
      go_roundg r
      case measure=>omega
      case rel=>exact ⟨x2,ds ++ [ch],⟨HX2.out,HDs.out.1,HDs.out.2⟩,HS5,HB5⟩
   · have f1:¬ (b:Int)≤(gk:Int):=by omega
     have hlen:ds.length≤2:=by
      have h2:=HX.out.2.1
      have h3:=HY.out
      rcases hb4 with rfl | rfl
      · omega
      · omega
     go_wp2
     go_end0
     exact ⟨rfl, x', gk, ds, HX.out.1, by omega, HX.out.2.2, hlen, HS2.out, HB2.out⟩
open Go.RowKit Go.Proofs.YtfmceonbejlhlaaGreatDoorW.PrintWords Go.Proofs.YtfmceonbejlhlaaGreatDoorW.PrintLast Go.Proofs.YtfmceonbejlhlaaGreatDoorW.PrintMore
set_option linter.unusedVariables false
set_option maxHeartbeats 1000000 in
set_option maxRecDepth 100000 in
theorem bleft_any (x n:Nat) (xb nb:Nat) (w:World) (h1:Boxed w xb 3 (.int .i64 x)) (h2:Boxed w nb 3 (.int .i64 n)):Calls Tryz.prog 137 #[.pointer (some ⟨xb,0,none⟩),.pointer (some ⟨nb,0,none⟩)] w (fun e w'=>e=.returned (.tuple #[.int .i64 x,.int .i64 n])∧∃ k,w'=w.drewN k):=by
 have c1:=h1.cell
 have c2:=h2.cell
 clear h1 h2
 go_enter Tryz.func137,Tryz.ntmps137
 go_wp2_with fail
 go_quiet (fail)
 go_wp2
 exact bodyPost_ret (v:=.tuple #[.int .i64 x,.int .i64 n]) (by simp [results,Tryz.results137,go_sem]) rfl ⟨rfl,nq,rfl⟩
theorem Bst.drewN {W:World} {base g al xb fb nb tb pb:Nat} {L:ByteArray} {b x n:Nat} {xs:List Int} (h:Bst W base g al xb fb nb tb pb L b x n xs) (k:Nat):Bst (W.drewN k) base g al xb fb nb tb pb L b x n xs:=by
 obtain ⟨⟨v,h1,h2,h3⟩,h4⟩:=h
 exact ⟨⟨v,h1,⟨h2.1,h2.2⟩,h3⟩,h4⟩
def BePost (m:Nat) (w:World) (e:Ending) (w':World):Prop:=∃ t:ByteArray,e=.returned (.tuple #[.string t,.int .i64 0])∧Asc t∧t.size≤m∧Below w.heap.size w w'
set_option maxRecDepth 100000 in
theorem ascL_str {xs:List Int} (h:AscL xs):Asc (strOfNums xs):=by
 intro c hc
 rw [strOfNums_data] at hc
 obtain ⟨x,hx,rfl⟩:=List.mem_map.1 hc
 have:=h x hx
 rw [UInt8.toNat_ofNat']
 omega
set_option maxRecDepth 100000 in
theorem conv_any {W:World} {base n:Nat} {a:Option Addr} {c:Nat} {xs:List Int} (h:W.ownsRow base 5 1 (.slice a n c) n (xs.map (Value.int .u8))):(convert 26 9 (.slice a n c)).run Tryz.prog W=.ok (.string (strOfNums xs)) W:=by
 rcases h.2 with ⟨hv,hx⟩ | ⟨g,cap,cur,hv,h1⟩
 · injection hv with e1 e2 e3
   subst e1 e2 e3
   have hl:=ownsRow_len h
   have:xs=[]:=List.eq_nil_of_length_eq_zero hl.symm
   subst this
   exact run_convert_bytes_nil W 26 5 Tryz.underlying26 Tryz.underlying5 _ _ 9 Tryz.underlying9
 · injection hv with e1 e2 e3
   subst e1 e3
   exact conv_own h
def W7 (w2:World) (c b al:Nat):World :=
 ((((((w2.alloc (.cells (madeCells #[Value.int .u8 0] c) 5)).alloc (.cells #[.slice (some ⟨w2.heap.size,0,none⟩) 0 c] 26)).alloc (.cells #[.int .i64 8] 3)).alloc (.cells #[.int .i64 (b:Int)] 3)).alloc (.cells #[putFn (w2.heap.size+1) al] 162)).alloc (.cells #[.int .i64 0] 3)).alloc (.cells #[.int .i64 0] 3)
theorem Qcd (w:World) (o:Obj):(w.alloc o).heap.size=w.heap.size+1:=by simp
theorem W7.below (w2:World) (c b al:Nat):Below w2.heap.size w2 (W7 w2 c b al):=by
 unfold W7
 refine Below.alloc (Below.alloc (Below.alloc (Below.alloc (Below.alloc (Below.alloc (Below.alloc (Below.refl _ _) (Nat.le_refl _) _) ?_ _) ?_ _) ?_ _) ?_ _) ?_ _) ?_ _
 all_goals simp only [Qcd];omega
theorem W7.bst (w2:World) (c b al base:Nat) (L:ByteArray) (hc:c≤3000000) (hb:base≤w2.heap.size) (hR:Row3 w2 al 158 (.string L) (.int .i64 b) (.int .i64 1)) :
 Bst (W7 w2 c b al) base (w2.heap.size+1) al (w2.heap.size+1+1+1+1+1) (w2.heap.size+1+1) (w2.heap.size+1+1+1+1+1+1) (w2.heap.size+1+1+1) (w2.heap.size+1+1+1+1) L b 0 0 []:=by
 have hal:=hR.lt
 unfold W7
 refine ⟨⟨.slice (some ⟨w2.heap.size,0,none⟩) 0 c,?_,?_,by omega⟩,((((((hR.alloc _).alloc _).alloc _).alloc _).alloc _).alloc _).alloc _,?_,?_,?_,?_,?_⟩
 · have:=(((((Boxed.new (w2.alloc (.cells (madeCells #[Value.int .u8 0] c) 5)) 26 (.slice (some ⟨w2.heap.size,0,none⟩) 0 c)).alloc (.cells #[.int .i64 8] 3)).alloc (.cells #[.int .i64 (b:Int)] 3)).alloc (.cells #[putFn (w2.heap.size+1) al] 162)).alloc (.cells #[.int .i64 0] 3)).alloc (.cells #[.int .i64 0] 3)
   rwa [Qcd] at this
 · have h0:(w2.alloc (.cells (madeCells #[Value.int .u8 0] c) 5)).ownsRow base 5 1 (.slice (some ⟨w2.heap.size,0,none⟩) 0 c) 0 (([]:List Int).map (Value.int .u8)) :=
    ⟨rfl,.inr ⟨w2.heap.size,c,madeCells #[Value.int .u8 0] c,rfl,hb,heap_alloc_new _ _,Nat.zero_le _,by unfold maxLen;omega,by rw [Nat.mul_one];exact size_madeCells _ _,by simp⟩⟩
   exact (((((h0.alloc _).alloc _).alloc _).alloc _).alloc _).alloc _
 · have:=(Boxed.new (((((w2.alloc (.cells (madeCells #[Value.int .u8 0] c) 5)).alloc (.cells #[.slice (some ⟨w2.heap.size,0,none⟩) 0 c] 26)).alloc (.cells #[.int .i64 8] 3)).alloc (.cells #[.int .i64 (b:Int)] 3)).alloc (.cells #[putFn (w2.heap.size+1) al] 162)) 3 (.int .i64 0)).alloc (.cells #[.int .i64 0] 3)
   simp only [Qcd] at this
   exact this
 · have:=((((Boxed.new ((w2.alloc (.cells (madeCells #[Value.int .u8 0] c) 5)).alloc (.cells #[.slice (some ⟨w2.heap.size,0,none⟩) 0 c] 26)) 3 (.int .i64 8)).alloc (.cells #[.int .i64 (b:Int)] 3)).alloc (.cells #[putFn (w2.heap.size+1) al] 162)).alloc (.cells #[.int .i64 0] 3)).alloc (.cells #[.int .i64 0] 3)
   simp only [Qcd] at this
   exact this
 · have:=Boxed.new ((((((w2.alloc (.cells (madeCells #[Value.int .u8 0] c) 5)).alloc (.cells #[.slice (some ⟨w2.heap.size,0,none⟩) 0 c] 26)).alloc (.cells #[.int .i64 8] 3)).alloc (.cells #[.int .i64 (b:Int)] 3)).alloc (.cells #[putFn (w2.heap.size+1) al] 162)).alloc (.cells #[.int .i64 0] 3)) 3 (.int .i64 0)
   simp only [Qcd] at this
   exact this
 · have:=(((Boxed.new (((w2.alloc (.cells (madeCells #[Value.int .u8 0] c) 5)).alloc (.cells #[.slice (some ⟨w2.heap.size,0,none⟩) 0 c] 26)).alloc (.cells #[.int .i64 8] 3)) 3 (.int .i64 b)).alloc (.cells #[putFn (w2.heap.size+1) al] 162)).alloc (.cells #[.int .i64 0] 3)).alloc (.cells #[.int .i64 0] 3)
   simp only [Qcd] at this
   exact this
 · have:=((Boxed.new ((((w2.alloc (.cells (madeCells #[Value.int .u8 0] c) 5)).alloc (.cells #[.slice (some ⟨w2.heap.size,0,none⟩) 0 c] 26)).alloc (.cells #[.int .i64 8] 3)).alloc (.cells #[.int .i64 (b:Int)] 3)) 162 (putFn (w2.heap.size+1) al)).alloc (.cells #[.int .i64 0] 3)).alloc (.cells #[.int .i64 0] 3)
   simp only [Qcd] at this
   exact this
theorem W7.bap (q al:Nat) (h:al<q):Bap (q+1) al (q+1+1+1+1+1) (q+1+1) (q+1+1+1+1+1+1) (q+1+1+1) (q+1+1+1+1):=by
 unfold Bap
 refine ⟨?_,?_,?_,?_,?_,?_,?_,?_,?_,?_,?_,?_,?_,?_,?_⟩ <;> omega
set_option maxHeartbeats 4000000 in
set_option maxRecDepth 100000 in
theorem bencode_any {kk:Int} {L:ByteArray} {b:Nat} (hK:Kind kk L b) (s:ByteArray) (gs cp:Nat) (w:World) (hs:s.size≤1099511627776) (hR:Rowb w gs s) (hcp:s.size≤cp) :
 Calls Tryz.prog 52 #[.int .i64 kk,.slice (some ⟨gs,0,none⟩) s.size cp] w (BePost (2*s.size+1) w):=by
 have hb46:b=4 ∨ b=6:=by rcases hK with ⟨_,_,rfl⟩ | ⟨_,_,rfl⟩ <;> omega
 have hL:L.size=2 ^ b:=by rcases hK with ⟨_,rfl,rfl⟩ | ⟨_,rfl,rfl⟩ <;> decide
 have hLa:Asc L:=by
  rcases hK with ⟨_,rfl,_⟩ | ⟨_,rfl,_⟩
  · exact Asc.of_list (l:=hexL.data.toList) (by decide)
  · exact Asc.of_list (l:=u64L.data.toList) (by decide)
 obtain ⟨i0,hi,hz0,hz1,hz2⟩:=info_parts info5
 obtain ⟨mn,hmn⟩:∃ mn,min s.size 1048576=mn:=⟨_,rfl⟩
 have hmk:∀ (c:Nat) (W:World),c≤3000000→(Instr.makeSlice 26 (.int .i64 0) (.int .i64 (c:Int))).run Tryz.prog W=.ok (.slice (some ⟨W.heap.size,0,none⟩) 0 c) (W.alloc (.cells (madeCells #[Value.int .u8 0] c) 5)):=fun c W hc=>by
  have:=run_make (P:=Tryz.prog) W 26 5 i0 (.int .u8 0) Tryz.underlying26 hi hz0 .i64 .i64 0 (c:Int) (by decide) (by omega) (by rw [hz2];omega) (by omega)
  rw [this,hz1,Int.toNat_natCast,Nat.mul_one]
  rfl
 have HMk:=Lib.hid hmk
 have HOf:=Lib.hid (bof_any hK)
 have HLen:=Lib.hid (blen_any hK mn (by omega))
 have hmin:min (s.size:Int) 1048576=(mn:Int):=by omega
 have HS:=Lib.hid (show s.size≤1099511627776∧s.size≤cp from ⟨hs,hcp⟩)
 have HR:=Lib.hid hR
 clear hmk hmn hR hs hcp hK hi hz0 hz1 hz2
 go_enter Tryz.func52,Tryz.ntmps52
 go_upto_region 5 with (first
  | (go_at_call 88;refine (HOf.out w).mono ?_;rintro e w1 ⟨he,hb1⟩;subst he;have HB1:=Lib.hid hb1;clear hb1)
  | (go_at_call 89;refine (HLen.out _).mono ?_;rintro e w2 ⟨c,he,hc3,hb2⟩;subst he;have hmk2:=fun W=>HMk.out c W hc3;have HB2:=Lib.hid hb2;have HC3:=Lib.hid hc3;clear hb2))
 have R1:=Row3.new w1 158 (.string L) (.int .i64 b) (.int .i64 1)
 have R2:=R1.below HB2.out
 have hB0:Below w.heap.size w w2:=(HB1.out.alloc HB1.out.size _).trans (HB2.out.mono (HB1.out.alloc HB1.out.size _).size)
 have HR2:=Lib.hid R2
 have HB0:=Lib.hid hB0
 have hal:=R2.lt
 have d1:=R2.c1
 generalize w1.heap.size=al at HR2 hal d1 ⊢
 clear R1 R2 hB0 hmk2 HB2 HB1
 go_wp2_with go_in
 have HS7:=Lib.hid (W7.bst w2 c b al w.heap.size L HC3.out HB0.out.size HR2.out)
 have HB7:=Lib.hid (HB0.out.trans ((W7.below w2 c b al).mono HB0.out.size))
 have HAp:=Lib.hid (W7.bap w2.heap.size al hal)
 have HQ:=Lib.hid HB0.out.size
 have hw7:(((((((w2.alloc (.cells (madeCells #[Value.int .u8 0] c) 5)).alloc (.cells #[.slice (some ⟨w2.heap.size,0,none⟩) 0 c] 26)).alloc (.cells #[.int .i64 8] 3)).alloc (.cells #[.int .i64 (b:Int)] 3)).alloc (.cells #[putFn (w2.heap.size+1) al] 162)).alloc (.cells #[.int .i64 0] 3)).alloc (.cells #[.int .i64 0] 3))=W7 w2 c b al:=rfl
 unfold putFn at hw7
 rw [hw7]
 generalize W7 w2 c b al=w7 at HS7 HB7 ⊢
 clear hw7 HR2 d1 hal HB0
 generalize w2.heap.size=q at HS7 HAp HQ ⊢
 have HBs:=Lib.hid (show w.heap.size≤q+1+1+1+1+1∧w.heap.size≤q+1+1+1+1+1+1 by have:=HQ.out;omega)
 clear HQ
 generalize q+1=g at HS7 HAp HBs ⊢
 generalize g+1=fb at HS7 HAp HBs ⊢
 generalize fb+1=tb at HS7 HAp HBs ⊢
 generalize tb+1=pb at HS7 HAp HBs ⊢
 generalize pb+1=xb at HS7 HAp HBs ⊢
 generalize xb+1=nb at HS7 HAp HBs ⊢
 have hs:=HS.out.1
 go_loopw [39] (fun iv wi=>∃ (k x n:Nat) (xs:List Int),k≤s.size∧iv=.int .i64 k∧Hid (x<2 ^ n∧n<b∧AscL xs∧xs.length≤2*k)∧Hid (Bst wi w.heap.size g al xb fb nb tb pb L b x n xs)∧Hid (Below w.heap.size w wi)) (fun iv _=>s.size - (intOf iv).toNat)
 case atStart=>exact ⟨0,0,0,[],by omega,rfl,⟨by decide,by omega,fun d hd=>by simp at hd,by simp⟩,HS7,HB7⟩
 case round =>
  clear HS7 HB7
  obtain ⟨k,x,n,xs,hk,rfl,HX,HS2,HB2⟩:=hrel
  by_cases hlt:k<s.size
  · obtain ⟨v,hv,_⟩:=get_byte hlt
    have hvl:v<256:=by
     obtain ⟨y,_,rfl⟩:=List.mem_map.1 (List.mem_of_getElem? hv)
     exact y.toNat_lt
    have d1:=(HR.out.below HB2.out).2 k v hv
    have f1:(k:Int)<(s.size:Int):=by omega
    have e1:IntKind.i64.wrap (v:Int)=(v:Int):=by rw [IntKind.wrap_i64];omega
    have HA:=Lib.hid (badd_any L b hL hLa hb46 v x n hvl HX.out.1 HX.out.2.1 w.heap.size g al xb fb nb tb pb xs wr HB2.out.size HS2.out HAp.out HBs.out (by have:=HX.out.2.2.2;omega))
    clear hv hvl
    go_wp2_with (go_at_call 136; refine HA.out.mono ?_; rintro ee w4 ⟨he, x', n', ds, h1, h2, h3, h4, h5, h6⟩; subst he; have HX' := Lib.hid (show x' < 2 ^ n' ∧ n' < b ∧ AscL (xs ++ ds) ∧ (xs ++ ds).length ≤ 2 * (k + 1) from ⟨h1, h2, (fun d hd => (List.mem_append.1 hd).elim (HX.out.2.2.1 d) (h3 d)), by rw [List.length_append]; have := HX.out.2.2.2; omega⟩); have HS' := Lib.hid h5; have HB' := Lib.hid (HB2.out.trans h6); clear h1 h2 h3 h4 h5 h6)
    go_roundw
    case rel => exact ⟨_, _, _, _, _, _, _, _, _, _, ⟨k + 1, x', n', _, by omega, by go_num, HX', HS', HB'⟩, rfl⟩
    case measure=>simp [intOf];omega
  · obtain rfl:k=s.size:=by omega
    have f1:¬ (s.size:Int)<(s.size:Int):=by omega
    have HLf:=Lib.hid (bleft_any x n xb nb wr HS2.out.2.2.1 HS2.out.2.2.2.2.1)
    have hnb:=HX.out.2.1
    go_upto_if 54 with (go_at_call 137;refine HLf.out.mono ?_;rintro ee w4 ⟨he,kd,hw4⟩;subst hw4;subst he)
    have HS4:=Lib.hid (HS2.out.drewN kd)
    have HB4:=Lib.hid (Below.drewN' HB2.out kd)
    generalize wr.drewN kd=w4 at HS4 HB4 ⊢
    go_cut [55] (fun sv wx=>∃ ys:List Int,Hid (AscL ys∧ys.length≤2*s.size+1)∧Hid (OutIs wx w.heap.size g ys)∧Hid (Row3 wx al 158 (.string L) (.int .i64 b) (.int .i64 1))∧Hid (Below w.heap.size w wx))
    case first =>
     by_cases hn0:0<n
     · obtain ⟨r,hr⟩:∃ r,b - n=r:=⟨_,rfl⟩
       obtain ⟨c', hc'⟩ : ∃ c', x * 2 ^ r = c' := ⟨_, rfl⟩
       have hcl:c'<L.size:=by
        rw [hL,← hc']
        have h1:2 ^ b=2 ^ n*2 ^ r:=by rw [← Nat.pow_add,show n+r=b by omega]
        rw [h1]
        exact (Nat.mul_lt_mul_right (Nat.two_pow_pos r)).2 HX.out.1
       have hc64:c'<128:=by
        have:2 ^ b≤2 ^ 6:=Nat.pow_le_pow_right (by decide) (by omega)
        omega
       have f2:(0:Int)<(n:Int):=by omega
       have e2:IntKind.i64.wrap ((b:Int) - (n:Int))=(r:Int):=by rw [IntKind.wrap_i64];omega
       have e4:((2:Int) ^ r)=((2 ^ r:Nat):Int):=by rw [Int.natCast_pow];rfl
       have e3:IntKind.i64.wrap ((x:Int)*2 ^ r)=(c':Int):=by
        rw [e4, ← Int.natCast_mul, hc', IntKind.wrap_i64]; omega
       have hr64:(r:Int)<64:=by omega
       have hr64':r<64:=by omega
       have d1:=HS4.out.2.1.c1
       obtain ⟨ch,hch,hput⟩:=bput_ch L hLa c' hcl
       have HP:=Lib.hid (hput w.heap.size g al xs (.int .i64 b) (.int .i64 1) w4 HB4.out.size HS4.out.1 HS4.out.2.1 (by have:=HX.out.2.2.2;omega))
       clear hput hcl hc' hr e4
       go_wp2_with (go_at_call 90;refine HP.out.mono ?_;rintro ee w5 ⟨he,ho5,hw5⟩;subst he;have HO5:=Lib.hid ho5;have HW5:=Lib.hid hw5;clear ho5 hw5)
       go_meet
       exact ⟨_,(show Hid _ from ⟨(fun d hd=>(List.mem_append.1 hd).elim (HX.out.2.2.1 d) (fun h=>by rw [List.mem_singleton.1 h];exact hch)),by rw [List.length_append];have:=HX.out.2.2.2;show xs.length+1≤_;omega⟩),HO5,HW5.out.cell HS4.out.2.1 (by decide) HAp.out.2.2.2.2.2.1,HB4.out.trans HW5.out.1⟩
     · have f2:¬ (0:Int)<(n:Int):=by omega
       go_wp2_with fail
       go_meet
       exact ⟨xs,⟨HX.out.2.2.1,by have:=HX.out.2.2.2;omega⟩,HS4.out.1,HS4.out.2.1,HB4⟩
    case rest =>
     obtain ⟨ys,HY,HO,HRw,HBw⟩:=hcut
     obtain ⟨v,hv,hrow,hg⟩:=HO.out
     obtain ⟨ny,hny⟩:∃ ny,ys.length=ny:=⟨_,rfl⟩
     rw [hny] at hrow
     obtain ⟨a,cap,rfl⟩:=ownsRow_any hrow
     have d0:=hv.cell
     have d2:=HRw.out.c2
     have hconv:=conv_any hrow
     have t0:(ny:Int).tmod 1=0:=Int.tmod_one _
     have t1:(ny:Int) % 1=0:=Int.emod_one _
     clear hny hrow hg hv
     go_wp2_with fail
     go_loopw [63] (fun _ wi=>wi=wc) (fun _ _=>0)
     case atStart=>rfl
     case round =>
      subst wr
      go_wp2
      exact bodyPost_ret (v:=.tuple #[.string (strOfNums ys),.int .i64 0]) (by simp [results,Tryz.results52,go_sem]) rfl ⟨_,rfl,ascL_str HY.out.1,by rw [strOfNums_size];exact HY.out.2,HBw.out⟩
open Go.RowKit
def Gnd (st:St):Prop:=¬ 0<st.1
def go8:List UInt8→St→Option St
 | [],st=>some st
 | c :: t,st=>(stp st c.toNat (-1)).bind (go8 t)
theorem go8_app (a b:List UInt8) (st:St):go8 (a ++ b) st=(go8 a st).bind (go8 b):=by
 induction a generalizing st with
 | nil=>rfl
 | cons c t ih =>
   rw [List.cons_append,go8,go8]
   cases stp st c.toNat (-1) with
   | none=>rfl
   | some st'=>exact ih st'
theorem chkL_go (l : List UInt8) (st : St) (i : Int) : (chkL l st i).2 = 0 ↔ ∃ st', go8 l st = some st' ∧ Gnd st' := by
 induction l generalizing st i with
 | nil =>
   unfold chkL go8 Gnd
   by_cases h:st.1 > 0
   · rw [if_pos h]
     refine ⟨fun h1=>absurd h1 (show ¬ (3:Int)=0 by decide),?_⟩
     rintro ⟨s2,h1,h2⟩
     cases h1
     exact absurd h h2
   · rw [if_neg h]
     exact ⟨fun _=>⟨st,rfl,h⟩,fun _=>rfl⟩
 | cons c t ih =>
   unfold chkL go8
   cases h:stp st c.toNat (-1) with
   | none=>simp
   | some st'=>simpa using ih st' (i+1)
def Rt8 (l : List UInt8) : Prop := ∀ st, Gnd st → ∃ st', go8 l st = some st' ∧ Gnd st'
theorem stp_gnd {st:St} (h:Gnd st) (c r:Int):stp st c r=stp st0 c r:=by
 unfold stp
 rw [if_neg h,if_neg (show ¬ st0.1 > 0 by decide)]
def Utf (s:ByteArray):Prop:=(chk s).2=0
theorem Utf.rt {s:ByteArray} (h:Utf s):Rt8 s.data.toList:=by
 obtain ⟨st', h1, h2⟩ := (chkL_go _ _ _).1 h
 intro st hg
 cases hl:s.data.toList with
 | nil=>exact ⟨st,rfl,hg⟩
 | cons c t =>
   rw [hl] at h1
   refine ⟨st', ?_, h2⟩
   rw [go8,stp_gnd hg]
   rw [go8] at h1
   exact h1
theorem Utf.of {s:ByteArray} (h:Rt8 s.data.toList):Utf s:=(chkL_go _ _ _).2 (h st0 (by unfold Gnd;decide))
theorem Rt8.app {a b:List UInt8} (ha:Rt8 a) (hb:Rt8 b):Rt8 (a ++ b):=by
 intro st hg
 obtain ⟨s1,h1,h2⟩:=ha st hg
 obtain ⟨s2,h3,h4⟩:=hb s1 h2
 exact ⟨s2,by rw [go8_app,h1];exact h3,h4⟩
theorem Utf.app {a b:ByteArray} (ha:Utf a) (hb:Utf b):Utf (a ++ b):=by
 refine Utf.of ?_
 have:(a ++ b).data.toList=a.data.toList ++ b.data.toList:=by simp
 rw [this]
 exact ha.rt.app hb.rt
theorem lead_asc:∀ c:Nat,c<128→(rowOf leadRows (c:Int)).2.2.1=1:=by decide +kernel
theorem stp_asc {st : St} (h : Gnd st) {c : Nat} (hc : c < 128) : ∃ st', stp st (c : Int) (-1) = some st' ∧ Gnd st' := by
 unfold stp
 rw [if_neg h,if_neg (by rw [lead_asc c hc];omega)]
 exact ⟨_,rfl,by unfold Gnd;rw [lead_asc c hc];show ¬ (0:Int)<1 - 1;decide⟩
theorem Qam {l:List UInt8} (h:∀ c ∈ l,c.toNat<128):Rt8 l:=by
 induction l with
 | nil=>exact fun st hg=>⟨st,rfl,hg⟩
 | cons c t ih =>
   intro st hg
   obtain ⟨s1,h1,h2⟩:=stp_asc hg (h c (List.mem_cons_self ..))
   obtain ⟨s2,h3,h4⟩:=ih (fun x hx=>h x (List.mem_cons_of_mem _ hx)) s1 h2
   exact ⟨s2,by rw [go8,h1];exact h3,h4⟩
theorem Asc.utf {s:ByteArray} (h:Asc s):Utf s:=Utf.of (Qam h)
def Mid (st:St):Prop:=0<st.1→128≤st.2.1
theorem lead_mid (c:Int):128≤(rowOf leadRows c).2.2.2.1 ∨ (rowOf leadRows c).2.2.1≤1:=by
 simp only [leadRows,rowOf]
 repeat' split
 all_goals simp
theorem stp_mid {st st':St} {c:Int} (h:stp st c (-1)=some st'):Mid st':=by
 unfold stp at h
 split at h
 · split at h
   · cases h
   · cases h;intro _;show (128:Int)≤128;omega
 · split at h
   · cases h
   · cases h
     intro h1
     rcases lead_mid c with h2 | h2
     · exact h2
     · simp only at h1;omega
def Like (a b:St):Prop:=a=b ∨ (Gnd a∧Gnd b)
def esc8 (c:UInt8):List UInt8:=(escB c.toNat).map fun n=>UInt8.ofNat n.toNat
def quote8:List UInt8→List UInt8
 | []=>[]
 | c :: t=>esc8 c ++ quote8 t
theorem quote8_eq (l:List UInt8):(quoteL l).map (fun n=>UInt8.ofNat n.toNat)=quote8 l:=by
 induction l with
 | nil=>rfl
 | cons c t ih=>rw [quoteL,List.map_append,ih];rfl
theorem esc_asc:∀ c:Nat,c<128→∀ d ∈ (escB (c:Int)).map (fun n=>UInt8.ofNat n.toNat),d.toNat<128:=by decide +kernel
theorem esc_high:∀ c:Nat,c<256→128≤c→escB (c:Int)=[(c:Int)]:=by decide +kernel
theorem quote_go (l:List UInt8):∀ (a b st':St),Mid a→Like a b→go8 l a=some st'→∃ s2,go8 (quote8 l) b=some s2∧Like st' s2:=by
 induction l with
 | nil =>
   intro a b st' _ hl h
   rw [go8] at h
   injection h with h
   subst h
   exact ⟨b,rfl,hl⟩
 | cons c t ih =>
   intro a b st' hm hl h
   rw [go8] at h
   cases h1:stp a c.toNat (-1) with
   | none=>rw [h1] at h;cases h
   | some a1 =>
     rw [h1] at h
     have hm1:=stp_mid h1
     by_cases hc:c.toNat<128
     · have hga:Gnd a:=by
        intro hp
        have h2:=hm hp
        unfold stp at h1
        rw [if_pos hp,if_pos (.inl (by omega))] at h1
        cases h1
       have hgb:Gnd b:=by
        rcases hl with rfl | ⟨_,h⟩
        · exact hga
        · exact h
       obtain ⟨s1,h3,h4⟩:=stp_asc hga hc
       rw [h3] at h1
       injection h1 with h1
       subst h1
       obtain ⟨b1,h5,h6⟩:=Qam (esc_asc c.toNat hc) b hgb
       obtain ⟨s2,h7,h8⟩:=ih s1 b1 st' hm1 (.inr ⟨h4,h6⟩) h
       exact ⟨s2,by rw [quote8,go8_app];unfold esc8;rw [h5];exact h7,h8⟩
     · have he:esc8 c=[c]:=by
        unfold esc8
        rw [esc_high c.toNat c.toNat_lt (by omega)]
        simp
       have hb1:∃ b1,stp b c.toNat (-1)=some b1∧Like a1 b1:=by
        rcases hl with rfl | ⟨h2,h3⟩
        · exact ⟨a1,h1,.inl rfl⟩
        · exact ⟨a1,by rw [stp_gnd h3,← stp_gnd h2];exact h1,.inl rfl⟩
       obtain ⟨b1,h5,h6⟩:=hb1
       obtain ⟨s2,h7,h8⟩:=ih a1 b1 st' hm1 h6 h
       exact ⟨s2,by rw [quote8,he,go8_app,go8,h5];exact h7,h8⟩
theorem quo_utf {s:ByteArray} (h:Utf s):Utf (quo s):=by
 refine Utf.of ?_
 have e:(quo s).data.toList=[34] ++ quote8 s.data.toList ++ [34]:=by
  unfold quo
  rw [strOfNums_data,List.map_append,List.map_append,quote8_eq]
  rfl
 rw [e]
 refine ((Qam (by decide)).app ?_).app (Qam (by decide))
 intro st hg
 obtain ⟨s1,h1,h2⟩:=h.rt st hg
 obtain ⟨s2,h3,h4⟩:=quote_go s.data.toList st st s1 (fun hp=>absurd hp hg) (.inl rfl) h1
 refine ⟨s2,h3,?_⟩
 rcases h4 with rfl | ⟨_,h4⟩
 · exact h2
 · exact h4
theorem quo_size (s:ByteArray):2≤(quo s).size∧(quo s).size≤6*s.size+2:=by
 unfold quo
 rw [strOfNums_size]
 have:=quoteL_len s.data.toList
 have h2:s.data.toList.length=s.size:=by rw [Array.length_toList];rfl
 simp only [List.length_append,List.length_cons,List.length_nil]
 omega
end Go.Proofs.YtfmceonbejlhlaaGreatDoor
