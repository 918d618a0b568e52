import Derived.RegionCalls
import Derived.StillTailTactics
import Derived.BigQuiet
import Derived.Deep.RegionWith
import Derived.Test.YtfmceonbejlhlaaGreatDoorMWs16
namespace Go.Proofs.YtfmceonbejlhlaaGreatDoor
open Go.RowKit Go.Proofs.YtfmceonbejlhlaaGreatDoorW.PrintWords Go.Proofs.YtfmceonbejlhlaaGreatDoorW.PrintLast Go.Proofs.YtfmceonbejlhlaaGreatDoorW.PrintMore
set_option linter.unusedVariables false
theorem WrIs.below {W W1:World} {base p:Nat} {op:Bool} {xs:List Int} (h:WrIs W base p op xs) (hb:Below W.heap.size W W1):WrIs W1 base p op xs:=by
 obtain ⟨v,hv,hrow,hp⟩:=h
 exact ⟨v,hv.below hb,Qbl hrow (fun k hk=>hb.block k (own_lt hrow k hk)),hp⟩
set_option maxRecDepth 100000 in
set_option maxHeartbeats 4000000 in
theorem item_1 (op:Bool) (neg:Bool) (n:Int) (s:ByteArray) (av:Value) (base p:Nat) (xs:List Int) (w:World) (hbase:base≤w.heap.size) (hn2:n≤1) (hn0:0≤n) (hn1:n<18446744073709551616) (hlen:xs.length+s.size+32≤140737488340000) (hw:WrIs w base p op xs) :
 Calls Tryz.prog 18 #[.pointer (some ⟨p,0,none⟩),.agg #[.int .i64 1,.bool neg,.int .u64 n,.string s,av]] w (Qa4 base p op (xs ++ putF 7 (n+20)) w):=by
 have R:=Row5.new w (.int .i64 1) (.bool neg) (.int .u64 n) (.string s) av
 have hB:=(Wrote.refl base p w).alloc hbase (.cells #[.int .i64 1,.bool neg,.int .u64 n,.string s,av] 25)
 have hW1:=hw.alloc (.cells #[.int .i64 1,.bool neg,.int .u64 n,.string s,av] 25)
 have hb1:=Nat.le_trans hbase (hB.size)
 have hc0:=R.c0
 have hc1:=R.c1
 have hc2:=R.c2
 have hc3:=R.c3
 go_enter Tryz.func18,Tryz.ntmps18
 have hB2:=(Wrote.refl base p w).alloc hbase (.cells #[.int .i64 1,.bool neg,.int .u64 (n+20),.string s,av] 25)
 have hW2:=hw.alloc (.cells #[.int .i64 1,.bool neg,.int .u64 (n+20),.string s,av] 25)
 have hb2:=Nat.le_trans hbase (hB2.size)
 have hc4:=(Row5.new w (.int .i64 1) (.bool neg) (.int .u64 (n+20)) (.string s) av).c2
 have hf:=R.fz 2
 go_wp2_with (go_at_call 35;refine (head7_any base p op xs (n+20) (by omega) (by omega) _ hW2 hb2 (by omega)).mono ?_;rintro e w2 ⟨rfl,hw2,hb2⟩)
 go_end0
 exact ⟨rfl,hw2,hB2.trans hb2⟩
set_option maxRecDepth 100000 in
set_option maxHeartbeats 4000000 in
theorem item_4 (op:Bool) (neg:Bool) (n:Int) (s:ByteArray) (av:Value) (base p:Nat) (xs:List Int) (w:World) (hbase:base≤w.heap.size) (hn0:0≤n) (hn1:n<18446744073709551616) (hlen:xs.length+s.size+32≤140737488340000) (hw:WrIs w base p op xs) :
 Calls Tryz.prog 18 #[.pointer (some ⟨p,0,none⟩),.agg #[.int .i64 4,.bool neg,.int .u64 n,.string s,av]] w (Qa4 base p op (xs ++ putF (if neg then 1 else 0) n) w):=by
 have R:=Row5.new w (.int .i64 4) (.bool neg) (.int .u64 n) (.string s) av
 have hB:=(Wrote.refl base p w).alloc hbase (.cells #[.int .i64 4,.bool neg,.int .u64 n,.string s,av] 25)
 have hW1:=hw.alloc (.cells #[.int .i64 4,.bool neg,.int .u64 n,.string s,av] 25)
 have hb1:=Nat.le_trans hbase (hB.size)
 have hc0:=R.c0
 have hc1:=R.c1
 have hc2:=R.c2
 have hc3:=R.c3
 go_enter Tryz.func18,Tryz.ntmps18
 obtain ⟨m,hm,hm1⟩:∃ m:Nat,(if neg then (1:Int) else 0)=(m:Int)∧m≤1:=by cases neg;exact ⟨0,rfl,by omega⟩;exact ⟨1,rfl,by omega⟩
 obtain ⟨W1,hW⟩:∃ W1,w.alloc (.cells #[.int .i64 4,.bool neg,.int .u64 n,.string s,av] 25)=W1:=⟨_,rfl⟩
 have hN:=number_any neg W1.drew
 rw [hm] at hN ⊢
 have HN:=Lib.hid hN
 rw [hW] at R hB hW1 hb1 hc0 hc1 hc2 hc3
 clear hN hm
 go_wp2_with fail
 clear hW
 go_still_tail 6,(by kernel_rfl)
 repeat still_step
 still_call HN.out
 repeat still_step
 refine wpStill_nil ?_
 change wpList _ _ _ _ _ W1.drew
 have hW2:=(show WrIs W1.drew base p op xs from hW1)
 have hB2:=hB.drew
 generalize W1.drew=W2 at hW2 hB2 ⊢
 go_wp2_with (go_at_call 35;refine (head_any base p op xs m n (by omega) (by omega) (by omega) _ hW2 (Nat.le_trans hbase hB2.size) (by omega)).mono ?_;rintro e w2 ⟨rfl,hw2,hb2⟩)
 go_end0
 exact ⟨rfl,hw2,hB2.trans hb2⟩
set_option maxRecDepth 100000 in
set_option maxHeartbeats 4000000 in
theorem item_5 (op:Bool) (neg:Bool) (n:Int) (s:ByteArray) (av:Value) (base p:Nat) (xs:List Int) (w:World) (hbase:base≤w.heap.size) (hn0:0≤n) (hn1:n<18446744073709551616) (hlen:xs.length+s.size+32≤140737488340000) (hw:WrIs w base p op xs) :
 Calls Tryz.prog 18 #[.pointer (some ⟨p,0,none⟩),.agg #[.int .i64 5,.bool neg,.int .u64 n,.string s,av]] w (Qa4 base p op (xs ++ putF 6 (2+if neg then 1 else 0) ++ textF op 2 s) w):=by
 have R:=Row5.new w (.int .i64 5) (.bool neg) (.int .u64 n) (.string s) av
 have hB:=(Wrote.refl base p w).alloc hbase (.cells #[.int .i64 5,.bool neg,.int .u64 n,.string s,av] 25)
 have hW1:=hw.alloc (.cells #[.int .i64 5,.bool neg,.int .u64 n,.string s,av] 25)
 have hb1:=Nat.le_trans hbase (hB.size)
 have hc0:=R.c0
 have hc1:=R.c1
 have hc2:=R.c2
 have hc3:=R.c3
 go_enter Tryz.func18,Tryz.ntmps18
 obtain ⟨m,hm,hm1⟩:∃ m:Nat,(if neg then (1:Int) else 0)=(m:Int)∧m≤1:=by cases neg;exact ⟨0,rfl,by omega⟩;exact ⟨1,rfl,by omega⟩
 have hN:=fun W=>number_any neg W
 rw [hm] at hN ⊢
 clear hm
 have hpl:=putF_len 6 (2+(m:Int))
 go_wp2_with (first
  | (go_at_call 36;refine (hN _).mono ?_;rintro e w2 ⟨rfl,rfl⟩)
  | (go_at_call 35;refine (head_any base p op xs 6 (2+(m:Int)) (by omega) (by omega) (by omega) _ hW1 hb1 (by omega)).mono ?_;rintro e w2 ⟨rfl,hw2,hb2⟩;have R2:Row5 w2 w.heap.size (.int .i64 5) (.bool neg) (.int .u64 n) (.string s) av:=hb2.cell R (by decide) (by have:=hw.lt;omega);have hk3:=R2.c3)
  | (go_at_call 38;refine (text_any base p op (xs ++ putF 6 (2+(m:Int))) 2 s (by omega) _ hw2 (Nat.le_trans hb1 hb2.size) (by rw [List.length_append];omega)).mono ?_;rintro e w3 ⟨rfl,hw3,hb3⟩))
 go_end0
 exact ⟨rfl,hw3,(hB.trans hb2).trans hb3⟩
def Writes (op:Bool) (base p:Nat) (w:World) (x:T) (xa:Option Addr) (xc:Nat):Prop :=
 ∀ (xs:List Int) (w':World),Below base w w'→base≤w'.heap.size→xs.length+32*bulk x+64≤140737488330000→WrIs w' base p op xs →
   Calls Tryz.prog 18 #[.pointer (some ⟨p,0,none⟩),.agg #[.int .i64 x.f0,.bool x.f1,.int .u64 x.f2,.string x.f3,.slice xa x.f4.length xc]] w' (Qa4 base p op (xs ++ itemF op x) w')
set_option maxRecDepth 100000 in
set_option maxHeartbeats 4000000 in
theorem item_13 (op:Bool) (neg:Bool) (n:Int) (s:ByteArray) (x:T) (xa:Option Addr) (xc c g off:Nat) (base p:Nat) (xs:List Int) (w:World) (hbase:base≤w.heap.size) (hn0:0≤n) (hn1:n<18446744073709551616) (hlen:xs.length+32*bulk x+96≤140737488330000) (hw:WrIs w base p op xs)
 (hg:g<base) (hc:1≤c) (e0:w.cell? ⟨g,off,none⟩=some (.int .i64 x.f0)) (e1:w.cell? ⟨g,off+1,none⟩=some (.bool x.f1)) (e2:w.cell? ⟨g,off+2,none⟩=some (.int .u64 x.f2)) (e3:w.cell? ⟨g,off+3,none⟩=some (.string x.f3)) (e4:w.cell? ⟨g,off+4,none⟩=some (.slice xa x.f4.length xc))
 (ih:Writes op base p w x xa xc) :
 Calls Tryz.prog 18 #[.pointer (some ⟨p,0,none⟩),.agg #[.int .i64 13,.bool neg,.int .u64 n,.string s,.slice (some ⟨g,off,none⟩) 1 c]] w (Qa4 base p op (xs ++ (putF 6 n ++ itemF op x)) w):=by
 have R:=Row5.new w (.int .i64 13) (.bool neg) (.int .u64 n) (.string s) (.slice (some ⟨g,off,none⟩) 1 c)
 have hB:=(Wrote.refl base p w).alloc hbase (.cells #[.int .i64 13,.bool neg,.int .u64 n,.string s,.slice (some ⟨g,off,none⟩) 1 c] 25)
 have hW1:=hw.alloc (.cells #[.int .i64 13,.bool neg,.int .u64 n,.string s,.slice (some ⟨g,off,none⟩) 1 c] 25)
 have hb1:=Nat.le_trans hbase (hB.size)
 have hc0:=R.c0
 have hc2:=R.c2
 have hpl:=putF_len 6 n
 have hR2:∀ w2,Wrote base p (w.alloc (.cells #[.int .i64 13,.bool neg,.int .u64 n,.string s,.slice (some ⟨g,off,none⟩) 1 c] 25)) w2→w2.cell? ⟨w.heap.size,4,none⟩=some (.slice (some ⟨g,off,none⟩) 1 c):=fun w2 h=>Row5.c4 (h.cell R (by decide) (by have:=hw.lt;omega))
 go_enter Tryz.func18,Tryz.ntmps18
 go_wp2_with (first
  | (go_at_call 35;refine (head_any base p op xs 6 n (by omega) (by omega) (by omega) _ hW1 hb1 (by omega)).mono ?_;rintro e w2 ⟨rfl,hw2,hb2⟩;have hB2:=hB.trans hb2;have k4:=hR2 _ hb2;have k0:=(hB2.1.cell (p:=⟨g,off,none⟩) hg).trans e0;have k1:=(hB2.1.cell (p:=⟨g,off+1,none⟩) hg).trans e1;have k2:=(hB2.1.cell (p:=⟨g,off+2,none⟩) hg).trans e2;have k3:=(hB2.1.cell (p:=⟨g,off+3,none⟩) hg).trans e3;have k5:=(hB2.1.cell (p:=⟨g,off+4,none⟩) hg).trans e4;clear hc0 hc2 R hR2)
  | (go_at_call 18;refine (ih (xs ++ putF 6 n) w2 hB2.1 (Nat.le_trans hb1 hb2.size) (by rw [List.length_append];omega) hw2).mono ?_;rintro e w3 ⟨rfl,hw3,hb3⟩))
 go_end0
 exact ⟨rfl,by have:=hw3;rw [List.append_assoc] at this;exact this,hB2.trans hb3⟩
theorem bulkL_take:∀ {l:List T} {i:Nat} {t:T},l[i]? = some t→bulkL (l.take i)+bulk t≤bulkL l
 | x :: r,0,t,h=>by
   simp only [List.getElem?_cons_zero,Option.some.injEq] at h
   subst h
   simp [bulkL]
 | x :: r,i+1,t,h=>by
   have:=bulkL_take (l:=r) (i:=i) (t:=t) (by simpa using h)
   simp only [List.take_succ_cons,bulkL];omega
set_option maxRecDepth 100000 in
set_option maxHeartbeats 4000000 in
theorem item_11 (op:Bool) (neg:Bool) (n:Int) (s:ByteArray) (l:List T) (a:Option Addr) (c:Nat) (base p:Nat) (P:Nat→Prop) (xs:List Int) (w:World) (hbase:base≤w.heap.size) (hlen:xs.length+32*bulkL l+96≤140737488330000) (hw:WrIs w base p op xs)
 (hP:∀ g,P g→g<base) (hT:l=[] ∨ ∃ g off,a=some ⟨g,off,none⟩∧P g∧TreeL w P l g off)
 (ih:∀ x ∈ l,∀ xa xc,Tree w P x xa→x.f4.length≤xc→Writes op base p w x xa xc) :
 Calls Tryz.prog 18 #[.pointer (some ⟨p,0,none⟩),.agg #[.int .i64 11,.bool neg,.int .u64 n,.string s,.slice a l.length c]] w (Qa4 base p op (xs ++ (openF op 4 l.length ++ (Qbf op l ++ if op then [255] else []))) w):=by
 have R:=Row5.new w (.int .i64 11) (.bool neg) (.int .u64 n) (.string s) (.slice a l.length c)
 have hB:=(Wrote.refl base p w).alloc hbase (.cells #[.int .i64 11,.bool neg,.int .u64 n,.string s,.slice a l.length c] 25)
 have hW1:=hw.alloc (.cells #[.int .i64 11,.bool neg,.int .u64 n,.string s,.slice a l.length c] 25)
 have hb1:=Nat.le_trans hbase (hB.size)
 have hc0:=R.c0
 have hc4:=R.c4
 have hlb:=bulkL_len l
 have hob:=openF_len op 4 l.length
 obtain ⟨ys,hys⟩:∃ ys,xs ++ openF op 4 l.length=ys:=⟨_,rfl⟩
 have hyl:ys.length≤xs.length+9:=by rw [← hys,List.length_append];omega
 have hbg:=begin_any base p op xs 4 l.length (by omega) (by omega) _ hW1 hb1 (by omega)
 rw [show (((4:Nat):Int))=4 from rfl] at hbg
 change Calls _ _ _ _ (Qa4 base p op (xs ++ openF op 4 l.length) _) at hbg
 rw [hys] at hbg
 rw [← List.append_assoc,hys]
 obtain ⟨tl,htl⟩:∃ tl:List Int,(if op=true then [255] else [])=tl:=⟨_,rfl⟩
 have hend:=fun zs W h1 h2 h3=>end_any base p op zs W h1 h2 h3
 rw [htl] at hend ⊢
 have HE:=Lib.hid hend
 clear hend htl
 have HY:=Lib.hid hys
 have HT:=Lib.hid hT
 clear hys hob hT
 have hR2:∀ w2,Wrote base p (w.alloc (.cells #[.int .i64 11,.bool neg,.int .u64 n,.string s,.slice a l.length c] 25)) w2→w2.cell? ⟨w.heap.size,4,none⟩=some (.slice a l.length c):=fun w2 h=>Row5.c4 (h.cell R (by decide) (by have:=hw.lt;omega))
 go_enter Tryz.func18,Tryz.ntmps18
 go_wp2_with (go_at_call 39;refine hbg.mono ?_;rintro e w2 ⟨rfl,hw2,hb2⟩;have hB2:=hB.trans hb2;have k4:=hR2 _ hb2)
 clear hbg hW1 R hc0 hc4 hB hR2
 have hb22:=Nat.le_trans hbase hB2.size
 go_loopw [102] (fun i wr=>∃ k:Nat,k≤l.length∧i=.int .i64 k∧WrIs wr base p op (ys ++ Qbf op (l.take k))∧Wrote base p w wr) (fun i _=>l.length - (intOf i).toNat)
 case atStart=>exact ⟨0,by omega,rfl,by simpa [Qbf] using hw2,hB2⟩
 case round =>
  obtain ⟨j,hj,rfl,hwj,hBj⟩:=hrel
  have hbj:=Nat.le_trans hbase hBj.size
  have hlj:=itemsF_len op (l.take j)
  by_cases hlt:j<l.length
  · rcases HT.out with rfl | ⟨g,off,rfl,hg,hTL⟩
    · simp at hlt
    obtain ⟨x,xa,xc,hx,e0,e1,e2,e3,e4,hxc,hxT⟩:=Qbm hTL hlt
    have hgb:=hP g hg
    have K0:=(hBj.1.cell (p:=⟨g,off+j*5,none⟩) hgb).trans e0
    have K1:=(hBj.1.cell (p:=⟨g,off+j*5+1,none⟩) hgb).trans e1
    have K2:=(hBj.1.cell (p:=⟨g,off+j*5+2,none⟩) hgb).trans e2
    have K3:=(hBj.1.cell (p:=⟨g,off+j*5+3,none⟩) hgb).trans e3
    have K4:=(hBj.1.cell (p:=⟨g,off+j*5+4,none⟩) hgb).trans e4
    have hbk:bulkL (l.take j)+bulk x≤bulkL l:=bulkL_take hx
    have hC:∀ o,Calls Tryz.prog 18 #[.pointer (some ⟨p,0,none⟩),.agg #[.int .i64 x.f0,.bool x.f1,.int .u64 x.f2,.string x.f3,.slice xa x.f4.length xc]] (wr.alloc o) (Qa4 base p op (ys ++ Qbf op (l.take j) ++ itemF op x) (wr.alloc o)):=fun o =>
     ih x (List.mem_of_getElem? hx) xa xc hxT hxc _ _ (hBj.alloc hbj o).1 (by simp;omega) (by rw [List.length_append];omega) (hwj.alloc o)
    have HX:=Lib.hid (itemsF_take (op:=op) hx)
    clear e0 e1 e2 e3 e4 hTL hxT ih hx
    go_wp2_with (go_at_call 18;refine (hC _).mono ?_;rintro e w3 ⟨rfl,hw3,hb3⟩)
    go_roundw
    case rel=>exact ⟨j+1,by omega,by go_num,by rw [HX.out,← List.append_assoc];exact hw3,(hBj.alloc hbj _).trans hb3⟩
    case measure=>simp [intOf];omega
  · obtain rfl:j=l.length:=by omega
    rw [List.take_length] at hwj hlj
    clear ih HT
    go_wp2_with (go_at_call 40;refine (HE.out _ _ hwj hbj (by rw [List.length_append];omega)).mono ?_;rintro e w3 ⟨rfl,hw3,hb3⟩)
    go_end0
    exact ⟨rfl,by have:=hw3;rw [List.append_assoc] at this;exact this,hBj.trans hb3⟩
set_option maxRecDepth 100000 in
set_option maxHeartbeats 4000000 in
theorem item_12 (op:Bool) (neg:Bool) (n:Int) (s:ByteArray) (l:List T) (a:Option Addr) (c:Nat) (base p:Nat) (P:Nat→Prop) (xs:List Int) (w:World) (hbase:base≤w.heap.size) (hlen:xs.length+32*bulkL l+96≤140737488330000) (hw:WrIs w base p op xs)
 (hP:∀ g,P g→g<base) (hT:l=[] ∨ ∃ g off,a=some ⟨g,off,none⟩∧P g∧TreeL w P l g off)
 (ih:∀ x ∈ l,∀ xa xc,Tree w P x xa→x.f4.length≤xc→Writes op base p w x xa xc) :
 Calls Tryz.prog 18 #[.pointer (some ⟨p,0,none⟩),.agg #[.int .i64 12,.bool neg,.int .u64 n,.string s,.slice a l.length c]] w (Qa4 base p op (xs ++ (openF op 5 (l.length / 2:Nat) ++ (Qbf op l ++ if op then [255] else []))) w):=by
 have R:=Row5.new w (.int .i64 12) (.bool neg) (.int .u64 n) (.string s) (.slice a l.length c)
 have hB:=(Wrote.refl base p w).alloc hbase (.cells #[.int .i64 12,.bool neg,.int .u64 n,.string s,.slice a l.length c] 25)
 have hW1:=hw.alloc (.cells #[.int .i64 12,.bool neg,.int .u64 n,.string s,.slice a l.length c] 25)
 have hb1:=Nat.le_trans hbase (hB.size)
 have hc0:=R.c0
 have hc4:=R.c4
 have hlb:=bulkL_len l
 have hob:=openF_len op 5 (l.length / 2:Nat)
 obtain ⟨ys,hys⟩:∃ ys,xs ++ openF op 5 (l.length / 2:Nat)=ys:=⟨_,rfl⟩
 have hyl:ys.length≤xs.length+9:=by rw [← hys,List.length_append];omega
 have hbg:=begin_any base p op xs 5 (l.length / 2) (by omega) (by omega) _ hW1 hb1 (by omega)
 rw [show (((5:Nat):Int))=5 from rfl] at hbg
 change Calls _ _ _ _ (Qa4 base p op (xs ++ openF op 5 (l.length / 2:Nat)) _) at hbg
 rw [hys] at hbg
 rw [← List.append_assoc,hys]
 obtain ⟨tl,htl⟩:∃ tl:List Int,(if op=true then [255] else [])=tl:=⟨_,rfl⟩
 have hend:=fun zs W h1 h2 h3=>end_any base p op zs W h1 h2 h3
 rw [htl] at hend ⊢
 have HE:=Lib.hid hend
 clear hend htl
 have HY:=Lib.hid hys
 have HT:=Lib.hid hT
 clear hys hob hT
 have hR2:∀ w2,Wrote base p (w.alloc (.cells #[.int .i64 12,.bool neg,.int .u64 n,.string s,.slice a l.length c] 25)) w2→w2.cell? ⟨w.heap.size,4,none⟩=some (.slice a l.length c):=fun w2 h=>Row5.c4 (h.cell R (by decide) (by have:=hw.lt;omega))
 rw [Int.natCast_ediv] at hbg
 go_enter Tryz.func18,Tryz.ntmps18
 go_wp2_with (go_at_call 39;refine hbg.mono ?_;rintro e w2 ⟨rfl,hw2,hb2⟩;have hB2:=hB.trans hb2;have k4:=hR2 _ hb2)
 clear hbg hW1 R hc0 hc4 hB hR2
 have hb22:=Nat.le_trans hbase hB2.size
 go_loopw [102] (fun i wr=>∃ k:Nat,k≤l.length∧i=.int .i64 k∧WrIs wr base p op (ys ++ Qbf op (l.take k))∧Wrote base p w wr) (fun i _=>l.length - (intOf i).toNat)
 case atStart=>exact ⟨0,by omega,rfl,by simpa [Qbf] using hw2,hB2⟩
 case round =>
  obtain ⟨j,hj,rfl,hwj,hBj⟩:=hrel
  have hbj:=Nat.le_trans hbase hBj.size
  have hlj:=itemsF_len op (l.take j)
  by_cases hlt:j<l.length
  · rcases HT.out with rfl | ⟨g,off,rfl,hg,hTL⟩
    · simp at hlt
    obtain ⟨x,xa,xc,hx,e0,e1,e2,e3,e4,hxc,hxT⟩:=Qbm hTL hlt
    have hgb:=hP g hg
    have K0:=(hBj.1.cell (p:=⟨g,off+j*5,none⟩) hgb).trans e0
    have K1:=(hBj.1.cell (p:=⟨g,off+j*5+1,none⟩) hgb).trans e1
    have K2:=(hBj.1.cell (p:=⟨g,off+j*5+2,none⟩) hgb).trans e2
    have K3:=(hBj.1.cell (p:=⟨g,off+j*5+3,none⟩) hgb).trans e3
    have K4:=(hBj.1.cell (p:=⟨g,off+j*5+4,none⟩) hgb).trans e4
    have hbk:bulkL (l.take j)+bulk x≤bulkL l:=bulkL_take hx
    have hC:∀ o,Calls Tryz.prog 18 #[.pointer (some ⟨p,0,none⟩),.agg #[.int .i64 x.f0,.bool x.f1,.int .u64 x.f2,.string x.f3,.slice xa x.f4.length xc]] (wr.alloc o) (Qa4 base p op (ys ++ Qbf op (l.take j) ++ itemF op x) (wr.alloc o)):=fun o =>
     ih x (List.mem_of_getElem? hx) xa xc hxT hxc _ _ (hBj.alloc hbj o).1 (by simp;omega) (by rw [List.length_append];omega) (hwj.alloc o)
    have HX:=Lib.hid (itemsF_take (op:=op) hx)
    clear e0 e1 e2 e3 e4 hTL hxT ih hx
    go_wp2_with (go_at_call 18;refine (hC _).mono ?_;rintro e w3 ⟨rfl,hw3,hb3⟩)
    go_roundw
    case rel=>exact ⟨j+1,by omega,by go_num,by rw [HX.out,← List.append_assoc];exact hw3,(hBj.alloc hbj _).trans hb3⟩
    case measure=>simp [intOf];omega
  · obtain rfl:j=l.length:=by omega
    rw [List.take_length] at hwj hlj
    clear ih HT
    go_wp2_with (go_at_call 40;refine (HE.out _ _ hwj hbj (by rw [List.length_append];omega)).mono ?_;rintro e w3 ⟨rfl,hw3,hb3⟩)
    go_end0
    exact ⟨rfl,by have:=hw3;rw [List.append_assoc] at this;exact this,hBj.trans hb3⟩
theorem u64_of_wf {n:Int} (h:(Lit.int .u64 n).wf=true):0≤n∧n<18446744073709551616:=by
 simp only [Lit.wf,decide_eq_true_eq,Bool.and_eq_true] at h
 have h0:IntKind.u64.min=0:=by decide +kernel
 have h1:IntKind.u64.max=18446744073709551615:=by decide +kernel
 rw [h0,h1] at h
 omega
theorem one_range {k:Int} {neg:Bool} {n:Int} {s:ByteArray} {l:List T} (h:oneF k neg n s l=true):0≤k∧k≤14∧(neg=true→k=4 ∨ k=5):=by
 unfold oneF at h
 split at h
 · cases h
 · rename_i h1
   refine ⟨by omega,by omega,fun hn=>?_⟩
   by_cases h4:k=4
   · exact .inl h4
   · by_cases h5:k=5
     · exact .inr h5
     · exact absurd (.inr (.inr ⟨hn,h4,h5⟩)) h1
theorem one_bits {k:Int} {neg:Bool} {n:Int} {s:ByteArray} {l:List T} (h:oneF k neg n s l=true) (hk:bitsF k<64):n / 2 ^ (bitsF k).toNat=0:=by
 unfold oneF at h
 split at h
 · cases h
 · split at h
   · cases h
   · rename_i h1
     by_cases h2:n / 2 ^ (bitsF k).toNat=0
     · exact h2
     · exact absurd ⟨hk,h2⟩ h1
theorem one_bool {neg:Bool} {n:Int} {s:ByteArray} {l:List T} (h:oneF 1 neg n s l=true) (h0:0≤n):n≤1:=by
 have h1:=one_bits h (by decide)
 rw [show ((2:Int) ^ (bitsF 1).toNat)=2 by decide] at h1
 omega
theorem one_tail {k:Int} {neg:Bool} {n:Int} {s:ByteArray} {l:List T} (h:oneF k neg n s l=true) (hk:k ≠ 10):tailF k n s l=true:=by
 unfold oneF at h
 split at h
 · cases h
 · split at h
   · cases h
   · first
      | exact h
      | (rw [if_neg hk] at h;exact h)
theorem one_tag {neg:Bool} {n:Int} {s:ByteArray} {l:List T} (h:oneF 13 neg n s l=true):l.length=1:=by
 have h1:=one_tail h (by decide)
 unfold tailF at h1
 rw [if_neg (by decide),if_neg (by decide),if_neg (by simp),if_neg (by simp)] at h1
 by_cases h2:l.length=1
 · exact h2
 · rw [if_pos ⟨rfl,.inl h2⟩] at h1;cases h1
theorem item_any (op:Bool) (base p:Nat) (P:Nat→Prop) (hP:∀ g,P g→g<base):∀ (t:T) (a:Option Addr) (c:Nat) (w:World),Tree w P t a→t.f4.length≤c→Rt t→Wf t→base≤w.heap.size→Writes op base p w t a c:=by
 intro t
 induction t using T.ind with
 | h k neg n s l ih =>
   intro a c w hT hc hr hwf hbase xs w' hb hbase' hlen hw
   obtain ⟨_,hwn,hwl⟩:=hwf
   have hn0:0≤n∧n<18446744073709551616:=u64_of_wf hwn
   obtain ⟨⟨h1,hleaf⟩,hrl⟩:=hr
   have hT':=Qaq (W':=w') (P':=P) (fun _ h=>h) (fun g hg=>hb.block g (hP g hg)) hT
   obtain ⟨_,hT'⟩:=Qb1 hT'
   have hk:=one_range h1
   simp only [bulk] at hlen
   have hih:∀ x ∈ l,∀ xa xc,Tree w' P x xa→x.f4.length≤xc→Writes op base p w' x xa xc:=fun x hx xa xc h2 h3=>ih x hx xa xc w' h2 h3 (rtL_mem hrl hx) (wfL_mem hwl hx) hbase'
   dsimp only at hc ⊢
   rw [itemF]
   by_cases h0:k=0
   · rw [if_pos h0];subst h0;exact item_0 op neg n s _ base p xs w' hbase' hn0.1 hn0.2 (by omega) hw
   rw [if_neg h0]
   by_cases h0:k=1
   · rw [if_pos h0];subst h0;exact item_1 op neg n s _ base p xs w' hbase' (one_bool h1 hn0.1) hn0.1 hn0.2 (by omega) hw
   rw [if_neg h0]
   by_cases h0:k=2
   · rw [if_pos h0];subst h0;exact item_2 op neg n s _ base p xs w' hbase' hn0.1 hn0.2 (by omega) hw
   rw [if_neg h0]
   by_cases h0:k=3
   · rw [if_pos h0];subst h0;exact item_3 op neg n s _ base p xs w' hbase' hn0.1 hn0.2 (by omega) hw
   rw [if_neg h0]
   by_cases h0:k=4
   · rw [if_pos h0];subst h0;exact item_4 op neg n s _ base p xs w' hbase' hn0.1 hn0.2 (by omega) hw
   rw [if_neg h0]
   by_cases h0:k=5
   · rw [if_pos h0];subst h0;rw [← List.append_assoc];exact item_5 op neg n s _ base p xs w' hbase' hn0.1 hn0.2 (by omega) hw
   rw [if_neg h0]
   by_cases h0:k=6
   · rw [if_pos h0];subst h0;exact item_6 op neg n s _ base p xs w' hbase' hn0.1 hn0.2 (by omega) hw
   rw [if_neg h0]
   by_cases h0:k=7
   · rw [if_pos h0];subst h0;exact item_7 op neg n s _ base p xs w' hbase' hn0.1 hn0.2 (by omega) hw
   rw [if_neg h0]
   by_cases h0:k=8
   · rw [if_pos h0];subst h0;exact item_8 op neg n s _ base p xs w' hbase' hn0.1 hn0.2 (by omega) hw
   rw [if_neg h0]
   by_cases h0:k=9
   · rw [if_pos h0];subst h0;exact item_9 op neg n s _ base p xs w' hbase' hn0.1 hn0.2 (by omega) hw
   rw [if_neg h0]
   by_cases h0:k=10
   · rw [if_pos h0];subst h0;exact item_10 op neg n s _ base p xs w' hbase' hn0.1 hn0.2 (by omega) hw
   rw [if_neg h0]
   by_cases h0:k=11
   · rw [if_pos h0];subst h0;exact item_11 op neg n s l a c base p P xs w' hbase' (by omega) hw hP hT' hih
   rw [if_neg h0]
   by_cases h0:k=12
   · rw [if_pos h0];subst h0;exact item_12 op neg n s l a c base p P xs w' hbase' (by omega) hw hP hT' hih
   rw [if_neg h0]
   by_cases h0:k=13
   · rw [if_pos h0];subst h0
     have hl1:=one_tag h1
     match l,hl1 with
     | [x],_ =>
       rcases hT' with h | ⟨g,off,rfl,hg,hTL⟩
       · cases h
       obtain ⟨y,xa,xc,hx,e0,e1,e2,e3,e4,hxc,hxT⟩:=Qbm hTL (i:=0) (by simp)
       simp only [List.getElem?_cons_zero,Option.some.injEq] at hx
       subst hx
       simp only [Nat.zero_mul,Nat.add_zero] at e0 e1 e2 e3 e4
       have:bulkL [x]=bulk x:=by simp [bulkL]
       rw [show Qbf op [x]=itemF op x by simp [Qbf]]
       exact item_13 op neg n s x xa xc c g off base p xs w' hbase' hn0.1 hn0.2 (by omega) hw (hP g hg) (by simpa using hc) e0 e1 e2 e3 e4 (hih x (List.mem_cons_self ..) xa xc hxT hxc)
   rw [if_neg h0]
   obtain rfl:k=14:=by omega
   exact item_14 op neg n s _ base p xs w' hbase' hn0.1 hn0.2 (by omega) hw
end Go.Proofs.YtfmceonbejlhlaaGreatDoor
