import Derived.Test.YtfmceonbejlhlaaGreatDoorMWs11
import Derived.Test.YtfmceonbejlhlaaGreatDoorMWs34
import Derived.Test.YtfmceonbejlhlaaGreatDoorMWs36
namespace Go.Proofs.YtfmceonbejlhlaaGreatDoor
open Go.RowKit Go.Proofs.YtfmceonbejlhlaaGreatDoorW.PrintWords Go.Proofs.YtfmceonbejlhlaaGreatDoorW.PrintLast Go.Proofs.YtfmceonbejlhlaaGreatDoorW.PrintMore
set_option linter.unusedVariables false
section
variable {W:World} {g:Nat} {a b c d e:Value} (h:Row5 W g a b c d e)
include h
theorem Row5.w0 (u:Value):Row5 (W.setCell ⟨g,0,none⟩ u) g u b c d e:=by unfold Row5;rw [setCell_eq_setRow W g 0 _ _ _ u h];exact setRow_heap _ _ _ _ _ _ h
theorem Row5.w1 (u:Value):Row5 (W.setCell ⟨g,1,none⟩ u) g a u c d e:=by unfold Row5;rw [setCell_eq_setRow W g 1 _ _ _ u h];exact setRow_heap _ _ _ _ _ _ h
theorem Row5.w2 (u:Value):Row5 (W.setCell ⟨g,2,none⟩ u) g a b u d e:=by unfold Row5;rw [setCell_eq_setRow W g 2 _ _ _ u h];exact setRow_heap _ _ _ _ _ _ h
theorem Row5.w3 (u:Value):Row5 (W.setCell ⟨g,3,none⟩ u) g a b c u e:=by unfold Row5;rw [setCell_eq_setRow W g 3 _ _ _ u h];exact setRow_heap _ _ _ _ _ _ h
theorem Row5.w4 (u:Value):Row5 (W.setCell ⟨g,4,none⟩ u) g a b c d u:=by unfold Row5;rw [setCell_eq_setRow W g 4 _ _ _ u h];exact setRow_heap _ _ _ _ _ _ h
theorem Row5.put5 (u0 u1 u2 u3 u4:Value):Row5 (((((W.setCell ⟨g,0,none⟩ u0).setCell ⟨g,1,none⟩ u1).setCell ⟨g,2,none⟩ u2).setCell ⟨g,3,none⟩ u3).setCell ⟨g,4,none⟩ u4) g u0 u1 u2 u3 u4:=((((h.w0 u0).w1 u1).w2 u2).w3 u3).w4 u4
end
theorem Qa2 {B:Nat} {w W:World} (h:Below B w W) {g:Nat} (hg:B≤g) (u0 u1 u2 u3 u4:Value):Below B w (((((W.setCell ⟨g,0,none⟩ u0).setCell ⟨g,1,none⟩ u1).setCell ⟨g,2,none⟩ u2).setCell ⟨g,3,none⟩ u3).setCell ⟨g,4,none⟩ u4) :=
 ((((h.setCell (p:=⟨g,0,none⟩) hg _).setCell (p:=⟨g,1,none⟩) hg _).setCell (p:=⟨g,2,none⟩) hg _).setCell (p:=⟨g,3,none⟩) hg _).setCell (p:=⟨g,4,none⟩) hg _
set_option maxRecDepth 100000 in
set_option maxHeartbeats 4000000 in
theorem text_det (S:ByteArray):Det 51 #[.string S] (.agg #[.int .i64 10,.bool false,.int .u64 0,.string S,.slice none 0 0]):=by
 intro w
 have R:=Row5.new w (.int .i64 0) (.bool false) (.int .u64 0) (.string ⟨#[]⟩) (.slice none 0 0)
 go_enter Tryz.func51,Tryz.ntmps51
 go_wp2
 have Z:=Row5.new w (.int .i64 10) (.bool false) (.int .u64 0) (.string S) (.slice none 0 0)
 have z0:=Z.c0
 have z1:=Z.c1
 have z2:=Z.c2
 have z3:=Z.c3
 have z4:=Z.c4
 exact bodyPost_ret (v:=.agg #[.int .i64 10,.bool false,.int .u64 0,.string S,.slice none 0 0]) (by simp [results,Tryz.f51,go_sem,z0,z1,z2,z3,z4]) rfl ⟨rfl,(Below.refl _ _).alloc (Nat.le_refl _) _⟩
set_option maxRecDepth 100000 in
set_option maxHeartbeats 4000000 in
theorem may_any (f:Int) (hf:f=0 ∨ f=1 ∨ f=2) (t:T) (a:Option Addr) (c:Nat) (w:World) (P:Nat→Prop) (hP:∀ g,P g→g<w.heap.size) (hT:Tree w P t a) (hc:t.f4.length≤c) (hb:bulk t≤8796093022208) :
 Calls Tryz.prog 24 #[.int .i64 f,.agg #[.int .i64 t.f0,.bool t.f1,.int .u64 t.f2,.string t.f3,.slice a t.f4.length c]] w (Ret (.int .i64 (Qaz t)) w):=by
 have R:=Row5.new w (.int .i64 t.f0) (.bool t.f1) (.int .u64 t.f2) (.string t.f3) (.slice a t.f4.length c)
 have hb1:=(Below.refl w.heap.size w).alloc (Nat.le_refl _) (.cells #[.int .i64 t.f0,.bool t.f1,.int .u64 t.f2,.string t.f3,.slice a t.f4.length c] 25)
 have HC:=Lib.hid (checkT_any t a c _ P (fun g hg=>Nat.lt_of_lt_of_le (hP g hg) hb1.size) (Qaq (fun _ h=>h) (fun g hg=>hb1.block g (hP g hg)) hT) hc hb)
 have HB:=Lib.hid hb1
 have c0:=R.c0
 have c1:=R.c1
 have c2:=R.c2
 have c3:=R.c3
 have c4:=R.c4
 generalize Qaz t=r at HC ⊢
 clear R hb1 hT hc hb hP
 rcases hf with rfl | rfl | rfl
 all_goals
  go_enter Tryz.func24,Tryz.ntmps24
  go_wp2_with (go_at_call 16;refine HC.out.mono ?_;rintro ee w2 ⟨he,hb2⟩;subst he)
  go_ret
  exact ⟨rfl,HB.out.trans (hb2.mono HB.out.size)⟩
set_option maxRecDepth 100000 in
set_option maxHeartbeats 4000000 in
theorem printed_any (t:T) (a:Option Addr) (c:Nat) (w:World) (P:Nat→Prop) (hP:∀ g,P g→g<w.heap.size) (hT:Tree w P t a) (hc:t.f4.length≤c) (hb:bulk t≤2147483648) (hwf:Wf t) (hck:Qaz t=0) (ht:Tabs w) :
 Calls Tryz.prog 30 #[.agg #[.int .i64 t.f0,.bool t.f1,.int .u64 t.f2,.string t.f3,.slice a t.f4.length c]] w (fun e w'=>∃ S:ByteArray,e=.returned (.agg #[.int .i64 10,.bool false,.int .u64 0,.string S,.slice none 0 0])∧(Utf S∧S.size≤2048*bulk t - 1)∧Below w.heap.size w w'):=by
 have hq:Below w.heap.size w ((w.alloc (.cells #[.int .i64 t.f0,.bool t.f1,.int .u64 t.f2,.string t.f3,.slice a t.f4.length c] 25)).alloc (.cells #[.int .i64 0,.bool false,.int .u64 0,.string ⟨#[]⟩,.slice none 0 0] 25)):=((Below.refl w.heap.size w).alloc (Nat.le_refl _) _).alloc (by simp) _
 have R:=(Row5.new w (.int .i64 t.f0) (.bool t.f1) (.int .u64 t.f2) (.string t.f3) (.slice a t.f4.length c)).alloc (.cells #[.int .i64 0,.bool false,.int .u64 0,.string ⟨#[]⟩,.slice none 0 0] 25)
 have Z:=Row5.new (w.alloc (.cells #[.int .i64 t.f0,.bool t.f1,.int .u64 t.f2,.string t.f3,.slice a t.f4.length c] 25)) (.int .i64 0) (.bool false) (.int .u64 0) (.string ⟨#[]⟩) (.slice none 0 0)
 rw [World.size_alloc] at Z
 have HC:=Lib.hid (print_any t a c _ P (fun g hg=>Nat.lt_of_lt_of_le (hP g hg) hq.size) (Qaq (fun _ h=>h) (fun g hg=>hq.block g (hP g hg)) hT) hc hb hwf hck (ht.below hq))
 have HB:=Lib.hid hq
 have HZ:=Lib.hid Z
 have c0:=R.c0
 have c1:=R.c1
 have c2:=R.c2
 have c3:=R.c3
 have c4:=R.c4
 clear R hq Z hT hc hb hP hwf hck ht
 go_enter Tryz.func30,Tryz.ntmps30
 go_wp2_with (first
  | (go_at_call 56;refine HC.out.mono ?_;rintro ee w2 ⟨S,he,h1,h2,hb2⟩;subst he;have HS:=Lib.hid (show Utf S∧S.size≤2048*bulk t - 1 from ⟨h1,h2⟩);have HB2:=Lib.hid (HB.out.trans (hb2.mono HB.out.size));have Z2:=HZ.out.below hb2;have HZ2:=Lib.hid Z2;clear h1 h2 hb2 Z2)
  | (go_at_call 51;refine (text_det S _).mono ?_;rintro ee w3 ⟨he,hb3⟩;subst he;have HB3:=Lib.hid (HB2.out.trans (hb3.mono HB2.out.size));have Z3:=HZ2.out.below hb3;have z0:=Z3.c0;have z1:=Z3.c1;have z2:=Z3.c2;have z3:=Z3.c3;have z4:=Z3.c4;have y0:=Z3.fz 0;have y1:=Z3.fz 1;have y2:=Z3.fz 2;have y3:=Z3.fz 3;have y4:=Z3.fz 4;clear hb3))
 have Z5:=Z3.put5 (.int .i64 10) (.bool false) (.int .u64 0) (.string S) (.slice none 0 0)
 have k0:=Z5.c0
 have k1:=Z5.c1
 have k2:=Z5.c2
 have k3:=Z5.c3
 have k4:=Z5.c4
 exact bodyPost_ret (v:=.agg #[.int .i64 10,.bool false,.int .u64 0,.string S,.slice none 0 0]) (by simp [results,Tryz.f30,go_sem,k0,k1,k2,k3,k4]) rfl ⟨S,rfl,HS.out,Qa2 HB3.out (by omega) _ _ _ _ _⟩
set_option maxRecDepth 100000 in
set_option maxHeartbeats 4000000 in
theorem keyed_any (f:Int) (hf:f=0 ∨ f=1 ∨ f=2) (k:Int) (neg:Bool) (n:Int) (s:ByteArray) (ll:List T) (a:Option Addr) (c j:Nat) (x:T) (w:World) (hx:ll[j]? = some x) (hlm:ll.length≤17592186044416) (hT:∃ g off,a=some ⟨g,off,none⟩∧w.cell? ⟨g,off+j*5,none⟩=some (.int .i64 x.f0)) :
 Calls Tryz.prog 29 #[.int .i64 f,.agg #[.int .i64 k,.bool neg,.int .u64 n,.string s,.slice a ll.length c],.int .i64 j] w (Ret (.bool (!(keyB f (keyAt k j) x))) w):=by
 obtain ⟨g,off,rfl,hcell⟩:=hT
 have hjl:j<ll.length:=(List.getElem?_eq_some_iff.1 hx).1
 have R:=Row5.new w (.int .i64 k) (.bool neg) (.int .u64 n) (.string s) (.slice (some ⟨g,off,none⟩) ll.length c)
 have hb1:=(Below.refl w.heap.size w).alloc (Nat.le_refl _) (.cells #[.int .i64 k,.bool neg,.int .u64 n,.string s,.slice (some ⟨g,off,none⟩) ll.length c] 25)
 have hcell2:=(hb1.cell (p:=⟨g,off+j*5,none⟩) (block_lt_of_cell hcell)).trans hcell
 have hj0:(0:Int)≤(j:Int):=by omega
 have hj1:(j:Int)<(ll.length:Int):=by omega
 have hkb:(!keyB f (keyAt k j) x)=(f == 0 && (k == 12 && (j % 2 == 0 && x.f0 != 10))):=by
  unfold keyB keyAt
  cases (f == 0) <;> cases (k == 12) <;> cases (j % 2 == 0) <;> cases (x.f0 != 10) <;> rfl
 rw [hkb]
 have c0:=R.c0
 have c4:=R.c4
 have HB:=Lib.hid hb1
 clear hkb hb1 R hcell hx
 by_cases hf0:f=0
 · subst hf0
   by_cases hk:k=12
   · subst hk
     by_cases hm:j % 2=1
     · have hrem:(j:Int).tmod 2=1:=by rw [Int.tmod_eq_emod_of_nonneg (by omega)];omega
       have b2:(j % 2 == 0)=false:=by rw [hm];rfl
       rw [b2]
       clear hm b2
       go_enter Tryz.func29,Tryz.ntmps29
       go_wp2
       go_ret
       exact ⟨rfl,HB.out⟩
     · have hrem:(j:Int).tmod 2=0:=by rw [Int.tmod_eq_emod_of_nonneg (by omega)];omega
       have b2:(j % 2 == 0)=true:=by rw [show j % 2=0 by omega];rfl
       rw [b2]
       clear hm b2
       obtain ⟨z,hz⟩:∃ z,x.f0=z:=⟨_,rfl⟩
       rw [hz] at hcell2 ⊢
       clear hz
       go_enter Tryz.func29,Tryz.ntmps29
       go_wp2
       go_ret
       exact ⟨rfl,HB.out⟩
   · have b12:(k == 12)=false:=by simpa using hk
     rw [b12]
     go_enter Tryz.func29,Tryz.ntmps29
     go_wp2
     go_ret
     exact ⟨rfl,HB.out⟩
 · have b0:(f == 0)=false:=by simpa using hf0
   rw [b0]
   go_enter Tryz.func29,Tryz.ntmps29
   go_wp2
   go_ret
   exact ⟨rfl,HB.out⟩
open Go.RowKit Go.Proofs.YtfmceonbejlhlaaGreatDoorW.PrintWords Go.Proofs.YtfmceonbejlhlaaGreatDoorW.PrintLast Go.Proofs.YtfmceonbejlhlaaGreatDoorW.PrintMore
set_option linter.unusedVariables false
def LeafU (f:Int) (m:Nat) (u:T):Prop:=Wf u∧u.f4=[]∧nodeB u=true∧sayB f u.f0 u.f1 u.f2=true∧(leafF u.f0=true∧u.f0 ≠ 5)∧bulk u≤m∧u.f0 ≠ 9
def RuPost (f:Int) (m:Nat) (w:World) (e:Ending) (w':World):Prop:=∃ (u:T) (kd:Int),e=.returned (.tuple #[.agg #[.int .i64 u.f0,.bool u.f1,.int .u64 u.f2,.string u.f3,.slice none 0 0],.int .i64 kd])∧(LeafU f m u∧kd ≠ 0∧kd ≠ 5)∧Below w.heap.size w w'
theorem say_text (f:Int):sayB f 10 false 0=true:=sayB_10 f 0 false
theorem leafU_text {f:Int} {m:Nat} {S:ByteArray} (h:Utf S) (hs:S.size+1≤m):LeafU f m ⟨10,false,0,S,[]⟩:=by
 obtain ⟨h1,h2,_,_,_,h6,_⟩:=isText_ok (f:=f) (t:=⟨10,false,0,S,[]⟩) ⟨S,rfl,h,hs⟩
 exact ⟨h1,rfl,nodes_one h2,say_text f,⟨rfl,(by decide:(10:Int) ≠ 5)⟩,h6,(by decide:(10:Int) ≠ 9)⟩
theorem leafU_null {f:Int} {m:Nat} (hf:f=0 ∨ f=1 ∨ f=2) (hm:1≤m):LeafU f m ⟨0,false,0,⟨#[]⟩,[]⟩:=by
 refine ⟨wfT.2 ⟨by decide,by decide,trivial⟩,rfl,?_,?_,⟨rfl,by decide⟩,by simp only [bulk,bulkL];exact hm,by decide⟩
 · unfold nodeB oneF
   dsimp only
   rw [if_neg (by decide),if_neg (by decide),if_neg (by decide)]
   unfold tailF
   rw [if_neg (by decide),if_neg (by decide),if_neg (by decide),if_neg (by decide),if_neg (by decide),ByteArray.toList_eq]
   rfl
 · rcases hf with rfl | rfl | rfl <;> rfl
theorem leafU_float {f:Int} {m:Nat} {k n:Int} (hk:k=7∧n<4294967296 ∨ k=8) (hn:U64 n) (hs:sayB f k false n=true) (hm:1≤m):LeafU f m ⟨k,false,n,⟨#[]⟩,[]⟩:=by
 have hw:(Lit.int .u64 n).wf=true:=by
  obtain ⟨h0,h1⟩:=hn
  simp only [Lit.wf,decide_eq_true_eq,Bool.and_eq_true]
  refine ⟨?_,?_⟩
  · show (0:Int)≤n;omega
  · show n≤18446744073709551615;omega
 obtain ⟨h0,h1⟩:=hn
 refine ⟨wfT.2 ⟨?_,hw,trivial⟩,rfl,?_,hs,?_,by simp only [bulk,bulkL];exact hm,?_⟩
 · rcases hk with ⟨rfl,_⟩ | rfl <;> decide
 · have hb:bitsF k<64→n / 2 ^ (bitsF k).toNat=0:=by
    rcases hk with ⟨rfl,h⟩ | rfl
    · intro _
      have:(2:Int) ^ (bitsF 7).toNat=4294967296:=by decide
      rw [this];omega
    · intro h;exact absurd h (by decide)
   unfold nodeB oneF
   dsimp only
   rw [if_neg (by rcases hk with ⟨rfl,_⟩ | rfl <;> simp),if_neg (by rintro ⟨h2,h3⟩;exact h3 (hb h2)),if_neg (by rcases hk with ⟨rfl,_⟩ | rfl <;> decide)]
   unfold tailF
   rw [if_neg (by rcases hk with ⟨rfl,_⟩ | rfl <;> decide),if_neg (by rcases hk with ⟨rfl,_⟩ | rfl <;> decide),if_neg (by rcases hk with ⟨rfl,_⟩ | rfl <;> omega),if_neg (by rcases hk with ⟨rfl,_⟩ | rfl <;> omega),if_neg (by rcases hk with ⟨rfl,_⟩ | rfl <;> omega),ByteArray.toList_eq]
   simp
 · rcases hk with ⟨rfl,_⟩ | rfl
   · exact ⟨rfl,(by decide:(7:Int) ≠ 5)⟩
   · exact ⟨rfl,(by decide:(8:Int) ≠ 5)⟩
 · rcases hk with ⟨rfl,_⟩ | rfl
   · exact (by decide:(7:Int) ≠ 9)
   · exact (by decide:(8:Int) ≠ 9)
set_option maxRecDepth 100000 in
set_option maxHeartbeats 4000000 in
theorem rule_2 (f:Int) (hf:f=0 ∨ f=1 ∨ f=2) (neg:Bool) (n:Int) (hu:U64 n) (s:ByteArray) (a:Option Addr) (c m:Nat) (w:World) (hm:1≤m) (hs:sayB f 2 neg n=false) :
 Calls Tryz.prog 27 #[.int .i64 f,.agg #[.int .i64 2,.bool neg,.int .u64 n,.string s,.slice a 0 c]] w (RuPost f m w):=by
 have HF:=Lib.hid hf
 have R:=(Row5.new w (.int .i64 2) (.bool neg) (.int .u64 n) (.string s) (.slice a 0 c)).alloc (.cells #[.int .i64 0,.bool false,.int .u64 0,.string ⟨#[]⟩,.slice none 0 0] 25)
 have Z:=Row5.new (w.alloc (.cells #[.int .i64 2,.bool neg,.int .u64 n,.string s,.slice a 0 c] 25)) (.int .i64 0) (.bool false) (.int .u64 0) (.string ⟨#[]⟩) (.slice none 0 0)
 rw [World.size_alloc] at Z
 have hq:=((Below.refl w.heap.size w).alloc (Nat.le_refl _) (.cells #[.int .i64 2,.bool neg,.int .u64 n,.string s,.slice a 0 c] 25)).alloc (by simp) (.cells #[.int .i64 0,.bool false,.int .u64 0,.string ⟨#[]⟩,.slice none 0 0] 25)
 have hO:=Qby f hf 2 neg n hu s (.slice a 0 c)
 rw [hs] at hO
 have HO:=Lib.hid hO
 have HB:=Lib.hid hq
 have HR:=Lib.hid R
 have HZ:=Lib.hid Z
 have c0:=R.c0
 have c1:=R.c1
 have c2:=R.c2
 have c3:=R.c3
 have c4:=R.c4
 clear R Z hq hO hs
 clear hf
 go_enter Tryz.func27,Tryz.ntmps27
 go_wp2_with (go_at_call 49;refine (HO.out _).mono ?_;rintro ee w2 ⟨he,hb2⟩;subst he;have HB2:=Lib.hid (HB.out.trans (hb2.mono HB.out.size));have R2:=HR.out.below hb2;have Z2:=HZ.out.below hb2;have HR2:=Lib.hid R2;have HZ2:=Lib.hid Z2;have c0:=R2.c0;have c1:=R2.c1;have c2:=R2.c2;have c3:=R2.c3;have c4:=R2.c4;have z0:=Z2.c0;have z1:=Z2.c1;have z2:=Z2.c2;have z3:=Z2.c3;have z4:=Z2.c4;have y0:=Z2.fz 0;have y1:=Z2.fz 1;have y2:=Z2.fz 2;have y3:=Z2.fz 3;have y4:=Z2.fz 4;clear hb2 R2 Z2)
 have Z5:=HZ2.out.put5 (.int .i64 0) (.bool false) (.int .u64 0) (.string ⟨#[]⟩) (.slice none 0 0)
 have k0:=Z5.c0
 have k1:=Z5.c1
 have k2:=Z5.c2
 have k3:=Z5.c3
 have k4:=Z5.c4
 exact bodyPost_ret (v:=.tuple #[.agg #[.int .i64 0,.bool false,.int .u64 0,.string ⟨#[]⟩,.slice none 0 0],.int .i64 1]) (by simp [results,Tryz.f27,go_sem,k0,k1,k2,k3,k4]) rfl ⟨⟨0,false,0,⟨#[]⟩,[]⟩,1,rfl,⟨leafU_null HF.out hm,by decide,by decide⟩,Qa2 HB2.out (by omega) _ _ _ _ _⟩
set_option maxRecDepth 100000 in
set_option maxHeartbeats 4000000 in
theorem rule_3 (f:Int) (hf:f=0 ∨ f=1 ∨ f=2) (neg:Bool) (n:Int) (hu:U64 n) (s:ByteArray) (a:Option Addr) (c m:Nat) (w:World) (hm:1≤m) (hs:sayB f 3 neg n=false) :
 Calls Tryz.prog 27 #[.int .i64 f,.agg #[.int .i64 3,.bool neg,.int .u64 n,.string s,.slice a 0 c]] w (RuPost f m w):=by
 have HF:=Lib.hid hf
 have R:=(Row5.new w (.int .i64 3) (.bool neg) (.int .u64 n) (.string s) (.slice a 0 c)).alloc (.cells #[.int .i64 0,.bool false,.int .u64 0,.string ⟨#[]⟩,.slice none 0 0] 25)
 have Z:=Row5.new (w.alloc (.cells #[.int .i64 3,.bool neg,.int .u64 n,.string s,.slice a 0 c] 25)) (.int .i64 0) (.bool false) (.int .u64 0) (.string ⟨#[]⟩) (.slice none 0 0)
 rw [World.size_alloc] at Z
 have hq:=((Below.refl w.heap.size w).alloc (Nat.le_refl _) (.cells #[.int .i64 3,.bool neg,.int .u64 n,.string s,.slice a 0 c] 25)).alloc (by simp) (.cells #[.int .i64 0,.bool false,.int .u64 0,.string ⟨#[]⟩,.slice none 0 0] 25)
 have hO:=Qby f hf 3 neg n hu s (.slice a 0 c)
 rw [hs] at hO
 have HO:=Lib.hid hO
 have HB:=Lib.hid hq
 have HR:=Lib.hid R
 have HZ:=Lib.hid Z
 have c0:=R.c0
 have c1:=R.c1
 have c2:=R.c2
 have c3:=R.c3
 have c4:=R.c4
 clear R Z hq hO hs
 clear hf
 go_enter Tryz.func27,Tryz.ntmps27
 go_wp2_with (go_at_call 49;refine (HO.out _).mono ?_;rintro ee w2 ⟨he,hb2⟩;subst he;have HB2:=Lib.hid (HB.out.trans (hb2.mono HB.out.size));have R2:=HR.out.below hb2;have Z2:=HZ.out.below hb2;have HR2:=Lib.hid R2;have HZ2:=Lib.hid Z2;have c0:=R2.c0;have c1:=R2.c1;have c2:=R2.c2;have c3:=R2.c3;have c4:=R2.c4;have z0:=Z2.c0;have z1:=Z2.c1;have z2:=Z2.c2;have z3:=Z2.c3;have z4:=Z2.c4;have y0:=Z2.fz 0;have y1:=Z2.fz 1;have y2:=Z2.fz 2;have y3:=Z2.fz 3;have y4:=Z2.fz 4;clear hb2 R2 Z2)
 have Z5:=HZ2.out.put5 (.int .i64 0) (.bool false) (.int .u64 0) (.string ⟨#[]⟩) (.slice none 0 0)
 have k0:=Z5.c0
 have k1:=Z5.c1
 have k2:=Z5.c2
 have k3:=Z5.c3
 have k4:=Z5.c4
 exact bodyPost_ret (v:=.tuple #[.agg #[.int .i64 0,.bool false,.int .u64 0,.string ⟨#[]⟩,.slice none 0 0],.int .i64 1]) (by simp [results,Tryz.f27,go_sem,k0,k1,k2,k3,k4]) rfl ⟨⟨0,false,0,⟨#[]⟩,[]⟩,1,rfl,⟨leafU_null HF.out hm,by decide,by decide⟩,Qa2 HB2.out (by omega) _ _ _ _ _⟩
set_option maxRecDepth 100000 in
set_option maxHeartbeats 4000000 in
theorem rule_4n (f:Int) (hf:f=0 ∨ f=1 ∨ f=2) (n:Int) (hu:U64 n) (s:ByteArray) (a:Option Addr) (c m:Nat) (w:World) (hz:s.size=0) (hm:2001≤m) (hs:sayB f 4 true n=false) :
 Calls Tryz.prog 27 #[.int .i64 f,.agg #[.int .i64 4,.bool true,.int .u64 n,.string s,.slice a 0 c]] w (RuPost f m w):=by
 obtain ⟨N,rfl⟩:∃ N:Nat,n=N:=⟨n.toNat,by have:=hu.1;omega⟩
 have hN:N<18446744073709551616:=by have:=hu.2;omega
 have HHz:=Lib.hid hz
 have R:=(Row5.new w (.int .i64 4) (.bool true) (.int .u64 N) (.string s) (.slice a 0 c)).alloc (.cells #[.int .i64 0,.bool false,.int .u64 0,.string ⟨#[]⟩,.slice none 0 0] 25)
 have Z:=Row5.new (w.alloc (.cells #[.int .i64 4,.bool true,.int .u64 N,.string s,.slice a 0 c] 25)) (.int .i64 0) (.bool false) (.int .u64 0) (.string ⟨#[]⟩) (.slice none 0 0)
 rw [World.size_alloc] at Z
 have hq:=((Below.refl w.heap.size w).alloc (Nat.le_refl _) (.cells #[.int .i64 4,.bool true,.int .u64 N,.string s,.slice a 0 c] 25)).alloc (by simp) (.cells #[.int .i64 0,.bool false,.int .u64 0,.string ⟨#[]⟩,.slice none 0 0] 25)
 have hO:=Qby f hf 4 true (N:Int) hu s (.slice a 0 c)
 rw [hs] at hO
 have HO:=Lib.hid hO
 have HB:=Lib.hid hq
 have HR:=Lib.hid R
 have HZ:=Lib.hid Z
 have c0:=R.c0
 have c1:=R.c1
 have c2:=R.c2
 have c3:=R.c3
 have c4:=R.c4
 clear R Z hq hO hs
 clear hf hz hu
 go_enter Tryz.func27,Tryz.ntmps27
 go_wp2_with (first
  | (go_at_call 49;refine (HO.out _).mono ?_;rintro ee w2 ⟨he,hb2⟩;subst he;have HB2:=Lib.hid (HB.out.trans (hb2.mono HB.out.size));have R2:=HR.out.below hb2;have Z2:=HZ.out.below hb2;have HR2:=Lib.hid R2;have HZ2:=Lib.hid Z2;have c0:=R2.c0;have c1:=R2.c1;have c2:=R2.c2;have c3:=R2.c3;have c4:=R2.c4;have z0:=Z2.c0;have z1:=Z2.c1;have z2:=Z2.c2;have z3:=Z2.c3;have z4:=Z2.c4;have y0:=Z2.fz 0;have y1:=Z2.fz 1;have y2:=Z2.fz 2;have y3:=Z2.fz 3;have y4:=Z2.fz 4;clear hb2 R2 Z2)
  | (go_at_call 50;refine (numtext_int_n N hN s a c w2 HHz.out).mono ?_;unfold NtPost;rintro ee w3 ⟨tq,he,h1,h2,h3,hb3⟩;subst he;have HT:=Lib.hid (show Asc tq∧tq.size≤2000 from ⟨h1,h3⟩);have HB3:=Lib.hid (HB2.out.trans (hb3.mono HB2.out.size));have HZ3:=Lib.hid (HZ2.out.below hb3);clear h1 h2 h3 hb3)
  | (go_at_call 51;refine (text_det tq _).mono ?_;rintro ee w4 ⟨he,hb4⟩;subst he;have HB4:=Lib.hid (HB3.out.trans (hb4.mono HB3.out.size));have Z4:=HZ3.out.below hb4;have HZ4:=Lib.hid Z4;have z0:=Z4.c0;have z1:=Z4.c1;have z2:=Z4.c2;have z3:=Z4.c3;have z4:=Z4.c4;have y0:=Z4.fz 0;have y1:=Z4.fz 1;have y2:=Z4.fz 2;have y3:=Z4.fz 3;have y4:=Z4.fz 4;clear hb4 Z4))
 have Z5:=HZ4.out.put5 (.int .i64 10) (.bool false) (.int .u64 0) (.string tq) (.slice none 0 0)
 have k0:=Z5.c0
 have k1:=Z5.c1
 have k2:=Z5.c2
 have k3:=Z5.c3
 have k4:=Z5.c4
 exact bodyPost_ret (v:=.tuple #[.agg #[.int .i64 10,.bool false,.int .u64 0,.string tq,.slice none 0 0],.int .i64 8]) (by simp [results,Tryz.f27,go_sem,k0,k1,k2,k3,k4]) rfl ⟨⟨10,false,0,tq,[]⟩,8,rfl,⟨leafU_text HT.out.1.utf (by have:=HT.out.2;omega),by decide,by decide⟩,Qa2 HB4.out (by omega) _ _ _ _ _⟩
set_option maxRecDepth 100000 in
set_option maxHeartbeats 4000000 in
theorem rule_4p (f:Int) (hf:f=0 ∨ f=1 ∨ f=2) (n:Int) (hu:U64 n) (s:ByteArray) (a:Option Addr) (c m:Nat) (w:World) (hz:s.size=0) (hm:2001≤m) (hs:sayB f 4 false n=false) :
 Calls Tryz.prog 27 #[.int .i64 f,.agg #[.int .i64 4,.bool false,.int .u64 n,.string s,.slice a 0 c]] w (RuPost f m w):=by
 obtain ⟨N,rfl⟩:∃ N:Nat,n=N:=⟨n.toNat,by have:=hu.1;omega⟩
 have hN:N<18446744073709551616:=by have:=hu.2;omega
 have HHz:=Lib.hid hz
 have R:=(Row5.new w (.int .i64 4) (.bool false) (.int .u64 N) (.string s) (.slice a 0 c)).alloc (.cells #[.int .i64 0,.bool false,.int .u64 0,.string ⟨#[]⟩,.slice none 0 0] 25)
 have Z:=Row5.new (w.alloc (.cells #[.int .i64 4,.bool false,.int .u64 N,.string s,.slice a 0 c] 25)) (.int .i64 0) (.bool false) (.int .u64 0) (.string ⟨#[]⟩) (.slice none 0 0)
 rw [World.size_alloc] at Z
 have hq:=((Below.refl w.heap.size w).alloc (Nat.le_refl _) (.cells #[.int .i64 4,.bool false,.int .u64 N,.string s,.slice a 0 c] 25)).alloc (by simp) (.cells #[.int .i64 0,.bool false,.int .u64 0,.string ⟨#[]⟩,.slice none 0 0] 25)
 have hO:=Qby f hf 4 false (N:Int) hu s (.slice a 0 c)
 rw [hs] at hO
 have HO:=Lib.hid hO
 have HB:=Lib.hid hq
 have HR:=Lib.hid R
 have HZ:=Lib.hid Z
 have c0:=R.c0
 have c1:=R.c1
 have c2:=R.c2
 have c3:=R.c3
 have c4:=R.c4
 clear R Z hq hO hs
 clear hf hz hu
 go_enter Tryz.func27,Tryz.ntmps27
 go_wp2_with (first
  | (go_at_call 49;refine (HO.out _).mono ?_;rintro ee w2 ⟨he,hb2⟩;subst he;have HB2:=Lib.hid (HB.out.trans (hb2.mono HB.out.size));have R2:=HR.out.below hb2;have Z2:=HZ.out.below hb2;have HR2:=Lib.hid R2;have HZ2:=Lib.hid Z2;have c0:=R2.c0;have c1:=R2.c1;have c2:=R2.c2;have c3:=R2.c3;have c4:=R2.c4;have z0:=Z2.c0;have z1:=Z2.c1;have z2:=Z2.c2;have z3:=Z2.c3;have z4:=Z2.c4;have y0:=Z2.fz 0;have y1:=Z2.fz 1;have y2:=Z2.fz 2;have y3:=Z2.fz 3;have y4:=Z2.fz 4;clear hb2 R2 Z2)
  | (go_at_call 50;refine (numtext_int_p N hN s a c w2 HHz.out).mono ?_;unfold NtPost;rintro ee w3 ⟨tq,he,h1,h2,h3,hb3⟩;subst he;have HT:=Lib.hid (show Asc tq∧tq.size≤2000 from ⟨h1,h3⟩);have HB3:=Lib.hid (HB2.out.trans (hb3.mono HB2.out.size));have HZ3:=Lib.hid (HZ2.out.below hb3);clear h1 h2 h3 hb3)
  | (go_at_call 51;refine (text_det tq _).mono ?_;rintro ee w4 ⟨he,hb4⟩;subst he;have HB4:=Lib.hid (HB3.out.trans (hb4.mono HB3.out.size));have Z4:=HZ3.out.below hb4;have HZ4:=Lib.hid Z4;have z0:=Z4.c0;have z1:=Z4.c1;have z2:=Z4.c2;have z3:=Z4.c3;have z4:=Z4.c4;have y0:=Z4.fz 0;have y1:=Z4.fz 1;have y2:=Z4.fz 2;have y3:=Z4.fz 3;have y4:=Z4.fz 4;clear hb4 Z4))
 have Z5:=HZ4.out.put5 (.int .i64 10) (.bool false) (.int .u64 0) (.string tq) (.slice none 0 0)
 have k0:=Z5.c0
 have k1:=Z5.c1
 have k2:=Z5.c2
 have k3:=Z5.c3
 have k4:=Z5.c4
 exact bodyPost_ret (v:=.tuple #[.agg #[.int .i64 10,.bool false,.int .u64 0,.string tq,.slice none 0 0],.int .i64 8]) (by simp [results,Tryz.f27,go_sem,k0,k1,k2,k3,k4]) rfl ⟨⟨10,false,0,tq,[]⟩,8,rfl,⟨leafU_text HT.out.1.utf (by have:=HT.out.2;omega),by decide,by decide⟩,Qa2 HB4.out (by omega) _ _ _ _ _⟩
set_option maxRecDepth 100000 in
set_option maxHeartbeats 4000000 in
theorem rule_5n (f:Int) (hf:f=0 ∨ f=1 ∨ f=2) (n:Int) (hu:U64 n) (s:ByteArray) (a:Option Addr) (c m:Nat) (w:World) (hz:8<s.size∧s.size≤512∧(strB s).getD 0 0 ≠ 0) (hn0:n=0) (hm:2001≤m) (hs:sayB f 5 true n=false) :
 Calls Tryz.prog 27 #[.int .i64 f,.agg #[.int .i64 5,.bool true,.int .u64 n,.string s,.slice a 0 c]] w (RuPost f m w):=by
 subst hn0
 have HHz:=Lib.hid hz
 have R:=(Row5.new w (.int .i64 5) (.bool true) (.int .u64 0) (.string s) (.slice a 0 c)).alloc (.cells #[.int .i64 0,.bool false,.int .u64 0,.string ⟨#[]⟩,.slice none 0 0] 25)
 have Z:=Row5.new (w.alloc (.cells #[.int .i64 5,.bool true,.int .u64 0,.string s,.slice a 0 c] 25)) (.int .i64 0) (.bool false) (.int .u64 0) (.string ⟨#[]⟩) (.slice none 0 0)
 rw [World.size_alloc] at Z
 have hq:=((Below.refl w.heap.size w).alloc (Nat.le_refl _) (.cells #[.int .i64 5,.bool true,.int .u64 0,.string s,.slice a 0 c] 25)).alloc (by simp) (.cells #[.int .i64 0,.bool false,.int .u64 0,.string ⟨#[]⟩,.slice none 0 0] 25)
 have hO:=Qby f hf 5 true 0 hu s (.slice a 0 c)
 rw [hs] at hO
 have HO:=Lib.hid hO
 have HB:=Lib.hid hq
 have HR:=Lib.hid R
 have HZ:=Lib.hid Z
 have c0:=R.c0
 have c1:=R.c1
 have c2:=R.c2
 have c3:=R.c3
 have c4:=R.c4
 clear R Z hq hO hs
 clear hf hz hu
 go_enter Tryz.func27,Tryz.ntmps27
 go_wp2_with (first
  | (go_at_call 49;refine (HO.out _).mono ?_;rintro ee w2 ⟨he,hb2⟩;subst he;have HB2:=Lib.hid (HB.out.trans (hb2.mono HB.out.size));have R2:=HR.out.below hb2;have Z2:=HZ.out.below hb2;have HR2:=Lib.hid R2;have HZ2:=Lib.hid Z2;have c0:=R2.c0;have c1:=R2.c1;have c2:=R2.c2;have c3:=R2.c3;have c4:=R2.c4;have z0:=Z2.c0;have z1:=Z2.c1;have z2:=Z2.c2;have z3:=Z2.c3;have z4:=Z2.c4;have y0:=Z2.fz 0;have y1:=Z2.fz 1;have y2:=Z2.fz 2;have y3:=Z2.fz 3;have y4:=Z2.fz 4;clear hb2 R2 Z2)
  | (go_at_call 50;refine (numtext_big_n s a c w2 HHz.out.1 HHz.out.2.1 HHz.out.2.2).mono ?_;unfold NtPost;rintro ee w3 ⟨tq,he,h1,h2,h3,hb3⟩;subst he;have HT:=Lib.hid (show Asc tq∧tq.size≤2000 from ⟨h1,h3⟩);have HB3:=Lib.hid (HB2.out.trans (hb3.mono HB2.out.size));have HZ3:=Lib.hid (HZ2.out.below hb3);clear h1 h2 h3 hb3)
  | (go_at_call 51;refine (text_det tq _).mono ?_;rintro ee w4 ⟨he,hb4⟩;subst he;have HB4:=Lib.hid (HB3.out.trans (hb4.mono HB3.out.size));have Z4:=HZ3.out.below hb4;have HZ4:=Lib.hid Z4;have z0:=Z4.c0;have z1:=Z4.c1;have z2:=Z4.c2;have z3:=Z4.c3;have z4:=Z4.c4;have y0:=Z4.fz 0;have y1:=Z4.fz 1;have y2:=Z4.fz 2;have y3:=Z4.fz 3;have y4:=Z4.fz 4;clear hb4 Z4))
 have Z5:=HZ4.out.put5 (.int .i64 10) (.bool false) (.int .u64 0) (.string tq) (.slice none 0 0)
 have k0:=Z5.c0
 have k1:=Z5.c1
 have k2:=Z5.c2
 have k3:=Z5.c3
 have k4:=Z5.c4
 exact bodyPost_ret (v:=.tuple #[.agg #[.int .i64 10,.bool false,.int .u64 0,.string tq,.slice none 0 0],.int .i64 8]) (by simp [results,Tryz.f27,go_sem,k0,k1,k2,k3,k4]) rfl ⟨⟨10,false,0,tq,[]⟩,8,rfl,⟨leafU_text HT.out.1.utf (by have:=HT.out.2;omega),by decide,by decide⟩,Qa2 HB4.out (by omega) _ _ _ _ _⟩
set_option maxRecDepth 100000 in
set_option maxHeartbeats 4000000 in
theorem rule_5p (f:Int) (hf:f=0 ∨ f=1 ∨ f=2) (n:Int) (hu:U64 n) (s:ByteArray) (a:Option Addr) (c m:Nat) (w:World) (hz:8<s.size∧s.size≤512∧(strB s).getD 0 0 ≠ 0) (hn0:n=0) (hm:2001≤m) (hs:sayB f 5 false n=false) :
 Calls Tryz.prog 27 #[.int .i64 f,.agg #[.int .i64 5,.bool false,.int .u64 n,.string s,.slice a 0 c]] w (RuPost f m w):=by
 subst hn0
 have HHz:=Lib.hid hz
 have R:=(Row5.new w (.int .i64 5) (.bool false) (.int .u64 0) (.string s) (.slice a 0 c)).alloc (.cells #[.int .i64 0,.bool false,.int .u64 0,.string ⟨#[]⟩,.slice none 0 0] 25)
 have Z:=Row5.new (w.alloc (.cells #[.int .i64 5,.bool false,.int .u64 0,.string s,.slice a 0 c] 25)) (.int .i64 0) (.bool false) (.int .u64 0) (.string ⟨#[]⟩) (.slice none 0 0)
 rw [World.size_alloc] at Z
 have hq:=((Below.refl w.heap.size w).alloc (Nat.le_refl _) (.cells #[.int .i64 5,.bool false,.int .u64 0,.string s,.slice a 0 c] 25)).alloc (by simp) (.cells #[.int .i64 0,.bool false,.int .u64 0,.string ⟨#[]⟩,.slice none 0 0] 25)
 have hO:=Qby f hf 5 false 0 hu s (.slice a 0 c)
 rw [hs] at hO
 have HO:=Lib.hid hO
 have HB:=Lib.hid hq
 have HR:=Lib.hid R
 have HZ:=Lib.hid Z
 have c0:=R.c0
 have c1:=R.c1
 have c2:=R.c2
 have c3:=R.c3
 have c4:=R.c4
 clear R Z hq hO hs
 clear hf hz hu
 go_enter Tryz.func27,Tryz.ntmps27
 go_wp2_with (first
  | (go_at_call 49;refine (HO.out _).mono ?_;rintro ee w2 ⟨he,hb2⟩;subst he;have HB2:=Lib.hid (HB.out.trans (hb2.mono HB.out.size));have R2:=HR.out.below hb2;have Z2:=HZ.out.below hb2;have HR2:=Lib.hid R2;have HZ2:=Lib.hid Z2;have c0:=R2.c0;have c1:=R2.c1;have c2:=R2.c2;have c3:=R2.c3;have c4:=R2.c4;have z0:=Z2.c0;have z1:=Z2.c1;have z2:=Z2.c2;have z3:=Z2.c3;have z4:=Z2.c4;have y0:=Z2.fz 0;have y1:=Z2.fz 1;have y2:=Z2.fz 2;have y3:=Z2.fz 3;have y4:=Z2.fz 4;clear hb2 R2 Z2)
  | (go_at_call 50;refine (numtext_big_p s a c w2 HHz.out.1 HHz.out.2.1 HHz.out.2.2).mono ?_;unfold NtPost;rintro ee w3 ⟨tq,he,h1,h2,h3,hb3⟩;subst he;have HT:=Lib.hid (show Asc tq∧tq.size≤2000 from ⟨h1,h3⟩);have HB3:=Lib.hid (HB2.out.trans (hb3.mono HB2.out.size));have HZ3:=Lib.hid (HZ2.out.below hb3);clear h1 h2 h3 hb3)
  | (go_at_call 51;refine (text_det tq _).mono ?_;rintro ee w4 ⟨he,hb4⟩;subst he;have HB4:=Lib.hid (HB3.out.trans (hb4.mono HB3.out.size));have Z4:=HZ3.out.below hb4;have HZ4:=Lib.hid Z4;have z0:=Z4.c0;have z1:=Z4.c1;have z2:=Z4.c2;have z3:=Z4.c3;have z4:=Z4.c4;have y0:=Z4.fz 0;have y1:=Z4.fz 1;have y2:=Z4.fz 2;have y3:=Z4.fz 3;have y4:=Z4.fz 4;clear hb4 Z4))
 have Z5:=HZ4.out.put5 (.int .i64 10) (.bool false) (.int .u64 0) (.string tq) (.slice none 0 0)
 have k0:=Z5.c0
 have k1:=Z5.c1
 have k2:=Z5.c2
 have k3:=Z5.c3
 have k4:=Z5.c4
 exact bodyPost_ret (v:=.tuple #[.agg #[.int .i64 10,.bool false,.int .u64 0,.string tq,.slice none 0 0],.int .i64 8]) (by simp [results,Tryz.f27,go_sem,k0,k1,k2,k3,k4]) rfl ⟨⟨10,false,0,tq,[]⟩,8,rfl,⟨leafU_text HT.out.1.utf (by have:=HT.out.2;omega),by decide,by decide⟩,Qa2 HB4.out (by omega) _ _ _ _ _⟩
set_option maxRecDepth 100000 in
set_option maxHeartbeats 4000000 in
theorem rule_9 (f:Int) (hf:f=0 ∨ f=1 ∨ f=2) (neg:Bool) (n:Int) (hu:U64 n) (s:ByteArray) (a:Option Addr) (c m:Nat) (w:World) (hz:s.size≤1099511627776) (hm:2*s.size+2≤m) (hs:sayB f 9 neg n=false) :
 Calls Tryz.prog 27 #[.int .i64 f,.agg #[.int .i64 9,.bool neg,.int .u64 n,.string s,.slice a 0 c]] w (RuPost f m w):=by
 have HHz:=Lib.hid hz
 have HM:=Lib.hid hm
 have kb:=fun W=>Qcb (P:=Tryz.prog) 9 26 5 Tryz.underlying9 Tryz.underlying26 Tryz.underlying5 s W
 have HC:=Lib.hid (fun (W:World) cp (hcp:s.size≤cp)=>bencode_any (kk:=2) (L:=u64L) (b:=6) (.inr ⟨rfl,rfl,rfl⟩) s W.heap.size cp (Lib.bytesWorld W 5 s) hz (rowb_new W s) hcp)
 have R:=(Row5.new w (.int .i64 9) (.bool neg) (.int .u64 n) (.string s) (.slice a 0 c)).alloc (.cells #[.int .i64 0,.bool false,.int .u64 0,.string ⟨#[]⟩,.slice none 0 0] 25)
 have Z:=Row5.new (w.alloc (.cells #[.int .i64 9,.bool neg,.int .u64 n,.string s,.slice a 0 c] 25)) (.int .i64 0) (.bool false) (.int .u64 0) (.string ⟨#[]⟩) (.slice none 0 0)
 rw [World.size_alloc] at Z
 have hq:=((Below.refl w.heap.size w).alloc (Nat.le_refl _) (.cells #[.int .i64 9,.bool neg,.int .u64 n,.string s,.slice a 0 c] 25)).alloc (by simp) (.cells #[.int .i64 0,.bool false,.int .u64 0,.string ⟨#[]⟩,.slice none 0 0] 25)
 have hO:=Qby f hf 9 neg n hu s (.slice a 0 c)
 rw [hs] at hO
 have HO:=Lib.hid hO
 have HB:=Lib.hid hq
 have HR:=Lib.hid R
 have HZ:=Lib.hid Z
 have c0:=R.c0
 have c1:=R.c1
 have c2:=R.c2
 have c3:=R.c3
 have c4:=R.c4
 clear R Z hq hO hs
 clear hf hz hm
 go_enter Tryz.func27,Tryz.ntmps27
 go_wp2_with (first
  | (go_at_call 49;refine (HO.out _).mono ?_;rintro ee w2 ⟨he,hb2⟩;subst he;have HB2:=Lib.hid (HB.out.trans (hb2.mono HB.out.size));have R2:=HR.out.below hb2;have Z2:=HZ.out.below hb2;have HR2:=Lib.hid R2;have HZ2:=Lib.hid Z2;have c0:=R2.c0;have c1:=R2.c1;have c2:=R2.c2;have c3:=R2.c3;have c4:=R2.c4;have z0:=Z2.c0;have z1:=Z2.c1;have z2:=Z2.c2;have z3:=Z2.c3;have z4:=Z2.c4;have y0:=Z2.fz 0;have y1:=Z2.fz 1;have y2:=Z2.fz 2;have y3:=Z2.fz 3;have y4:=Z2.fz 4;clear hb2 R2 Z2)
  | (go_at_call 52;refine (HC.out w2 _ (grownCap_ge w2 s.size 0 5)).mono ?_;rintro ee w3 ⟨tq,he,h1,h2,hb3⟩;subst he;have hbb:=bytes_below (Below.refl w2.heap.size w2) (Nat.le_refl _) 5 s;have HT:=Lib.hid (show Asc tq∧tq.size≤2*s.size+1 from ⟨h1,h2⟩);have HB3:=Lib.hid ((HB2.out.trans (hbb.mono HB2.out.size)).trans (hb3.mono (HB2.out.trans (hbb.mono HB2.out.size)).size));have HZ3:=Lib.hid ((HZ2.out.below hbb).below hb3);clear h1 h2 hb3 hbb)
  | (go_at_call 51;refine (text_det tq _).mono ?_;rintro ee w4 ⟨he,hb4⟩;subst he;have HB4:=Lib.hid (HB3.out.trans (hb4.mono HB3.out.size));have Z4:=HZ3.out.below hb4;have HZ4:=Lib.hid Z4;have z0:=Z4.c0;have z1:=Z4.c1;have z2:=Z4.c2;have z3:=Z4.c3;have z4:=Z4.c4;have y0:=Z4.fz 0;have y1:=Z4.fz 1;have y2:=Z4.fz 2;have y3:=Z4.fz 3;have y4:=Z4.fz 4;clear hb4 Z4))
 have Z5:=HZ4.out.put5 (.int .i64 10) (.bool false) (.int .u64 0) (.string tq) (.slice none 0 0)
 have k0:=Z5.c0
 have k1:=Z5.c1
 have k2:=Z5.c2
 have k3:=Z5.c3
 have k4:=Z5.c4
 exact bodyPost_ret (v:=.tuple #[.agg #[.int .i64 10,.bool false,.int .u64 0,.string tq,.slice none 0 0],.int .i64 4]) (by simp [results,Tryz.f27,go_sem,k0,k1,k2,k3,k4]) rfl ⟨⟨10,false,0,tq,[]⟩,4,rfl,⟨leafU_text HT.out.1.utf (by have:=HT.out.2;have:=HM.out;omega),by decide,by decide⟩,Qa2 HB4.out (by omega) _ _ _ _ _⟩
set_option maxRecDepth 100000 in
set_option maxHeartbeats 4000000 in
theorem rule_14 (f:Int) (hf:f=0 ∨ f=1 ∨ f=2) (neg:Bool) (n:Int) (hu:U64 n) (s:ByteArray) (a:Option Addr) (c m:Nat) (w:World) (hz:s.size≤1099511627776) (hm:2*s.size+2≤m) (hs:sayB f 14 neg n=false) :
 Calls Tryz.prog 27 #[.int .i64 f,.agg #[.int .i64 14,.bool neg,.int .u64 n,.string s,.slice a 0 c]] w (RuPost f m w):=by
 have HHz:=Lib.hid hz
 have HM:=Lib.hid hm
 have kb:=fun W=>Qcb (P:=Tryz.prog) 9 26 5 Tryz.underlying9 Tryz.underlying26 Tryz.underlying5 s W
 have HC:=Lib.hid (fun (W:World) cp (hcp:s.size≤cp)=>bencode_any (kk:=2) (L:=u64L) (b:=6) (.inr ⟨rfl,rfl,rfl⟩) s W.heap.size cp (Lib.bytesWorld W 5 s) hz (rowb_new W s) hcp)
 have R:=(Row5.new w (.int .i64 14) (.bool neg) (.int .u64 n) (.string s) (.slice a 0 c)).alloc (.cells #[.int .i64 0,.bool false,.int .u64 0,.string ⟨#[]⟩,.slice none 0 0] 25)
 have Z:=Row5.new (w.alloc (.cells #[.int .i64 14,.bool neg,.int .u64 n,.string s,.slice a 0 c] 25)) (.int .i64 0) (.bool false) (.int .u64 0) (.string ⟨#[]⟩) (.slice none 0 0)
 rw [World.size_alloc] at Z
 have hq:=((Below.refl w.heap.size w).alloc (Nat.le_refl _) (.cells #[.int .i64 14,.bool neg,.int .u64 n,.string s,.slice a 0 c] 25)).alloc (by simp) (.cells #[.int .i64 0,.bool false,.int .u64 0,.string ⟨#[]⟩,.slice none 0 0] 25)
 have hO:=Qby f hf 14 neg n hu s (.slice a 0 c)
 rw [hs] at hO
 have HO:=Lib.hid hO
 have HB:=Lib.hid hq
 have HR:=Lib.hid R
 have HZ:=Lib.hid Z
 have c0:=R.c0
 have c1:=R.c1
 have c2:=R.c2
 have c3:=R.c3
 have c4:=R.c4
 clear R Z hq hO hs
 clear hf hz hm
 go_enter Tryz.func27,Tryz.ntmps27
 go_wp2_with (first
  | (go_at_call 49;refine (HO.out _).mono ?_;rintro ee w2 ⟨he,hb2⟩;subst he;have HB2:=Lib.hid (HB.out.trans (hb2.mono HB.out.size));have R2:=HR.out.below hb2;have Z2:=HZ.out.below hb2;have HR2:=Lib.hid R2;have HZ2:=Lib.hid Z2;have c0:=R2.c0;have c1:=R2.c1;have c2:=R2.c2;have c3:=R2.c3;have c4:=R2.c4;have z0:=Z2.c0;have z1:=Z2.c1;have z2:=Z2.c2;have z3:=Z2.c3;have z4:=Z2.c4;have y0:=Z2.fz 0;have y1:=Z2.fz 1;have y2:=Z2.fz 2;have y3:=Z2.fz 3;have y4:=Z2.fz 4;clear hb2 R2 Z2)
  | (go_at_call 52;refine (HC.out w2 _ (grownCap_ge w2 s.size 0 5)).mono ?_;rintro ee w3 ⟨tq,he,h1,h2,hb3⟩;subst he;have hbb:=bytes_below (Below.refl w2.heap.size w2) (Nat.le_refl _) 5 s;have HT:=Lib.hid (show Asc tq∧tq.size≤2*s.size+1 from ⟨h1,h2⟩);have HB3:=Lib.hid ((HB2.out.trans (hbb.mono HB2.out.size)).trans (hb3.mono (HB2.out.trans (hbb.mono HB2.out.size)).size));have HZ3:=Lib.hid ((HZ2.out.below hbb).below hb3);clear h1 h2 hb3 hbb)
  | (go_at_call 51;refine (text_det tq _).mono ?_;rintro ee w4 ⟨he,hb4⟩;subst he;have HB4:=Lib.hid (HB3.out.trans (hb4.mono HB3.out.size));have Z4:=HZ3.out.below hb4;have HZ4:=Lib.hid Z4;have z0:=Z4.c0;have z1:=Z4.c1;have z2:=Z4.c2;have z3:=Z4.c3;have z4:=Z4.c4;have y0:=Z4.fz 0;have y1:=Z4.fz 1;have y2:=Z4.fz 2;have y3:=Z4.fz 3;have y4:=Z4.fz 4;clear hb4 Z4))
 have Z5:=HZ4.out.put5 (.int .i64 10) (.bool false) (.int .u64 0) (.string tq) (.slice none 0 0)
 have k0:=Z5.c0
 have k1:=Z5.c1
 have k2:=Z5.c2
 have k3:=Z5.c3
 have k4:=Z5.c4
 exact bodyPost_ret (v:=.tuple #[.agg #[.int .i64 10,.bool false,.int .u64 0,.string tq,.slice none 0 0],.int .i64 6]) (by simp [results,Tryz.f27,go_sem,k0,k1,k2,k3,k4]) rfl ⟨⟨10,false,0,tq,[]⟩,6,rfl,⟨leafU_text HT.out.1.utf (by have:=HT.out.2;have:=HM.out;omega),by decide,by decide⟩,Qa2 HB4.out (by omega) _ _ _ _ _⟩
set_option maxRecDepth 100000 in
set_option maxHeartbeats 4000000 in
theorem rule_6_2 (neg:Bool) (n:Int) (hu:U64 n) (s:ByteArray) (a:Option Addr) (c m:Nat) (w:World) (hm:1≤m) (hs:sayB 2 6 neg n=false) :
 Calls Tryz.prog 27 #[.int .i64 2,.agg #[.int .i64 6,.bool neg,.int .u64 n,.string s,.slice a 0 c]] w (RuPost 2 m w):=by
 have hf:(2:Int)=0 ∨ (2:Int)=1 ∨ (2:Int)=2:=by decide
 obtain ⟨r,er,hr,hwd⟩:=Qb2 (a:=16) (e:=5) (f:=10) (.inl ⟨rfl,rfl,rfl⟩) n hu
 have HW:=Lib.hid hwd
 have HRr:=Lib.hid hr
 obtain ⟨rx,ok,er2,⟨hrx,hrl⟩,hnd⟩:=narrow_lt (a:=32) (e:=8) (f:=23) (.inr (.inl ⟨rfl,rfl,rfl⟩)) r hr
 have HN:=Lib.hid hnd
 have HX:=Lib.hid (show U64 rx∧rx<4294967296 from ⟨hrx,hrl rfl⟩)
 clear hnd hrx hrl
 have R:=(Row5.new w (.int .i64 6) (.bool neg) (.int .u64 n) (.string s) (.slice a 0 c)).alloc (.cells #[.int .i64 0,.bool false,.int .u64 0,.string ⟨#[]⟩,.slice none 0 0] 25)
 have Z:=Row5.new (w.alloc (.cells #[.int .i64 6,.bool neg,.int .u64 n,.string s,.slice a 0 c] 25)) (.int .i64 0) (.bool false) (.int .u64 0) (.string ⟨#[]⟩) (.slice none 0 0)
 rw [World.size_alloc] at Z
 have hq:=((Below.refl w.heap.size w).alloc (Nat.le_refl _) (.cells #[.int .i64 6,.bool neg,.int .u64 n,.string s,.slice a 0 c] 25)).alloc (by simp) (.cells #[.int .i64 0,.bool false,.int .u64 0,.string ⟨#[]⟩,.slice none 0 0] 25)
 have hO:=Qby 2 hf 6 neg n hu s (.slice a 0 c)
 rw [hs] at hO
 have HO:=Lib.hid hO
 have HB:=Lib.hid hq
 have HR:=Lib.hid R
 have HZ:=Lib.hid Z
 have c0:=R.c0
 have c1:=R.c1
 have c2:=R.c2
 have c3:=R.c3
 have c4:=R.c4
 clear R Z hq hO hs
 clear hwd hr hu
 go_enter Tryz.func27,Tryz.ntmps27
 go_wp2_with (go_at_call 49;refine (HO.out _).mono ?_;rintro ee w2 ⟨he,hb2⟩;subst he;have HB2:=Lib.hid (HB.out.trans (hb2.mono HB.out.size));have R2:=HR.out.below hb2;have Z2:=HZ.out.below hb2;have HR2:=Lib.hid R2;have HZ2:=Lib.hid Z2;have c0:=R2.c0;have c1:=R2.c1;have c2:=R2.c2;have c3:=R2.c3;have c4:=R2.c4;have z0:=Z2.c0;have z1:=Z2.c1;have z2:=Z2.c2;have z3:=Z2.c3;have z4:=Z2.c4;have y0:=Z2.fz 0;have y1:=Z2.fz 1;have y2:=Z2.fz 2;have y3:=Z2.fz 3;have y4:=Z2.fz 4;clear hb2 R2 Z2)
 have g0:∀ p:Gb w2,p.wd.cell? ⟨w.heap.size,0,none⟩=some (.int .i64 6):=fun p=>p.cell c0
 have g2:∀ p:Gb w2,p.wd.cell? ⟨w.heap.size,2,none⟩=some (.int .u64 n):=fun p=>p.cell c2
 have hsh:∀ W,(Op.shift BinOp.shl IntKind.i64 16 IntKind.i64 (IntKind.i64.wrap 0)).run Tryz.prog W=.ok (.int .i64 16) W:=fun W=>rfl
 refine Qal (by kernel_rfl) (by kernel_rfl) ?_
 quiet_step (fail)
 quiet_step (fail)
 quiet_step (fail)
 quiet_step (fail)
 quiet_step (fail)
 quiet_step (fail)
 quiet_step ((go_at_call 53;refine Calls.gb_of (HW.out _)))
 repeat (quiet_step (fail))
 refine wpQuiet_nil ?_
 intro _ hw'
 obtain ⟨gq,hw''⟩:=hw'
 subst hw''
 have HB3:=Lib.hid (HB2.out.trans (gq.below.mono HB2.out.size))
 have Z3:=HZ2.out.below gq.below
 have HZ3:=Lib.hid Z3
 have z0:=Z3.c0;have z1:=Z3.c1;have z2:=Z3.c2;have z3:=Z3.c3;have z4:=Z3.c4;have y0:=Z3.fz 0;have y1:=Z3.fz 1;have y2:=Z3.fz 2;have y3:=Z3.fz 3;have y4:=Z3.fz 4
 clear Z3 c0 c1 c2 c3 c4 g0 g2 hsh
 go_wp2_with (go_at_call 54;refine (HN.out _).mono ?_;rintro ee w4 ⟨he,hb4⟩;subst he;have HB4:=Lib.hid (HB3.out.trans (hb4.mono HB3.out.size));have Z4:=HZ3.out.below hb4;have HZ4:=Lib.hid Z4;have z0:=Z4.c0;have z1:=Z4.c1;have z2:=Z4.c2;have z3:=Z4.c3;have z4:=Z4.c4;have y0:=Z4.fz 0;have y1:=Z4.fz 1;have y2:=Z4.fz 2;have y3:=Z4.fz 3;have y4:=Z4.fz 4;clear hb4 Z4)
 have Z5:=HZ4.out.put5 (.int .i64 7) (.bool false) (.int .u64 rx) (.string ⟨#[]⟩) (.slice none 0 0)
 have k0:=Z5.c0
 have k1:=Z5.c1
 have k2:=Z5.c2
 have k3:=Z5.c3
 have k4:=Z5.c4
 exact bodyPost_ret (v:=.tuple #[.agg #[.int .i64 7,.bool false,.int .u64 rx,.string ⟨#[]⟩,.slice none 0 0],.int .i64 3]) (by simp [results,Tryz.f27,go_sem,k0,k1,k2,k3,k4]) rfl ⟨⟨7,false,rx,⟨#[]⟩,[]⟩,3,rfl,⟨leafU_float (.inl ⟨rfl,HX.out.2⟩) HX.out.1 rfl hm,by decide,by decide⟩,Qa2 HB4.out (by omega) _ _ _ _ _⟩
set_option maxRecDepth 100000 in
set_option maxHeartbeats 4000000 in
theorem rule_6_0 (neg:Bool) (n:Int) (hu:U64 n) (s:ByteArray) (a:Option Addr) (c m:Nat) (w:World) (hm:1≤m) (hs:sayB 0 6 neg n=false) :
 Calls Tryz.prog 27 #[.int .i64 0,.agg #[.int .i64 6,.bool neg,.int .u64 n,.string s,.slice a 0 c]] w (RuPost 0 m w):=by
 have hf:(0:Int)=0 ∨ (0:Int)=1 ∨ (0:Int)=2:=by decide
 obtain ⟨r,er,hr,hwd⟩:=Qb2 (a:=16) (e:=5) (f:=10) (.inl ⟨rfl,rfl,rfl⟩) n hu
 have HW:=Lib.hid hwd
 have HRr:=Lib.hid hr
 have HC:=Lib.hid (class64_any r hr)
 obtain ⟨cx,hcx⟩:∃ cx,clsN r=cx:=⟨_,rfl⟩
 rw [hcx] at HC
 have HCX:=Lib.hid hcx
 clear hcx
 have R:=(Row5.new w (.int .i64 6) (.bool neg) (.int .u64 n) (.string s) (.slice a 0 c)).alloc (.cells #[.int .i64 0,.bool false,.int .u64 0,.string ⟨#[]⟩,.slice none 0 0] 25)
 have Z:=Row5.new (w.alloc (.cells #[.int .i64 6,.bool neg,.int .u64 n,.string s,.slice a 0 c] 25)) (.int .i64 0) (.bool false) (.int .u64 0) (.string ⟨#[]⟩) (.slice none 0 0)
 rw [World.size_alloc] at Z
 have hq:=((Below.refl w.heap.size w).alloc (Nat.le_refl _) (.cells #[.int .i64 6,.bool neg,.int .u64 n,.string s,.slice a 0 c] 25)).alloc (by simp) (.cells #[.int .i64 0,.bool false,.int .u64 0,.string ⟨#[]⟩,.slice none 0 0] 25)
 have hO:=Qby 0 hf 6 neg n hu s (.slice a 0 c)
 rw [hs] at hO
 have HO:=Lib.hid hO
 have HB:=Lib.hid hq
 have HR:=Lib.hid R
 have HZ:=Lib.hid Z
 have c0:=R.c0
 have c1:=R.c1
 have c2:=R.c2
 have c3:=R.c3
 have c4:=R.c4
 clear R Z hq hO hs
 clear hwd hr hu
 by_cases hc3:3≤cx
 ·
  go_enter Tryz.func27,Tryz.ntmps27
  go_wp2_with (go_at_call 49;refine (HO.out _).mono ?_;rintro ee w2 ⟨he,hb2⟩;subst he;have HB2:=Lib.hid (HB.out.trans (hb2.mono HB.out.size));have R2:=HR.out.below hb2;have Z2:=HZ.out.below hb2;have HR2:=Lib.hid R2;have HZ2:=Lib.hid Z2;have c0:=R2.c0;have c1:=R2.c1;have c2:=R2.c2;have c3:=R2.c3;have c4:=R2.c4;have z0:=Z2.c0;have z1:=Z2.c1;have z2:=Z2.c2;have z3:=Z2.c3;have z4:=Z2.c4;have y0:=Z2.fz 0;have y1:=Z2.fz 1;have y2:=Z2.fz 2;have y3:=Z2.fz 3;have y4:=Z2.fz 4;clear hb2 R2 Z2)
  have g0:∀ p:Gb w2,p.wd.cell? ⟨w.heap.size,0,none⟩=some (.int .i64 6):=fun p=>p.cell c0
  have g2:∀ p:Gb w2,p.wd.cell? ⟨w.heap.size,2,none⟩=some (.int .u64 n):=fun p=>p.cell c2
  have hsh:∀ W,(Op.shift BinOp.shl IntKind.i64 16 IntKind.i64 (IntKind.i64.wrap 0)).run Tryz.prog W=.ok (.int .i64 16) W:=fun W=>rfl
  refine Qal (by kernel_rfl) (by kernel_rfl) ?_
  quiet_step (fail)
  quiet_step (fail)
  quiet_step (fail)
  quiet_step (fail)
  quiet_step (fail)
  quiet_step (fail)
  quiet_step ((go_at_call 53;refine Calls.gb_of (HW.out _)))
  repeat (quiet_step (fail))
  refine wpQuiet_nil ?_
  intro _ hw'
  obtain ⟨gq,hw''⟩:=hw'
  subst hw''
  have HB3:=Lib.hid (HB2.out.trans (gq.below.mono HB2.out.size))
  have Z3:=HZ2.out.below gq.below
  have HZ3:=Lib.hid Z3
  have z0:=Z3.c0;have z1:=Z3.c1;have z2:=Z3.c2;have z3:=Z3.c3;have z4:=Z3.c4;have y0:=Z3.fz 0;have y1:=Z3.fz 1;have y2:=Z3.fz 2;have y3:=Z3.fz 3;have y4:=Z3.fz 4
  clear Z3 c0 c1 c2 c3 c4 g0 g2 hsh
  go_wp2_with (go_at_call 55;refine (HC.out _).mono ?_;rintro ee w4 ⟨he,hb4⟩;subst he;have HB4:=Lib.hid (HB3.out.trans (hb4.mono HB3.out.size));have Z4:=HZ3.out.below hb4;have HZ4:=Lib.hid Z4;have z0:=Z4.c0;have z1:=Z4.c1;have z2:=Z4.c2;have z3:=Z4.c3;have z4:=Z4.c4;have y0:=Z4.fz 0;have y1:=Z4.fz 1;have y2:=Z4.fz 2;have y3:=Z4.fz 3;have y4:=Z4.fz 4;clear hb4 Z4)
  have Z5:=HZ4.out.put5 (.int .i64 0) (.bool false) (.int .u64 0) (.string ⟨#[]⟩) (.slice none 0 0)
  have k0:=Z5.c0
  have k1:=Z5.c1
  have k2:=Z5.c2
  have k3:=Z5.c3
  have k4:=Z5.c4
  exact bodyPost_ret (v:=.tuple #[.agg #[.int .i64 0,.bool false,.int .u64 0,.string ⟨#[]⟩,.slice none 0 0],.int .i64 2]) (by simp [results,Tryz.f27,go_sem,k0,k1,k2,k3,k4]) rfl ⟨⟨0,false,0,⟨#[]⟩,[]⟩,2,rfl,⟨leafU_null (.inl rfl) hm,by decide,by decide⟩,Qa2 HB4.out (by omega) _ _ _ _ _⟩
 ·
  go_enter Tryz.func27,Tryz.ntmps27
  go_wp2_with (go_at_call 49;refine (HO.out _).mono ?_;rintro ee w2 ⟨he,hb2⟩;subst he;have HB2:=Lib.hid (HB.out.trans (hb2.mono HB.out.size));have R2:=HR.out.below hb2;have Z2:=HZ.out.below hb2;have HR2:=Lib.hid R2;have HZ2:=Lib.hid Z2;have c0:=R2.c0;have c1:=R2.c1;have c2:=R2.c2;have c3:=R2.c3;have c4:=R2.c4;have z0:=Z2.c0;have z1:=Z2.c1;have z2:=Z2.c2;have z3:=Z2.c3;have z4:=Z2.c4;have y0:=Z2.fz 0;have y1:=Z2.fz 1;have y2:=Z2.fz 2;have y3:=Z2.fz 3;have y4:=Z2.fz 4;clear hb2 R2 Z2)
  have g0:∀ p:Gb w2,p.wd.cell? ⟨w.heap.size,0,none⟩=some (.int .i64 6):=fun p=>p.cell c0
  have g2:∀ p:Gb w2,p.wd.cell? ⟨w.heap.size,2,none⟩=some (.int .u64 n):=fun p=>p.cell c2
  have hsh:∀ W,(Op.shift BinOp.shl IntKind.i64 16 IntKind.i64 (IntKind.i64.wrap 0)).run Tryz.prog W=.ok (.int .i64 16) W:=fun W=>rfl
  refine Qal (by kernel_rfl) (by kernel_rfl) ?_
  quiet_step (fail)
  quiet_step (fail)
  quiet_step (fail)
  quiet_step (fail)
  quiet_step (fail)
  quiet_step (fail)
  quiet_step ((go_at_call 53;refine Calls.gb_of (HW.out _)))
  repeat (quiet_step (fail))
  refine wpQuiet_nil ?_
  intro _ hw'
  obtain ⟨gq,hw''⟩:=hw'
  subst hw''
  have HB3:=Lib.hid (HB2.out.trans (gq.below.mono HB2.out.size))
  have Z3:=HZ2.out.below gq.below
  have HZ3:=Lib.hid Z3
  have z0:=Z3.c0;have z1:=Z3.c1;have z2:=Z3.c2;have z3:=Z3.c3;have z4:=Z3.c4;have y0:=Z3.fz 0;have y1:=Z3.fz 1;have y2:=Z3.fz 2;have y3:=Z3.fz 3;have y4:=Z3.fz 4
  clear Z3 c0 c1 c2 c3 c4 g0 g2 hsh
  go_wp2_with (go_at_call 55;refine (HC.out _).mono ?_;rintro ee w4 ⟨he,hb4⟩;subst he;have HB4:=Lib.hid (HB3.out.trans (hb4.mono HB3.out.size));have Z4:=HZ3.out.below hb4;have HZ4:=Lib.hid Z4;have z0:=Z4.c0;have z1:=Z4.c1;have z2:=Z4.c2;have z3:=Z4.c3;have z4:=Z4.c4;have y0:=Z4.fz 0;have y1:=Z4.fz 1;have y2:=Z4.fz 2;have y3:=Z4.fz 3;have y4:=Z4.fz 4;clear hb4 Z4)
  have Z5:=HZ4.out.put5 (.int .i64 8) (.bool false) (.int .u64 r) (.string ⟨#[]⟩) (.slice none 0 0)
  have k0:=Z5.c0
  have k1:=Z5.c1
  have k2:=Z5.c2
  have k3:=Z5.c3
  have k4:=Z5.c4
  exact bodyPost_ret (v:=.tuple #[.agg #[.int .i64 8,.bool false,.int .u64 r,.string ⟨#[]⟩,.slice none 0 0],.int .i64 3]) (by simp [results,Tryz.f27,go_sem,k0,k1,k2,k3,k4]) rfl ⟨⟨8,false,r,⟨#[]⟩,[]⟩,3,rfl,⟨leafU_float (.inr rfl) HRr.out (by rw [say_0,if_pos rfl,HCX.out];simp;omega) hm,by decide,by decide⟩,Qa2 HB4.out (by omega) _ _ _ _ _⟩
set_option maxRecDepth 100000 in
set_option maxHeartbeats 4000000 in
theorem rule_7_0 (neg:Bool) (n:Int) (hu:U64 n) (s:ByteArray) (a:Option Addr) (c m:Nat) (w:World) (hm:1≤m) (hs:sayB 0 7 neg n=false) :
 Calls Tryz.prog 27 #[.int .i64 0,.agg #[.int .i64 7,.bool neg,.int .u64 n,.string s,.slice a 0 c]] w (RuPost 0 m w):=by
 have hf:(0:Int)=0 ∨ (0:Int)=1 ∨ (0:Int)=2:=by decide
 obtain ⟨r,er,hr,hwd⟩:=Qb2 (a:=32) (e:=8) (f:=23) (.inr (.inl ⟨rfl,rfl,rfl⟩)) n hu
 have HW:=Lib.hid hwd
 have HRr:=Lib.hid hr
 have HC:=Lib.hid (class64_any r hr)
 obtain ⟨cx,hcx⟩:∃ cx,clsN r=cx:=⟨_,rfl⟩
 rw [hcx] at HC
 have HCX:=Lib.hid hcx
 clear hcx
 have R:=(Row5.new w (.int .i64 7) (.bool neg) (.int .u64 n) (.string s) (.slice a 0 c)).alloc (.cells #[.int .i64 0,.bool false,.int .u64 0,.string ⟨#[]⟩,.slice none 0 0] 25)
 have Z:=Row5.new (w.alloc (.cells #[.int .i64 7,.bool neg,.int .u64 n,.string s,.slice a 0 c] 25)) (.int .i64 0) (.bool false) (.int .u64 0) (.string ⟨#[]⟩) (.slice none 0 0)
 rw [World.size_alloc] at Z
 have hq:=((Below.refl w.heap.size w).alloc (Nat.le_refl _) (.cells #[.int .i64 7,.bool neg,.int .u64 n,.string s,.slice a 0 c] 25)).alloc (by simp) (.cells #[.int .i64 0,.bool false,.int .u64 0,.string ⟨#[]⟩,.slice none 0 0] 25)
 have hO:=Qby 0 hf 7 neg n hu s (.slice a 0 c)
 rw [hs] at hO
 have HO:=Lib.hid hO
 have HB:=Lib.hid hq
 have HR:=Lib.hid R
 have HZ:=Lib.hid Z
 have c0:=R.c0
 have c1:=R.c1
 have c2:=R.c2
 have c3:=R.c3
 have c4:=R.c4
 clear R Z hq hO hs
 clear hwd hr hu
 by_cases hc3:3≤cx
 ·
  go_enter Tryz.func27,Tryz.ntmps27
  go_wp2_with (go_at_call 49;refine (HO.out _).mono ?_;rintro ee w2 ⟨he,hb2⟩;subst he;have HB2:=Lib.hid (HB.out.trans (hb2.mono HB.out.size));have R2:=HR.out.below hb2;have Z2:=HZ.out.below hb2;have HR2:=Lib.hid R2;have HZ2:=Lib.hid Z2;have c0:=R2.c0;have c1:=R2.c1;have c2:=R2.c2;have c3:=R2.c3;have c4:=R2.c4;have z0:=Z2.c0;have z1:=Z2.c1;have z2:=Z2.c2;have z3:=Z2.c3;have z4:=Z2.c4;have y0:=Z2.fz 0;have y1:=Z2.fz 1;have y2:=Z2.fz 2;have y3:=Z2.fz 3;have y4:=Z2.fz 4;clear hb2 R2 Z2)
  have g0:∀ p:Gb w2,p.wd.cell? ⟨w.heap.size,0,none⟩=some (.int .i64 7):=fun p=>p.cell c0
  have g2:∀ p:Gb w2,p.wd.cell? ⟨w.heap.size,2,none⟩=some (.int .u64 n):=fun p=>p.cell c2
  have hsh:∀ W,(Op.shift BinOp.shl IntKind.i64 16 IntKind.i64 (IntKind.i64.wrap 1)).run Tryz.prog W=.ok (.int .i64 32) W:=fun W=>rfl
  refine Qal (by kernel_rfl) (by kernel_rfl) ?_
  quiet_step (fail)
  quiet_step (fail)
  quiet_step (fail)
  quiet_step (fail)
  quiet_step (fail)
  quiet_step (fail)
  quiet_step ((go_at_call 53;refine Calls.gb_of (HW.out _)))
  repeat (quiet_step (fail))
  refine wpQuiet_nil ?_
  intro _ hw'
  obtain ⟨gq,hw''⟩:=hw'
  subst hw''
  have HB3:=Lib.hid (HB2.out.trans (gq.below.mono HB2.out.size))
  have Z3:=HZ2.out.below gq.below
  have HZ3:=Lib.hid Z3
  have z0:=Z3.c0;have z1:=Z3.c1;have z2:=Z3.c2;have z3:=Z3.c3;have z4:=Z3.c4;have y0:=Z3.fz 0;have y1:=Z3.fz 1;have y2:=Z3.fz 2;have y3:=Z3.fz 3;have y4:=Z3.fz 4
  clear Z3 c0 c1 c2 c3 c4 g0 g2 hsh
  go_wp2_with (go_at_call 55;refine (HC.out _).mono ?_;rintro ee w4 ⟨he,hb4⟩;subst he;have HB4:=Lib.hid (HB3.out.trans (hb4.mono HB3.out.size));have Z4:=HZ3.out.below hb4;have HZ4:=Lib.hid Z4;have z0:=Z4.c0;have z1:=Z4.c1;have z2:=Z4.c2;have z3:=Z4.c3;have z4:=Z4.c4;have y0:=Z4.fz 0;have y1:=Z4.fz 1;have y2:=Z4.fz 2;have y3:=Z4.fz 3;have y4:=Z4.fz 4;clear hb4 Z4)
  have Z5:=HZ4.out.put5 (.int .i64 0) (.bool false) (.int .u64 0) (.string ⟨#[]⟩) (.slice none 0 0)
  have k0:=Z5.c0
  have k1:=Z5.c1
  have k2:=Z5.c2
  have k3:=Z5.c3
  have k4:=Z5.c4
  exact bodyPost_ret (v:=.tuple #[.agg #[.int .i64 0,.bool false,.int .u64 0,.string ⟨#[]⟩,.slice none 0 0],.int .i64 2]) (by simp [results,Tryz.f27,go_sem,k0,k1,k2,k3,k4]) rfl ⟨⟨0,false,0,⟨#[]⟩,[]⟩,2,rfl,⟨leafU_null (.inl rfl) hm,by decide,by decide⟩,Qa2 HB4.out (by omega) _ _ _ _ _⟩
 ·
  go_enter Tryz.func27,Tryz.ntmps27
  go_wp2_with (go_at_call 49;refine (HO.out _).mono ?_;rintro ee w2 ⟨he,hb2⟩;subst he;have HB2:=Lib.hid (HB.out.trans (hb2.mono HB.out.size));have R2:=HR.out.below hb2;have Z2:=HZ.out.below hb2;have HR2:=Lib.hid R2;have HZ2:=Lib.hid Z2;have c0:=R2.c0;have c1:=R2.c1;have c2:=R2.c2;have c3:=R2.c3;have c4:=R2.c4;have z0:=Z2.c0;have z1:=Z2.c1;have z2:=Z2.c2;have z3:=Z2.c3;have z4:=Z2.c4;have y0:=Z2.fz 0;have y1:=Z2.fz 1;have y2:=Z2.fz 2;have y3:=Z2.fz 3;have y4:=Z2.fz 4;clear hb2 R2 Z2)
  have g0:∀ p:Gb w2,p.wd.cell? ⟨w.heap.size,0,none⟩=some (.int .i64 7):=fun p=>p.cell c0
  have g2:∀ p:Gb w2,p.wd.cell? ⟨w.heap.size,2,none⟩=some (.int .u64 n):=fun p=>p.cell c2
  have hsh:∀ W,(Op.shift BinOp.shl IntKind.i64 16 IntKind.i64 (IntKind.i64.wrap 1)).run Tryz.prog W=.ok (.int .i64 32) W:=fun W=>rfl
  refine Qal (by kernel_rfl) (by kernel_rfl) ?_
  quiet_step (fail)
  quiet_step (fail)
  quiet_step (fail)
  quiet_step (fail)
  quiet_step (fail)
  quiet_step (fail)
  quiet_step ((go_at_call 53;refine Calls.gb_of (HW.out _)))
  repeat (quiet_step (fail))
  refine wpQuiet_nil ?_
  intro _ hw'
  obtain ⟨gq,hw''⟩:=hw'
  subst hw''
  have HB3:=Lib.hid (HB2.out.trans (gq.below.mono HB2.out.size))
  have Z3:=HZ2.out.below gq.below
  have HZ3:=Lib.hid Z3
  have z0:=Z3.c0;have z1:=Z3.c1;have z2:=Z3.c2;have z3:=Z3.c3;have z4:=Z3.c4;have y0:=Z3.fz 0;have y1:=Z3.fz 1;have y2:=Z3.fz 2;have y3:=Z3.fz 3;have y4:=Z3.fz 4
  clear Z3 c0 c1 c2 c3 c4 g0 g2 hsh
  go_wp2_with (go_at_call 55;refine (HC.out _).mono ?_;rintro ee w4 ⟨he,hb4⟩;subst he;have HB4:=Lib.hid (HB3.out.trans (hb4.mono HB3.out.size));have Z4:=HZ3.out.below hb4;have HZ4:=Lib.hid Z4;have z0:=Z4.c0;have z1:=Z4.c1;have z2:=Z4.c2;have z3:=Z4.c3;have z4:=Z4.c4;have y0:=Z4.fz 0;have y1:=Z4.fz 1;have y2:=Z4.fz 2;have y3:=Z4.fz 3;have y4:=Z4.fz 4;clear hb4 Z4)
  have Z5:=HZ4.out.put5 (.int .i64 8) (.bool false) (.int .u64 r) (.string ⟨#[]⟩) (.slice none 0 0)
  have k0:=Z5.c0
  have k1:=Z5.c1
  have k2:=Z5.c2
  have k3:=Z5.c3
  have k4:=Z5.c4
  exact bodyPost_ret (v:=.tuple #[.agg #[.int .i64 8,.bool false,.int .u64 r,.string ⟨#[]⟩,.slice none 0 0],.int .i64 3]) (by simp [results,Tryz.f27,go_sem,k0,k1,k2,k3,k4]) rfl ⟨⟨8,false,r,⟨#[]⟩,[]⟩,3,rfl,⟨leafU_float (.inr rfl) HRr.out (by rw [say_0,if_pos rfl,HCX.out];simp;omega) hm,by decide,by decide⟩,Qa2 HB4.out (by omega) _ _ _ _ _⟩
set_option maxRecDepth 100000 in
set_option maxHeartbeats 4000000 in
theorem rule_8_0 (neg:Bool) (n:Int) (hu:U64 n) (s:ByteArray) (a:Option Addr) (c m:Nat) (w:World) (hm:1≤m) (hs:sayB 0 8 neg n=false) :
 Calls Tryz.prog 27 #[.int .i64 0,.agg #[.int .i64 8,.bool neg,.int .u64 n,.string s,.slice a 0 c]] w (RuPost 0 m w):=by
 have hf:(0:Int)=0 ∨ (0:Int)=1 ∨ (0:Int)=2:=by decide
 obtain ⟨r,er,hr,hwd⟩:=Qb2 (a:=64) (e:=11) (f:=52) (.inr (.inr ⟨rfl,rfl,rfl⟩)) n hu
 have HW:=Lib.hid hwd
 have HRr:=Lib.hid hr
 have HC:=Lib.hid (class64_any r hr)
 obtain ⟨cx,hcx⟩:∃ cx,clsN r=cx:=⟨_,rfl⟩
 rw [hcx] at HC
 have HCX:=Lib.hid hcx
 clear hcx
 have R:=(Row5.new w (.int .i64 8) (.bool neg) (.int .u64 n) (.string s) (.slice a 0 c)).alloc (.cells #[.int .i64 0,.bool false,.int .u64 0,.string ⟨#[]⟩,.slice none 0 0] 25)
 have Z:=Row5.new (w.alloc (.cells #[.int .i64 8,.bool neg,.int .u64 n,.string s,.slice a 0 c] 25)) (.int .i64 0) (.bool false) (.int .u64 0) (.string ⟨#[]⟩) (.slice none 0 0)
 rw [World.size_alloc] at Z
 have hq:=((Below.refl w.heap.size w).alloc (Nat.le_refl _) (.cells #[.int .i64 8,.bool neg,.int .u64 n,.string s,.slice a 0 c] 25)).alloc (by simp) (.cells #[.int .i64 0,.bool false,.int .u64 0,.string ⟨#[]⟩,.slice none 0 0] 25)
 have hO:=Qby 0 hf 8 neg n hu s (.slice a 0 c)
 rw [hs] at hO
 have HO:=Lib.hid hO
 have HB:=Lib.hid hq
 have HR:=Lib.hid R
 have HZ:=Lib.hid Z
 have c0:=R.c0
 have c1:=R.c1
 have c2:=R.c2
 have c3:=R.c3
 have c4:=R.c4
 clear R Z hq hO hs
 clear hwd hr hu
 by_cases hc3:3≤cx
 ·
  go_enter Tryz.func27,Tryz.ntmps27
  go_wp2_with (go_at_call 49;refine (HO.out _).mono ?_;rintro ee w2 ⟨he,hb2⟩;subst he;have HB2:=Lib.hid (HB.out.trans (hb2.mono HB.out.size));have R2:=HR.out.below hb2;have Z2:=HZ.out.below hb2;have HR2:=Lib.hid R2;have HZ2:=Lib.hid Z2;have c0:=R2.c0;have c1:=R2.c1;have c2:=R2.c2;have c3:=R2.c3;have c4:=R2.c4;have z0:=Z2.c0;have z1:=Z2.c1;have z2:=Z2.c2;have z3:=Z2.c3;have z4:=Z2.c4;have y0:=Z2.fz 0;have y1:=Z2.fz 1;have y2:=Z2.fz 2;have y3:=Z2.fz 3;have y4:=Z2.fz 4;clear hb2 R2 Z2)
  have g0:∀ p:Gb w2,p.wd.cell? ⟨w.heap.size,0,none⟩=some (.int .i64 8):=fun p=>p.cell c0
  have g2:∀ p:Gb w2,p.wd.cell? ⟨w.heap.size,2,none⟩=some (.int .u64 n):=fun p=>p.cell c2
  have hsh:∀ W,(Op.shift BinOp.shl IntKind.i64 16 IntKind.i64 (IntKind.i64.wrap 2)).run Tryz.prog W=.ok (.int .i64 64) W:=fun W=>rfl
  refine Qal (by kernel_rfl) (by kernel_rfl) ?_
  quiet_step (fail)
  quiet_step (fail)
  quiet_step (fail)
  quiet_step (fail)
  quiet_step (fail)
  quiet_step (fail)
  quiet_step ((go_at_call 53;refine Calls.gb_of (HW.out _)))
  repeat (quiet_step (fail))
  refine wpQuiet_nil ?_
  intro _ hw'
  obtain ⟨gq,hw''⟩:=hw'
  subst hw''
  have HB3:=Lib.hid (HB2.out.trans (gq.below.mono HB2.out.size))
  have Z3:=HZ2.out.below gq.below
  have HZ3:=Lib.hid Z3
  have z0:=Z3.c0;have z1:=Z3.c1;have z2:=Z3.c2;have z3:=Z3.c3;have z4:=Z3.c4;have y0:=Z3.fz 0;have y1:=Z3.fz 1;have y2:=Z3.fz 2;have y3:=Z3.fz 3;have y4:=Z3.fz 4
  clear Z3 c0 c1 c2 c3 c4 g0 g2 hsh
  go_wp2_with (go_at_call 55;refine (HC.out _).mono ?_;rintro ee w4 ⟨he,hb4⟩;subst he;have HB4:=Lib.hid (HB3.out.trans (hb4.mono HB3.out.size));have Z4:=HZ3.out.below hb4;have HZ4:=Lib.hid Z4;have z0:=Z4.c0;have z1:=Z4.c1;have z2:=Z4.c2;have z3:=Z4.c3;have z4:=Z4.c4;have y0:=Z4.fz 0;have y1:=Z4.fz 1;have y2:=Z4.fz 2;have y3:=Z4.fz 3;have y4:=Z4.fz 4;clear hb4 Z4)
  have Z5:=HZ4.out.put5 (.int .i64 0) (.bool false) (.int .u64 0) (.string ⟨#[]⟩) (.slice none 0 0)
  have k0:=Z5.c0
  have k1:=Z5.c1
  have k2:=Z5.c2
  have k3:=Z5.c3
  have k4:=Z5.c4
  exact bodyPost_ret (v:=.tuple #[.agg #[.int .i64 0,.bool false,.int .u64 0,.string ⟨#[]⟩,.slice none 0 0],.int .i64 2]) (by simp [results,Tryz.f27,go_sem,k0,k1,k2,k3,k4]) rfl ⟨⟨0,false,0,⟨#[]⟩,[]⟩,2,rfl,⟨leafU_null (.inl rfl) hm,by decide,by decide⟩,Qa2 HB4.out (by omega) _ _ _ _ _⟩
 ·
  go_enter Tryz.func27,Tryz.ntmps27
  go_wp2_with (go_at_call 49;refine (HO.out _).mono ?_;rintro ee w2 ⟨he,hb2⟩;subst he;have HB2:=Lib.hid (HB.out.trans (hb2.mono HB.out.size));have R2:=HR.out.below hb2;have Z2:=HZ.out.below hb2;have HR2:=Lib.hid R2;have HZ2:=Lib.hid Z2;have c0:=R2.c0;have c1:=R2.c1;have c2:=R2.c2;have c3:=R2.c3;have c4:=R2.c4;have z0:=Z2.c0;have z1:=Z2.c1;have z2:=Z2.c2;have z3:=Z2.c3;have z4:=Z2.c4;have y0:=Z2.fz 0;have y1:=Z2.fz 1;have y2:=Z2.fz 2;have y3:=Z2.fz 3;have y4:=Z2.fz 4;clear hb2 R2 Z2)
  have g0:∀ p:Gb w2,p.wd.cell? ⟨w.heap.size,0,none⟩=some (.int .i64 8):=fun p=>p.cell c0
  have g2:∀ p:Gb w2,p.wd.cell? ⟨w.heap.size,2,none⟩=some (.int .u64 n):=fun p=>p.cell c2
  have hsh:∀ W,(Op.shift BinOp.shl IntKind.i64 16 IntKind.i64 (IntKind.i64.wrap 2)).run Tryz.prog W=.ok (.int .i64 64) W:=fun W=>rfl
  refine Qal (by kernel_rfl) (by kernel_rfl) ?_
  quiet_step (fail)
  quiet_step (fail)
  quiet_step (fail)
  quiet_step (fail)
  quiet_step (fail)
  quiet_step (fail)
  quiet_step ((go_at_call 53;refine Calls.gb_of (HW.out _)))
  repeat (quiet_step (fail))
  refine wpQuiet_nil ?_
  intro _ hw'
  obtain ⟨gq,hw''⟩:=hw'
  subst hw''
  have HB3:=Lib.hid (HB2.out.trans (gq.below.mono HB2.out.size))
  have Z3:=HZ2.out.below gq.below
  have HZ3:=Lib.hid Z3
  have z0:=Z3.c0;have z1:=Z3.c1;have z2:=Z3.c2;have z3:=Z3.c3;have z4:=Z3.c4;have y0:=Z3.fz 0;have y1:=Z3.fz 1;have y2:=Z3.fz 2;have y3:=Z3.fz 3;have y4:=Z3.fz 4
  clear Z3 c0 c1 c2 c3 c4 g0 g2 hsh
  go_wp2_with (go_at_call 55;refine (HC.out _).mono ?_;rintro ee w4 ⟨he,hb4⟩;subst he;have HB4:=Lib.hid (HB3.out.trans (hb4.mono HB3.out.size));have Z4:=HZ3.out.below hb4;have HZ4:=Lib.hid Z4;have z0:=Z4.c0;have z1:=Z4.c1;have z2:=Z4.c2;have z3:=Z4.c3;have z4:=Z4.c4;have y0:=Z4.fz 0;have y1:=Z4.fz 1;have y2:=Z4.fz 2;have y3:=Z4.fz 3;have y4:=Z4.fz 4;clear hb4 Z4)
  have Z5:=HZ4.out.put5 (.int .i64 8) (.bool false) (.int .u64 r) (.string ⟨#[]⟩) (.slice none 0 0)
  have k0:=Z5.c0
  have k1:=Z5.c1
  have k2:=Z5.c2
  have k3:=Z5.c3
  have k4:=Z5.c4
  exact bodyPost_ret (v:=.tuple #[.agg #[.int .i64 8,.bool false,.int .u64 r,.string ⟨#[]⟩,.slice none 0 0],.int .i64 3]) (by simp [results,Tryz.f27,go_sem,k0,k1,k2,k3,k4]) rfl ⟨⟨8,false,r,⟨#[]⟩,[]⟩,3,rfl,⟨leafU_float (.inr rfl) HRr.out (by rw [say_0,if_pos rfl,HCX.out];simp;omega) hm,by decide,by decide⟩,Qa2 HB4.out (by omega) _ _ _ _ _⟩
set_option maxRecDepth 100000 in
set_option maxHeartbeats 4000000 in
theorem rule_said (f:Int) (hf:f=0 ∨ f=1 ∨ f=2) (k:Int) (neg:Bool) (n:Int) (hu:U64 n) (s:ByteArray) (a:Option Addr) (ln c:Nat) (w:World) (hs:sayB f k neg n=true) :
 Calls Tryz.prog 27 #[.int .i64 f,.agg #[.int .i64 k,.bool neg,.int .u64 n,.string s,.slice a ln c]] w (Ret (.tuple #[.agg #[.int .i64 k,.bool neg,.int .u64 n,.string s,.slice a ln c],.int .i64 0]) w):=by
 have R:=(Row5.new w (.int .i64 k) (.bool neg) (.int .u64 n) (.string s) (.slice a ln c)).alloc (.cells #[.int .i64 0,.bool false,.int .u64 0,.string ⟨#[]⟩,.slice none 0 0] 25)
 have Z:=Row5.new (w.alloc (.cells #[.int .i64 k,.bool neg,.int .u64 n,.string s,.slice a ln c] 25)) (.int .i64 0) (.bool false) (.int .u64 0) (.string ⟨#[]⟩) (.slice none 0 0)
 rw [World.size_alloc] at Z
 have hq:=((Below.refl w.heap.size w).alloc (Nat.le_refl _) (.cells #[.int .i64 k,.bool neg,.int .u64 n,.string s,.slice a ln c] 25)).alloc (by simp) (.cells #[.int .i64 0,.bool false,.int .u64 0,.string ⟨#[]⟩,.slice none 0 0] 25)
 have hO:=Qby f hf k neg n hu s (.slice a ln c)
 rw [hs] at hO
 have HO:=Lib.hid hO
 have HB:=Lib.hid hq
 have HR:=Lib.hid R
 have HZ:=Lib.hid Z
 have c0:=R.c0
 have c1:=R.c1
 have c2:=R.c2
 have c3:=R.c3
 have c4:=R.c4
 clear R Z hq hO hs
 clear hf hu
 go_enter Tryz.func27,Tryz.ntmps27
 go_wp2_with (go_at_call 49;refine (HO.out _).mono ?_;rintro ee w2 ⟨he,hb2⟩;subst he;have HB2:=Lib.hid (HB.out.trans (hb2.mono HB.out.size));have R2:=HR.out.below hb2;have Z2:=HZ.out.below hb2;have HR2:=Lib.hid R2;have HZ2:=Lib.hid Z2;have c0:=R2.c0;have c1:=R2.c1;have c2:=R2.c2;have c3:=R2.c3;have c4:=R2.c4;have z0:=Z2.c0;have z1:=Z2.c1;have z2:=Z2.c2;have z3:=Z2.c3;have z4:=Z2.c4;have y0:=Z2.fz 0;have y1:=Z2.fz 1;have y2:=Z2.fz 2;have y3:=Z2.fz 3;have y4:=Z2.fz 4;clear hb2 R2 Z2)
 have Z5:=HZ2.out.put5 (.int .i64 k) (.bool neg) (.int .u64 n) (.string s) (.slice a ln c)
 have k0:=Z5.c0
 have k1:=Z5.c1
 have k2:=Z5.c2
 have k3:=Z5.c3
 have k4:=Z5.c4
 exact bodyPost_ret (v:=.tuple #[.agg #[.int .i64 k,.bool neg,.int .u64 n,.string s,.slice a ln c],.int .i64 0]) (by simp [results,Tryz.f27,go_sem,k0,k1,k2,k3,k4]) rfl ⟨rfl,Qa2 HB2.out (by omega) _ _ _ _ _⟩
set_option maxRecDepth 100000 in
set_option maxHeartbeats 4000000 in
theorem rule_tag (f:Int) (hf:f=0 ∨ f=1 ∨ f=2) (neg:Bool) (n:Int) (hu:U64 n) (s:ByteArray) (g off c:Nat) (x:T) (xa:Option Addr) (xc:Nat) (w:World) (hs:sayB f 13 neg n=false)
 (e0:w.cell? ⟨g,off,none⟩=some (.int .i64 x.f0)) (e1:w.cell? ⟨g,off+1,none⟩=some (.bool x.f1)) (e2:w.cell? ⟨g,off+2,none⟩=some (.int .u64 x.f2)) (e3:w.cell? ⟨g,off+3,none⟩=some (.string x.f3)) (e4:w.cell? ⟨g,off+4,none⟩=some (.slice xa x.f4.length xc)) :
 Calls Tryz.prog 27 #[.int .i64 f,.agg #[.int .i64 13,.bool neg,.int .u64 n,.string s,.slice (some ⟨g,off,none⟩) 1 c]] w (Ret (.tuple #[.agg #[.int .i64 x.f0,.bool x.f1,.int .u64 x.f2,.string x.f3,.slice xa x.f4.length xc],.int .i64 5]) w):=by
 have hg:=block_lt_of_cell e0
 have HE:=Lib.hid (show _∧_∧_∧_∧_ from ⟨e0,e1,e2,e3,e4⟩)
 clear e0 e1 e2 e3 e4
 have R:=(Row5.new w (.int .i64 13) (.bool neg) (.int .u64 n) (.string s) (.slice (some ⟨g,off,none⟩) 1 c)).alloc (.cells #[.int .i64 0,.bool false,.int .u64 0,.string ⟨#[]⟩,.slice none 0 0] 25)
 have Z:=Row5.new (w.alloc (.cells #[.int .i64 13,.bool neg,.int .u64 n,.string s,.slice (some ⟨g,off,none⟩) 1 c] 25)) (.int .i64 0) (.bool false) (.int .u64 0) (.string ⟨#[]⟩) (.slice none 0 0)
 rw [World.size_alloc] at Z
 have hq:=((Below.refl w.heap.size w).alloc (Nat.le_refl _) (.cells #[.int .i64 13,.bool neg,.int .u64 n,.string s,.slice (some ⟨g,off,none⟩) 1 c] 25)).alloc (by simp) (.cells #[.int .i64 0,.bool false,.int .u64 0,.string ⟨#[]⟩,.slice none 0 0] 25)
 have hO:=Qby f hf 13 neg n hu s (.slice (some ⟨g,off,none⟩) 1 c)
 rw [hs] at hO
 have HO:=Lib.hid hO
 have HB:=Lib.hid hq
 have HR:=Lib.hid R
 have HZ:=Lib.hid Z
 have c0:=R.c0
 have c1:=R.c1
 have c2:=R.c2
 have c3:=R.c3
 have c4:=R.c4
 clear R Z hq hO hs
 clear hf hu
 go_enter Tryz.func27,Tryz.ntmps27
 go_wp2_with (go_at_call 49;refine (HO.out _).mono ?_;rintro ee w2 ⟨he,hb2⟩;subst he;have HB2:=Lib.hid (HB.out.trans (hb2.mono HB.out.size));have R2:=HR.out.below hb2;have Z2:=HZ.out.below hb2;have HR2:=Lib.hid R2;have HZ2:=Lib.hid Z2;have c0:=R2.c0;have c1:=R2.c1;have c2:=R2.c2;have c3:=R2.c3;have c4:=R2.c4;have z0:=Z2.c0;have z1:=Z2.c1;have z2:=Z2.c2;have z3:=Z2.c3;have z4:=Z2.c4;have y0:=Z2.fz 0;have y1:=Z2.fz 1;have y2:=Z2.fz 2;have y3:=Z2.fz 3;have y4:=Z2.fz 4;have hbx:=HB2.out;have e0:=(hbx.cell (p:=⟨g,off,none⟩) hg).trans HE.out.1;have e1:=(hbx.cell (p:=⟨g,off+1,none⟩) hg).trans HE.out.2.1;have e2:=(hbx.cell (p:=⟨g,off+2,none⟩) hg).trans HE.out.2.2.1;have e3:=(hbx.cell (p:=⟨g,off+3,none⟩) hg).trans HE.out.2.2.2.1;have e4:=(hbx.cell (p:=⟨g,off+4,none⟩) hg).trans HE.out.2.2.2.2;clear hb2 R2 Z2 hbx)
 have Z5:=HZ2.out.put5 (.int .i64 x.f0) (.bool x.f1) (.int .u64 x.f2) (.string x.f3) (.slice xa x.f4.length xc)
 have k0:=Z5.c0
 have k1:=Z5.c1
 have k2:=Z5.c2
 have k3:=Z5.c3
 have k4:=Z5.c4
 exact bodyPost_ret (v:=.tuple #[.agg #[.int .i64 x.f0,.bool x.f1,.int .u64 x.f2,.string x.f3,.slice xa x.f4.length xc],.int .i64 5]) (by simp [results,Tryz.f27,go_sem,k0,k1,k2,k3,k4]) rfl ⟨rfl,Qa2 HB2.out (by omega) _ _ _ _ _⟩
theorem rule_not (f:Int) (hf:f=0 ∨ f=1 ∨ f=2) (k:Int) (neg:Bool) (n:Int) (s:ByteArray) (l:List T) (a:Option Addr) (c:Nat) (w:World) (hs:sayB f k neg n=false) (h13:k ≠ 13) (hnb:nodeB ⟨k,neg,n,s,l⟩=true) (hwf:Wf ⟨k,neg,n,s,l⟩) (hb:bulk ⟨k,neg,n,s,l⟩≤2147483648) :
 l=[]∧Calls Tryz.prog 27 #[.int .i64 f,.agg #[.int .i64 k,.bool neg,.int .u64 n,.string s,.slice a l.length c]] w (RuPost f (2048*bulk ⟨k,neg,n,s,l⟩) w):=by
 obtain ⟨hone,hleaf⟩:=one_parts hnb
 obtain ⟨hk,hbits,h10,h5,h4⟩:=one_kind hone
 have hu:U64 n:=u64_of_wf (wfT.1 hwf).2.1
 have hbk:bulk ⟨k,neg,n,s,l⟩=s.size+bulkL l+1:=by simp [bulk]
 rw [hbk] at hb ⊢
 have no:∀ {P:Prop},sayB f k neg n=true→P:=fun h=>by rw [h] at hs;cases hs
 obtain rfl | rfl | rfl | rfl | rfl | rfl | rfl | rfl | rfl | rfl | rfl | rfl | rfl | rfl | rfl:k=0 ∨ k=1 ∨ k=2 ∨ k=3 ∨ k=4 ∨ k=5 ∨ k=6 ∨ k=7 ∨ k=8 ∨ k=9 ∨ k=10 ∨ k=11 ∨ k=12 ∨ k=13 ∨ k=14:=by omega
 · exact no (by rcases hf with rfl | rfl | rfl <;> simp [say_0,say_1,say_2])
 · exact no (by rcases hf with rfl | rfl | rfl <;> simp [say_0,say_1,say_2])
 · obtain rfl:=hleaf rfl
   exact ⟨rfl,rule_2 f hf neg n hu s a c _ w (by omega) hs⟩
 · obtain rfl:=hleaf rfl
   exact ⟨rfl,rule_3 f hf neg n hu s a c _ w (by omega) hs⟩
 · obtain rfl:=hleaf rfl
   cases neg
   · exact ⟨rfl,rule_4p f hf n hu s a c _ w (h4 rfl) (by omega) hs⟩
   · exact ⟨rfl,rule_4n f hf n hu s a c _ w (h4 rfl) (by omega) hs⟩
 · obtain rfl:=hleaf rfl
   have hz:=big_parts (h5 rfl)
   have h2:=hbits (by decide)
   have h3:n / 1=0:=h2
   cases neg
   · exact ⟨rfl,rule_5p f hf n hu s a c _ w hz (by omega) (by omega) hs⟩
   · exact ⟨rfl,rule_5n f hf n hu s a c _ w hz (by omega) (by omega) hs⟩
 · obtain rfl:=hleaf rfl
   rcases hf with rfl | rfl | rfl
   · exact ⟨rfl,rule_6_0 neg n hu s a c _ w (by omega) hs⟩
   · exact no (by simp [say_1])
   · exact ⟨rfl,rule_6_2 neg n hu s a c _ w (by omega) hs⟩
 · obtain rfl:=hleaf rfl
   rcases hf with rfl | rfl | rfl
   · exact ⟨rfl,rule_7_0 neg n hu s a c _ w (by omega) hs⟩
   · exact no (by simp [say_1])
   · exact no (by simp [say_2])
 · obtain rfl:=hleaf rfl
   rcases hf with rfl | rfl | rfl
   · exact ⟨rfl,rule_8_0 neg n hu s a c _ w (by omega) hs⟩
   · exact no (by simp [say_1])
   · exact no (by simp [say_2])
 · obtain rfl:=hleaf rfl
   exact ⟨rfl,rule_9 f hf neg n hu s a c _ w (by omega) (by omega) hs⟩
 · exact no (sayB_10 f n neg)
 · exact no (by rcases hf with rfl | rfl | rfl <;> simp [say_0,say_1,say_2])
 · exact no (by rcases hf with rfl | rfl | rfl <;> simp [say_0,say_1,say_2])
 · exact absurd rfl h13
 · obtain rfl:=hleaf rfl
   exact ⟨rfl,rule_14 f hf neg n hu s a c _ w (by omega) (by omega) hs⟩
end Go.Proofs.YtfmceonbejlhlaaGreatDoor
