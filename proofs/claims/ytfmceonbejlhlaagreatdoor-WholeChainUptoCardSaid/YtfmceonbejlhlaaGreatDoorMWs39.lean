import Derived.Test.YtfmceonbejlhlaaGreatDoorMWs37
import Derived.Test.YtfmceonbejlhlaaGreatDoorMWs38
namespace Go.Proofs.YtfmceonbejlhlaaGreatDoor
open Go.RowKit Go.Proofs.YtfmceonbejlhlaaGreatDoorW.PrintWords Go.Proofs.YtfmceonbejlhlaaGreatDoorW.PrintLast Go.Proofs.YtfmceonbejlhlaaGreatDoorW.PrintMore
set_option linter.unusedVariables false
theorem BecPost.result2 {f:Int} {pl n:Nat} {t:T} {W W3 W4:World} {u:T} {a:Option Addr} {c m q:Nat} (hp:pl≤W.heap.size) (hb3:Bc pl W W3) (hq:W.heap.size≤q) (hq3:q<W3.heap.size) (hty:TyAt W4 q 25) (h1:u.f4.length≤c)
 (h2:Tree W4 (fun b=>TyAt W4 b 25∧W3.heap.size≤b) u a) (h3:BecOk f t u m) (h4:m≤(preF t).length) (h5:Qa7 W4 pl (n+m)) (h6:Bc pl W3 W4) (u0 u1 u2 u3 u4:Value) :
 BecPost f pl n t W (.returned (.agg #[.int .i64 u.f0,.bool u.f1,.int .u64 u.f2,.string u.f3,.slice a u.f4.length c])) (((((W4.setCell ⟨q,0,none⟩ u0).setCell ⟨q,1,none⟩ u1).setCell ⟨q,2,none⟩ u2).setCell ⟨q,3,none⟩ u3).setCell ⟨q,4,none⟩ u4):=by
 have hs:=hb3.size
 refine ⟨u,a,c,m,rfl,h1,Qaq (fun b hb=>?_) (fun b hb=>Qb3 (by have:=hb.2;omega) _ _ _ _ _) h2,h3,h4,h5.put5 hty _ _ _ _ _,Bc.put5 (hb3.trans h6) hp hq _ _ _ _ _⟩
 obtain ⟨⟨cs,fr,h⟩,hb⟩:=hb
 exact ⟨⟨cs,fr,(Qb3 (by omega) _ _ _ _ _).trans h⟩,by omega⟩
theorem depthL_mem:∀ {l:List T} {t:T},t ∈ l→depthF t≤depthL l
 | x :: r,t,h=>by
   simp only [depthL]
   rcases List.mem_cons.1 h with rfl | h
   · omega
   · have:=depthL_mem h;omega
theorem preL_mem:∀ {l:List T} {t:T},t ∈ l→(preF t).length≤(preL l).length
 | x :: r,t,h=>by
   simp only [preL,List.length_append]
   rcases List.mem_cons.1 h with rfl | h
   · omega
   · have:=preL_mem h;omega
theorem check_kid {k:Int} {neg:Bool} {n:Int} {s:ByteArray} {l:List T} {x:T} (h:Qaz ⟨k,neg,n,s,l⟩=0) (hx:x ∈ l):Qaz x=0:=by
 obtain ⟨h1,h2,h3⟩:=check_is h
 obtain ⟨i,hi,he⟩:=List.getElem_of_mem hx
 have hn:=nodes_kid (t:=⟨k,neg,n,s,l⟩) h1 (i:=i) (x:=x) (by show l[i]? = some x;rw [List.getElem?_eq_getElem hi,he])
 obtain ⟨hone,hleaf⟩:=one_parts (nodes_one h1)
 have hd:=depthL_mem hx
 have hp:=preL_mem hx
 have hlf:¬ leafF k=true:=fun hl=>by rw [hleaf hl] at hx;cases hx
 have hdt:depthF ⟨k,neg,n,s,l⟩=depthL l+1:=by simp only [depthF];rw [if_neg hlf]
 have hpt:(preF ⟨k,neg,n,s,l⟩).length=(preL l).length+1:=by simp [preF]
 exact check_of hn (by omega) (by omega)
structure PSt (W W1:World) (f:Int) (pl qF ps pb n pm pc q:Nat) (A:Option Addr) (px:List Value) (k:Int) (neg:Bool) (nn:Int) (s:ByteArray) (lv:Value):Prop where
 bc:Bc pl W W1
 plq:pl<q
 env:EnvP W1 f pl qF ps pb
 lost:Qa7 W1 pl n
 path:PathQ W1 A pm pc px
 bp:Boxed W1 q 63 (.slice A pm pc)
 bv:Row5 W1 (q+1) (.int .i64 k) (.bool neg) (.int .u64 nn) (.string s) lv
 br:Row5 W1 (q+1+1) (.int .i64 0) (.bool false) (.int .u64 0) (.string ⟨#[]⟩) (.slice none 0 0)
theorem PSt.keep {W W1 W2:World} {f:Int} {pl qF ps pb n n2 pm pc q:Nat} {A:Option Addr} {px:List Value} {k:Int} {neg:Bool} {nn:Int} {s:ByteArray} {lv:Value} (h:PSt W W1 f pl qF ps pb n pm pc q A px k neg nn s lv) (hb:Bc pl W1 W2) (hL:Qa7 W2 pl n2):PSt W W2 f pl qF ps pb n2 pm pc q A px k neg nn s lv :=
 ⟨h.bc.trans hb,h.plq,h.env.keep h.lost hb,hL,h.path.keep hb fun g hg=>h.lost.type hg (by decide),hb.boxed h.bp (by have:=h.plq;omega) (by decide),hb.row5 h.bv (by have:=h.plq;omega),hb.row5 h.br (by have:=h.plq;omega)⟩
theorem PSt.below {W W1 W2:World} {f:Int} {pl qF ps pb n pm pc q:Nat} {A:Option Addr} {px:List Value} {k:Int} {neg:Bool} {nn:Int} {s:ByteArray} {lv:Value} (h:PSt W W1 f pl qF ps pb n pm pc q A px k neg nn s lv) (hb:Below W1.heap.size W1 W2):PSt W W2 f pl qF ps pb n pm pc q A px k neg nn s lv :=
 h.keep (Bc.of_below (Nat.le_of_lt h.lost.lt) hb) (h.lost.below hb)
theorem pst_new {W:World} {f:Int} {pl qF ps pb n pm pc:Nat} {A:Option Addr} {px:List Value} {k:Int} {neg:Bool} {nn:Int} {s:ByteArray} {lv:Value} (hE:EnvP W f pl qF ps pb) (hL:Qa7 W pl n) (hP:PathQ W A pm pc px) :
 PSt W (((W.alloc (.cells #[.slice A pm pc] 63)).alloc (.cells #[.int .i64 k,.bool neg,.int .u64 nn,.string s,lv] 25)).alloc (.cells #[.int .i64 0,.bool false,.int .u64 0,.string ⟨#[]⟩,.slice none 0 0] 25)) f pl qF ps pb n pm pc W.heap.size A px k neg nn s lv:=by
 have hb:Below W.heap.size W (((W.alloc (.cells #[.slice A pm pc] 63)).alloc (.cells #[.int .i64 k,.bool neg,.int .u64 nn,.string s,lv] 25)).alloc (.cells #[.int .i64 0,.bool false,.int .u64 0,.string ⟨#[]⟩,.slice none 0 0] 25)):=(((Below.refl _ W).alloc (Nat.le_refl _) _).alloc (by simp) _).alloc (by simp;omega) _
 have hp:=hL.lt
 have hbc:=Bc.of_below (Nat.le_of_lt hp) hb
 refine ⟨hbc,hp,hE.keep hL hbc,hL.below hb,hP.keep hbc fun g hg=>hL.type hg (by decide),?_,?_,?_⟩
 · exact ((Boxed.new W 63 (.slice A pm pc)).alloc _).alloc _
 · have:=(Row5.new (W.alloc (.cells #[.slice A pm pc] 63)) (.int .i64 k) (.bool neg) (.int .u64 nn) (.string s) lv).alloc (.cells #[.int .i64 0,.bool false,.int .u64 0,.string ⟨#[]⟩,.slice none 0 0] 25)
   rw [World.size_alloc] at this
   exact this
 · have:=Row5.new ((W.alloc (.cells #[.slice A pm pc] 63)).alloc (.cells #[.int .i64 k,.bool neg,.int .u64 nn,.string s,lv] 25)) (.int .i64 0) (.bool false) (.int .u64 0) (.string ⟨#[]⟩) (.slice none 0 0)
   rw [World.size_alloc,World.size_alloc] at this
   exact this
set_option maxRecDepth 100000 in
set_option maxHeartbeats 8000000 in
theorem become_leaf (f:Int) (hf:f=0 ∨ f=1 ∨ f=2) (k:Int) (neg:Bool) (nn:Int) (s:ByteArray) (l:List T) (hs:sayB f k neg nn=false) (h13:k ≠ 13) (hck:Qaz ⟨k,neg,nn,s,l⟩=0) (hwf:Wf ⟨k,neg,nn,s,l⟩) (hbk:bulk ⟨k,neg,nn,s,l⟩≤2147483648):BecC f ⟨k,neg,nn,s,l⟩:=by
 intro pl qF ps pb n pm pc c A a px W hE hL hP hT hc ht hm hn
 dsimp only
 have hR:=fun W=>rule_not f hf k neg nn s l a c W hs h13 (nodes_one (check_is hck).1) hwf hbk
 obtain rfl:=(hR W).1
 have HR:=Lib.hid (show ∀ W,Calls Tryz.prog 27 #[.int .i64 f,.agg #[.int .i64 k,.bool neg,.int .u64 nn,.string s,.slice a 0 c]] W (RuPost f (2048*bulk ⟨k,neg,nn,s,[]⟩) W) from fun W=>(hR W).2)
 have HLF:=Lib.hid (fun (u:T) (h:LeafU f (2048*bulk ⟨k,neg,nn,s,[]⟩) u)=>becOk_leaf (f:=f) (t:=⟨k,neg,nn,s,[]⟩) (u:=u) hs h.1 h.2.1 h.2.2.1 h.2.2.2.1 h.2.2.2.2.1 h.2.2.2.2.2.1 (fun _=>h.2.2.2.2.2.2))
 have hB:=pst_new (k:=k) (neg:=neg) (nn:=nn) (s:=s) (lv:=.slice a 0 c) hE hL hP
 have hp1:=preL_len_pos ⟨k,neg,nn,s,[]⟩
 obtain ⟨q,hq⟩:∃ q,W.heap.size=q:=⟨_,rfl⟩
 obtain ⟨W1,hW1⟩:∃ W1,((W.alloc (.cells #[.slice A pm pc] 63)).alloc (.cells #[.int .i64 k,.bool neg,.int .u64 nn,.string s,.slice a 0 c] 25)).alloc (.cells #[.int .i64 0,.bool false,.int .u64 0,.string ⟨#[]⟩,.slice none 0 0] 25)=W1:=⟨_,rfl⟩
 rw [hW1,hq] at hB
 have hplW:=hL.lt
 have f1:=hB.env.fb.cell
 have v0:=hB.bv.c0
 have v1:=hB.bv.c1
 have v2:=hB.bv.c2
 have v3:=hB.bv.c3
 have v4:=hB.bv.c4
 have HB:=Lib.hid hB
 have hnn:n≤1000000:=by omega
 have hpm:pm≤8796093022208:=by omega
 clear hE hL hP hT ht hR hB hs hwf hck hbk hc hf h13
 go_enter Tryz.func26,Tryz.ntmps26
 go_wp2_with (first
  | (go_at_call 27
     refine (HR.out W1).mono ?_
     rintro e w2 ⟨u,kd,he,⟨hu,hk0,hk5⟩,hb2⟩
     subst he
     have hB2:=HB.out.below hb2
     have hb3:=(Below.refl w2.heap.size w2).alloc (Nat.le_refl _) (.cells #[.int .i64 u.f0,.bool u.f1,.int .u64 u.f2,.string u.f3,.slice none 0 0] 25)
     have X3:=Row5.new w2 (.int .i64 u.f0) (.bool u.f1) (.int .u64 u.f2) (.string u.f3) (.slice none 0 0)
     have hB3:=hB2.below hb3
     have s1:=hB3.env.sb.cell
     have p1:=hB3.bp.cell
     have hkd0:¬ kd=0:=hk0
     have b0:(kd != 0)=true:=(by simpa using hk0)
     have b5:(kd == 5)=false:=(by simpa using hk5)
     have HB3:=Lib.hid hB3
     have HX3:=Lib.hid X3
     have HU:=Lib.hid hu
     have hxq:=hB2.plq
     clear hb2 hB2 hb3 X3 hB3 hu hk0 hk5)
  | (go_at_call 25
     refine (lose_any pl n pm pc A px kd _ HB3.out.lost hnn HB3.out.path hpm).mono ?_
     rintro e w4 ⟨he,l1,l2⟩
     subst he
     have hB4:=HB3.out.keep l2 l1
     have X4:=l2.row5 HX3.out (HB3.out.lost.type ⟨_,_,HX3.out⟩ (by decide))
     have HB4:=Lib.hid hB4
     have z0:=hB4.br.c0
     have z1:=hB4.br.c1
     have z2:=hB4.br.c2
     have z3:=hB4.br.c3
     have z4:=hB4.br.c4
     have y0:=hB4.br.fz 0
     have y1:=hB4.br.fz 1
     have y2:=hB4.br.fz 2
     have y3:=hB4.br.fz 3
     have y4:=hB4.br.fz 4
     have x0:=X4.c0
     have x1:=X4.c1
     have x2:=X4.c2
     have x3:=X4.c3
     have x4:=X4.c4
     clear hB4 X4 l1 l2))
 have Z5:=HB4.out.br.put5 (.int .i64 u.f0) (.bool u.f1) (.int .u64 u.f2) (.string u.f3) (.slice none 0 0)
 have k0:=Z5.c0
 have k1:=Z5.c1
 have k2:=Z5.c2
 have k3:=Z5.c3
 have k4:=Z5.c4
 refine bodyPost_ret (v:=.agg #[.int .i64 u.f0,.bool u.f1,.int .u64 u.f2,.string u.f3,.slice none 0 0]) (by simp [results,Tryz.f26,go_sem,k0,k1,k2,k3,k4]) rfl ?_
 have hul:=HU.out.2.1
 have hR2:=BecPost.result2 (f:=f) (t:=⟨k,neg,nn,s,[]⟩) (n:=n) (W:=W) (W3:=w4) (W4:=w4) (u:=u) (a:=none) (c:=0) (m:=1) (q:=q+1+1) (pl:=pl) (by omega) HB4.out.bc (by omega) HB4.out.br.lt ⟨_,_,HB4.out.br⟩ (by rw [hul];exact Nat.le_refl _)
  (by obtain ⟨uk,un,uu,us,ul⟩:=u;dsimp only at hul;subst hul;simp [Tree]) (HLF.out u HU.out) (by omega) HB4.out.lost (Bc.refl _ _) (.int .i64 u.f0) (.bool u.f1) (.int .u64 u.f2) (.string u.f3) (.slice none 0 0)
 rw [hul] at hR2
 exact hR2
theorem tag_one {neg:Bool} {n:Int} {s:ByteArray} {l:List T} (h:nodeB ⟨13,neg,n,s,l⟩=true):∃ x,l=[x]:=by
 have h1:=(one_parts h).1
 unfold oneF at h1
 split at h1
 · cases h1
 split at h1
 · cases h1
 rw [if_neg (by decide)] at h1
 unfold tailF at h1
 rw [if_neg (by decide),if_neg (by decide),if_neg (by omega),if_neg (by omega)] at h1
 by_cases hl:l.length=1
 · match l,hl with
   | [x],_=>exact ⟨x,rfl⟩
 · rw [if_pos ⟨rfl,.inl hl⟩] at h1;cases h1
set_option maxRecDepth 100000 in
set_option maxHeartbeats 8000000 in
theorem become_tag (f:Int) (hf:f=0 ∨ f=2) (neg:Bool) (nn:Int) (s:ByteArray) (x:T) (hC:BecC f x) (hwf:Wf ⟨13,neg,nn,s,[x]⟩):BecC f ⟨13,neg,nn,s,[x]⟩:=by
 intro pl qF ps pb n pm pc c A a px W hE hL hP hT hc ht hm hn
 dsimp only
 have hs:sayB f 13 neg nn=false:=by rcases hf with rfl | rfl <;> simp [say_0,say_2]
 have hf3:f=0 ∨ f=1 ∨ f=2:=by rcases hf with rfl | rfl <;> simp
 have hu:U64 nn:=u64_of_wf (wfT.1 hwf).2.1
 rcases (Qb1 hT).2 with e | ⟨g,off,rfl,hg,hTL⟩
 · cases e
 obtain ⟨x', xa, xc, hx, e0, e1, e2, e3, e4, hxc, hxT⟩ := Qbm hTL (i := 0) (by simp)
 obtain rfl:x=x':=by simpa using hx
 simp only [Nat.zero_mul,Nat.add_zero] at e0 e1 e2 e3 e4
 have hplW:=hL.lt
 have hgW:g<W.heap.size:=by omega
 have hHR:=fun W' (hb:Below pl W W')=>rule_tag f hf3 neg nn hu s g off c x xa xc W' hs ((hb.cell (p:=⟨g,off,none⟩) hg).trans e0) ((hb.cell (p:=⟨g,off+1,none⟩) hg).trans e1) ((hb.cell (p:=⟨g,off+2,none⟩) hg).trans e2) ((hb.cell (p:=⟨g,off+3,none⟩) hg).trans e3) ((hb.cell (p:=⟨g,off+4,none⟩) hg).trans e4)
 have HR:=Lib.hid hHR
 have hbt:bulk ⟨13,neg,nn,s,[x]⟩=s.size+(bulk x+0)+1:=by simp only [bulk,bulkL]
 have hpt:(preF ⟨13,neg,nn,s,[x]⟩).length=(preF x).length+1:=by simp [preF,preL]
 have hDD:=fun W' (h:PSt W W' f pl qF ps pb (n+1) pm pc W.heap.size A px 13 neg nn s (.slice (some ⟨g,off,none⟩) 1 c))=>down_any f x hC pl qF ps pb (n+1) pm pc c W.heap.size (W.heap.size+1) 0 1 xc g off 13 neg nn s A xa px W' h.env h.lost h.path h.bp h.bv (by omega) (by omega) hg
  (by simp only [Nat.zero_mul,Nat.add_zero];exact (h.bc.1.cell (p:=⟨g,off,none⟩) hg).trans e0) (by simp only [Nat.zero_mul,Nat.add_zero];exact (h.bc.1.cell (p:=⟨g,off+1,none⟩) hg).trans e1) (by simp only [Nat.zero_mul,Nat.add_zero];exact (h.bc.1.cell (p:=⟨g,off+2,none⟩) hg).trans e2) (by simp only [Nat.zero_mul,Nat.add_zero];exact (h.bc.1.cell (p:=⟨g,off+3,none⟩) hg).trans e3) (by simp only [Nat.zero_mul,Nat.add_zero];exact (h.bc.1.cell (p:=⟨g,off+4,none⟩) hg).trans e4)
  (Qaq (fun _ h=>h) (fun b hb=>h.bc.1.block b hb) hxT) hxc (ht.to h.bc.1) (by omega) (by omega)
 have hB:=pst_new (k:=13) (neg:=neg) (nn:=nn) (s:=s) (lv:=.slice (some ⟨g,off,none⟩) 1 c) hE hL hP
 obtain ⟨q,hq⟩:∃ q,W.heap.size=q:=⟨_,rfl⟩
 obtain ⟨W1,hW1⟩:∃ W1,((W.alloc (.cells #[.slice A pm pc] 63)).alloc (.cells #[.int .i64 13,.bool neg,.int .u64 nn,.string s,.slice (some ⟨g,off,none⟩) 1 c] 25)).alloc (.cells #[.int .i64 0,.bool false,.int .u64 0,.string ⟨#[]⟩,.slice none 0 0] 25)=W1:=⟨_,rfl⟩
 rw [hW1,hq] at hB
 rw [hq] at hDD
 have HD := Lib.hid (show ∀ W', PSt W W' f pl qF ps pb (n + 1) pm pc q A px 13 neg nn s (.slice (some ⟨g, off, none⟩) 1 c) → Calls Tryz.prog 28 #[.int .i64 0, .pointer (some ⟨pb, 0, none⟩), .pointer (some ⟨q, 0, none⟩), .pointer (some ⟨q + 1, 0, none⟩)] W' (BecPost f pl (n + 1) x W') from hDD)
 have f1:=hB.env.fb.cell
 have v0:=hB.bv.c0
 have v1:=hB.bv.c1
 have v2:=hB.bv.c2
 have v3:=hB.bv.c3
 have v4:=hB.bv.c4
 have HB:=Lib.hid hB
 have hnn:n≤1000000:=by omega
 have hpm:pm≤8796093022208:=by omega
 have HTG:=Lib.hid (fun (u:T) (m:Nat) (h:BecOk f x u m)=>becOk_tag (neg:=neg) (n:=nn) (s:=s) hf h)
 have HPT:=Lib.hid hpt
 clear hE hL hP hT ht hB hs hwf hc hf hf3 hC hHR hDD hTL hx hxT e0 e1 e2 e3 e4 hu hbt hpt hn hm
 go_enter Tryz.func26,Tryz.ntmps26
 go_wp2_with (first
  | (go_at_call 27
     refine (HR.out W1 HB.out.bc.1).mono ?_
     rintro e w2 ⟨he,hb2⟩
     subst he
     have hB2:=HB.out.below hb2
     have hb3:=(Below.refl w2.heap.size w2).alloc (Nat.le_refl _) (.cells #[.int .i64 x.f0,.bool x.f1,.int .u64 x.f2,.string x.f3,.slice xa x.f4.length xc] 25)
     have hB3:=hB2.below hb3
     have s1:=hB3.env.sb.cell
     have p1:=hB3.bp.cell
     have HB3:=Lib.hid hB3
     have hxq:=hB2.plq
     clear hb2 hB2 hb3 hB3)
  | (go_at_call 25
     refine (lose_any pl n pm pc A px 5 _ HB3.out.lost hnn HB3.out.path hpm).mono ?_
     rintro e w4 ⟨he,l1,l2⟩
     subst he
     have HB4:=Lib.hid (HB3.out.keep l2 l1)
     clear l1 l2)
  | (go_at_call 28
     refine (HD.out w4 HB4.out).mono ?_
     rintro e w5 ⟨u,ua,uc,um,he,u1,u2,u3,u4,u5,u6⟩
     subst he
     have hB5:=HB4.out.keep u6 u5
     have HB5:=Lib.hid hB5
     have HU:=Lib.hid (show _∧_∧_∧_∧_∧_ from ⟨u1,u2,u3,u4,u5,u6⟩)
     have z0:=hB5.br.c0
     have z1:=hB5.br.c1
     have z2:=hB5.br.c2
     have z3:=hB5.br.c3
     have z4:=hB5.br.c4
     have y0:=hB5.br.fz 0
     have y1:=hB5.br.fz 1
     have y2:=hB5.br.fz 2
     have y3:=hB5.br.fz 3
     have y4:=hB5.br.fz 4
     clear u1 u2 u3 u4 u5 u6 hB5))
 have Z5:=HB5.out.br.put5 (.int .i64 u.f0) (.bool u.f1) (.int .u64 u.f2) (.string u.f3) (.slice ua u.f4.length uc)
 have k0:=Z5.c0
 have k1:=Z5.c1
 have k2:=Z5.c2
 have k3:=Z5.c3
 have k4:=Z5.c4
 refine bodyPost_ret (v:=.agg #[.int .i64 u.f0,.bool u.f1,.int .u64 u.f2,.string u.f3,.slice ua u.f4.length uc]) (by simp [results,Tryz.f26,go_sem,k0,k1,k2,k3,k4]) rfl ?_
 exact BecPost.result2 (f:=f) (t:=⟨13,neg,nn,s,[x]⟩) (n:=n) (W:=W) (W3:=w4) (W4:=w5) (u:=u) (a:=ua) (c:=uc) (m:=um+1) (q:=q+1+1) (pl:=pl) (by omega) HB4.out.bc (by omega) HB4.out.br.lt ⟨_,_,HB5.out.br⟩ HU.out.1
  HU.out.2.1 (HTG.out u um HU.out.2.2.1) (by rw [HPT.out];have:=HU.out.2.2.2.1;omega) (by have:=HU.out.2.2.2.2.1;rw [show n+(um+1)=n+1+um by omega];exact this) HU.out.2.2.2.2.2 _ _ _ _ _
end Go.Proofs.YtfmceonbejlhlaaGreatDoor
