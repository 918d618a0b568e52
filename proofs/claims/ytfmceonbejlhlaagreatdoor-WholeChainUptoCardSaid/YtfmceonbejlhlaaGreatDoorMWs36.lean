import Derived.Test.YtfmceonbejlhlaaGreatDoorMWs31
import Derived.Test.YtfmceonbejlhlaaGreatDoorMWs32
namespace Go.Proofs.YtfmceonbejlhlaaGreatDoor
open Go.RowKit Go.Proofs.YtfmceonbejlhlaaGreatDoorW.PrintWords Go.Proofs.YtfmceonbejlhlaaGreatDoorW.PrintLast Go.Proofs.YtfmceonbejlhlaaGreatDoorW.PrintMore
set_option linter.unusedVariables false
set_option maxRecDepth 100000 in
set_option maxHeartbeats 4000000 in
theorem ditem_11 (neg:Bool) (N:Nat) (s:ByteArray) (a:Option Addr) (n c m:Nat) (B b:Nat) (l:List UInt8) (w:World) (h:Wr w B b l) (ht:Tabs w) (hB:B≤w.heap.size) (hN:N<18446744073709551616)
 (hall:∀ W,Below w.heap.size w W→Calls Tryz.prog 143 #[.pointer (some ⟨b,0,none⟩),.string ⟨#[91]⟩,.string ⟨#[93]⟩,.agg #[.int .i64 11,.bool neg,.int .u64 N,.string s,.slice a n c]] W (Piece B b m l W)) :
 Calls Tryz.prog 100 #[.pointer (some ⟨b,0,none⟩),.agg #[.int .i64 11,.bool neg,.int .u64 N,.string s,.slice a n c]] w (Piece B b m l w):=by
 have R:=Row5.new w (.int .i64 11) (.bool neg) (.int .u64 N) (.string s) (.slice a n c)
 have hb1:=(Below.refl w.heap.size w).alloc (Nat.le_refl _) (.cells #[.int .i64 11,.bool neg,.int .u64 N,.string s,.slice a n c] 25)
 have HF:=Lib.hid (Qbc N hN _ (ht.below hb1).1)
 have HB1:=Lib.hid hb1
 have HR:=Lib.hid R
 have HA:=Lib.hid hall
 have hc2:=R.c2
 clear h ht hb1 R hN hall
 go_enter Tryz.func100,Tryz.ntmps100
 go_wp2_with (first
  | (go_at_call 138;refine HF.out.mono ?_;rintro ee w2 ⟨tn,he,h1,h2,hb2⟩;subst he;have HB2:=Lib.hid (HB1.out.trans (hb2.mono HB1.out.size));have R2:=HR.out.below hb2;have d0:=R2.c0;have d1:=R2.c1;have d2:=R2.c2;have d3:=R2.c3;have d4:=R2.c4;clear h1 h2 hb2 R2)
  | (go_at_call 143;refine (HA.out w2 HB2.out).mono ?_;rintro ee w3 hp;obtain ⟨he,hp⟩:=hp.split;subst he))
 go_end0
 exact Piece.after HB2.out hB hp
set_option maxRecDepth 100000 in
set_option maxHeartbeats 4000000 in
theorem ditem_12 (neg:Bool) (N:Nat) (s:ByteArray) (a:Option Addr) (n c m:Nat) (B b:Nat) (l:List UInt8) (w:World) (h:Wr w B b l) (ht:Tabs w) (hB:B≤w.heap.size) (hN:N<18446744073709551616)
 (hall:∀ W,Below w.heap.size w W→Calls Tryz.prog 143 #[.pointer (some ⟨b,0,none⟩),.string ⟨#[123]⟩,.string ⟨#[125]⟩,.agg #[.int .i64 12,.bool neg,.int .u64 N,.string s,.slice a n c]] W (Piece B b m l W)) :
 Calls Tryz.prog 100 #[.pointer (some ⟨b,0,none⟩),.agg #[.int .i64 12,.bool neg,.int .u64 N,.string s,.slice a n c]] w (Piece B b m l w):=by
 have R:=Row5.new w (.int .i64 12) (.bool neg) (.int .u64 N) (.string s) (.slice a n c)
 have hb1:=(Below.refl w.heap.size w).alloc (Nat.le_refl _) (.cells #[.int .i64 12,.bool neg,.int .u64 N,.string s,.slice a n c] 25)
 have HF:=Lib.hid (Qbc N hN _ (ht.below hb1).1)
 have HB1:=Lib.hid hb1
 have HR:=Lib.hid R
 have HA:=Lib.hid hall
 have hc2:=R.c2
 clear h ht hb1 R hN hall
 go_enter Tryz.func100,Tryz.ntmps100
 go_wp2_with (first
  | (go_at_call 138;refine HF.out.mono ?_;rintro ee w2 ⟨tn,he,h1,h2,hb2⟩;subst he;have HB2:=Lib.hid (HB1.out.trans (hb2.mono HB1.out.size));have R2:=HR.out.below hb2;have d0:=R2.c0;have d1:=R2.c1;have d2:=R2.c2;have d3:=R2.c3;have d4:=R2.c4;clear h1 h2 hb2 R2)
  | (go_at_call 143;refine (HA.out w2 HB2.out).mono ?_;rintro ee w3 hp;obtain ⟨he,hp⟩:=hp.split;subst he))
 go_end0
 exact Piece.after HB2.out hB hp
set_option maxRecDepth 100000 in
set_option maxHeartbeats 4000000 in
theorem ditem_13 (neg:Bool) (N:Nat) (s:ByteArray) (a:Option Addr) (n c m:Nat) (B b:Nat) (l:List UInt8) (w:World) (h:Wr w B b l) (ht:Tabs w) (hB:B≤w.heap.size) (hN:N<18446744073709551616)
 (hall:∀ (tn:ByteArray) W,Asc tn→tn.size≤20→Below w.heap.size w W→Calls Tryz.prog 143 #[.pointer (some ⟨b,0,none⟩),.string (tn ++ ⟨#[40]⟩),.string ⟨#[41]⟩,.agg #[.int .i64 13,.bool neg,.int .u64 N,.string s,.slice a n c]] W (Piece B b m l W)) :
 Calls Tryz.prog 100 #[.pointer (some ⟨b,0,none⟩),.agg #[.int .i64 13,.bool neg,.int .u64 N,.string s,.slice a n c]] w (Piece B b m l w):=by
 have R:=Row5.new w (.int .i64 13) (.bool neg) (.int .u64 N) (.string s) (.slice a n c)
 have hb1:=(Below.refl w.heap.size w).alloc (Nat.le_refl _) (.cells #[.int .i64 13,.bool neg,.int .u64 N,.string s,.slice a n c] 25)
 have HF:=Lib.hid (Qbc N hN _ (ht.below hb1).1)
 have HB1:=Lib.hid hb1
 have HR:=Lib.hid R
 have HA:=Lib.hid hall
 have hc2:=R.c2
 clear h ht hb1 R hN hall
 go_enter Tryz.func100,Tryz.ntmps100
 go_wp2_with (first
  | (go_at_call 138;refine HF.out.mono ?_;rintro ee w2 ⟨tn,he,h1,h2,hb2⟩;subst he;have HTN:=Lib.hid (show Asc tn∧tn.size≤20 from ⟨h1,h2⟩);have k1:¬ 9223372036854775807<tn.size+1:=(by omega);have HB2:=Lib.hid (HB1.out.trans (hb2.mono HB1.out.size));have R2:=HR.out.below hb2;have d0:=R2.c0;have d1:=R2.c1;have d2:=R2.c2;have d3:=R2.c3;have d4:=R2.c4;clear h1 h2 hb2 R2))
 go_wp2_with (first
  | (go_at_call 143;refine (HA.out tn w2 HTN.out.1 HTN.out.2 HB2.out).mono ?_;rintro ee w3 hp;obtain ⟨he,hp⟩:=hp.split;subst he))
 go_end0
 exact Piece.after HB2.out hB hp
theorem one_parts {k:Int} {neg:Bool} {n:Int} {s:ByteArray} {l:List T} (h:nodeB ⟨k,neg,n,s,l⟩=true):oneF k neg n s l=true∧(leafF k=true→l=[]):=by
 unfold nodeB at h
 dsimp only at h
 rw [Bool.and_eq_true] at h
 refine ⟨h.1,fun hl=>?_⟩
 have h2:=h.2
 rw [hl] at h2
 cases l with
 | nil=>rfl
 | cons x r=>simp at h2
theorem one_kind {k:Int} {neg:Bool} {n:Int} {s:ByteArray} {l:List T} (h:oneF k neg n s l=true):(0≤k∧k≤14)∧(bitsF k<64→n / 2 ^ (bitsF k).toNat=0)∧(k=10→Utf s)∧(k=5→bigF s=true)∧(k=4→s.size=0):=by
 unfold oneF at h
 split at h
 · cases h
 rename_i g1
 split at h
 · cases h
 rename_i g2
 refine ⟨by omega,fun hb=>?_,?_⟩
 · by_cases h0:n / 2 ^ (bitsF k).toNat=0
   · exact h0
   · exact absurd ⟨hb,h0⟩ g2
 split at h
 · rename_i g3
   subst g3
   refine ⟨fun _=>?_,fun e=>absurd e (by decide),fun e=>absurd e (by decide)⟩
   unfold Utf
   simpa using h
 · rename_i g3
   refine ⟨fun e=>absurd e g3,fun e=>?_,fun e=>?_⟩
   · subst e
     unfold tailF at h
     rw [if_neg (by decide),if_pos rfl] at h
     exact h
   · subst e
     unfold tailF at h
     rw [if_neg (by decide),if_neg (by decide),if_neg (by omega),if_neg (by omega),if_neg (by omega)] at h
     have h2:s.toList=[]:=by simpa using h
     rw [ByteArray.toList_eq] at h2
     have h3:=str_len s
     rw [h2] at h3
     exact h3.symm
theorem bt_zero (s:ByteArray):(strB s).getD 0 0=bt s 0:=by
 unfold strB bt
 have hl:=str_len s
 by_cases h:0<s.size
 · rw [dif_pos (by simpa using h),List.getD_eq_getElem?_getD,List.getElem?_map,List.getElem?_eq_getElem (by omega)]
   simp [ByteArray.getElem_eq_getElem_data]
 · rw [dif_neg (by simpa using h)]
   have:s.data.toList=[]:=List.eq_nil_of_length_eq_zero (by omega)
   rw [this];rfl
theorem big_parts {s:ByteArray} (h:bigF s=true):8<s.size∧s.size≤512∧(strB s).getD 0 0 ≠ 0:=by
 unfold bigF at h
 simp only [Bool.and_eq_true,decide_eq_true_eq] at h
 refine ⟨h.1,h.2.1,?_⟩
 have h3:=h.2.2
 rw [bt_zero];simpa using h3
theorem Piece.wider {B b m m2:Nat} {l:List UInt8} {w w':World} {e:Ending} (hm:m≤m2) (h:Piece B b m l w e w'):Piece B b m2 l w e w':=by
 obtain ⟨h1,l2,h2,h3,h4,h5⟩:=h
 exact ⟨h1,l2,h2,h3,Nat.le_trans h4 hm,h5⟩
set_option maxRecDepth 100000 in
set_option maxHeartbeats 4000000 in
theorem item_all (B b:Nat):∀ t:T,(preF t).all nodeB=true→Wf t→bulk t≤2147483648→ItemOk B b t:=by
 intro t
 induction t using T.ind with
 | h k neg n s ll ih =>
   intro hnb hwf hbk a c l w h htb hT hc hl hB
   have ht:=htb.tabs
   obtain ⟨hone,hleaf⟩:=one_parts (nodes_one hnb)
   obtain ⟨hk,hbits,h10,h5,h4⟩:=one_kind hone
   have hwf':=wfT.1 hwf
   have hn:=u64_of_wf hwf'.2.1
   obtain ⟨N,rfl⟩:∃ N:Nat,n=N:=⟨n.toNat,by omega⟩
   have hN:N<18446744073709551616:=by omega
   have hbk':=hbk
   simp only [bulk] at hbk hl
   have hlen:=bulkL_len ll
   dsimp only at hc ⊢
   have hM : ∀ m, m ≤ 2048 * (s.size + bulkL ll + 1) - 2 → ∀ e w', Piece B b m l w e w' → Piece B b (2048 * bulk ⟨k, neg, N, s, ll⟩ - 2) l w e w' := fun m hm e w' hp => Piece.wider (by simp only [bulk]; exact hm) hp
   have hlw:l.length≤70368744000000:=by omega
   have hit:∀ x ∈ ll,ItemOk B b x:=fun x hx=>by
    obtain ⟨i,hi,he⟩:=List.getElem_of_mem hx
    have hb:=bulkL_mem hx
    exact ih x hx (nodes_kid (t:=⟨k,neg,N,s,ll⟩) hnb (i:=i) (by show ll[i]? = some x;rw [List.getElem?_eq_getElem hi,he])) (wfL_mem hwf'.2.2 hx) (by omega)
   have hTL:ll=[] ∨ ∃ g off,a=some ⟨g,off,none⟩∧g<B∧TreeL w (·<B) ll g off:=(Qb1 hT).2
   have hall:∀ (be en:ByteArray) (W:World),Rt8 be.data.toList→Rt8 en.data.toList→1≤be.size→be.size+en.size≤22→Below w.heap.size w W→Calls Tryz.prog 143 #[.pointer (some ⟨b,0,none⟩),.string be,.string en,.agg #[.int .i64 k,.bool neg,.int .u64 N,.string s,.slice a ll.length c]] W (Piece B b (be.size+en.size+2048*bulkL ll) l W):=fun be en W q1 q2 q3 q4 hb =>
    all_put B b be en k neg N s ll a c l W hit (h.below hb) (htb.to (hb.mono hB)) (hTL.imp_right fun ⟨g,off,e1,e2,e3⟩=>⟨g,off,e1,e2,treeL_mk fun i t e=>by
     obtain ⟨a', c', g1, g2, g3⟩ := treeL_at e3 e
     exact ⟨a', c', fun j v hv => (cell_same (hb.block g (by omega)) _).trans (g1 j v hv), g2, Qaq (fun _ h => h) (fun g hg => hb.block g (by omega)) g3⟩⟩) (by omega) q1 q2 q3 (by omega) (Nat.le_trans hB hb.size)
   obtain rfl | rfl | rfl | rfl | rfl | rfl | rfl | rfl | rfl | rfl | rfl | rfl | rfl | rfl | rfl:k=0 ∨ k=1 ∨ k=2 ∨ k=3 ∨ k=4 ∨ k=5 ∨ k=6 ∨ k=7 ∨ k=8 ∨ k=9 ∨ k=10 ∨ k=11 ∨ k=12 ∨ k=13 ∨ k=14:=by omega
   · obtain rfl:=hleaf rfl
     exact (ditem_0 neg N hN s _ B b l w h ht (by omega) hB).mono (hM _ (by omega))
   · obtain rfl:=hleaf rfl
     have h2:=hbits (by decide)
     have h3:(N:Int) / 2=0:=h2
     obtain rfl | rfl:N=0 ∨ N=1:=by omega
     · exact (ditem_1_0 neg s a c B b l w h ht (by omega) hB).mono (hM _ (by omega))
     · exact (ditem_1_1 neg s a c B b l w h ht (by omega) hB).mono (hM _ (by omega))
   · obtain rfl:=hleaf rfl
     exact (ditem_2 neg N hN s _ B b l w h ht (by omega) hB).mono (hM _ (by omega))
   · obtain rfl:=hleaf rfl
     exact (ditem_3 neg N hN s _ B b l w h ht (by omega) hB).mono (hM _ (by omega))
   · obtain rfl:=hleaf rfl
     have hs:=h4 rfl
     cases neg
     · exact (ditem_4p N s a c B b l w h ht (by omega) hB hN hs).mono (hM _ (by omega))
     · exact (ditem_4n N s a c B b l w h ht (by omega) hB hN hs).mono (hM _ (by omega))
   · obtain rfl:=hleaf rfl
     have hs:=big_parts (h5 rfl)
     have h2:=hbits (by decide)
     have h3:(N:Int) / 1=0:=h2
     obtain rfl:N=0:=by omega
     cases neg
     · exact (ditem_5p s a c B b l w h ht (by omega) hB hs).mono (hM _ (by omega))
     · exact (ditem_5n s a c B b l w h ht (by omega) hB hs).mono (hM _ (by omega))
   · obtain rfl:=hleaf rfl
     have h2:=hbits (by decide)
     have h3:(N:Int) / 65536=0:=h2
     exact (ditem_6 neg N s a c B b l w h ht (by omega) hB (by omega)).mono (hM _ (by omega))
   · obtain rfl:=hleaf rfl
     have h2:=hbits (by decide)
     have h3:(N:Int) / 4294967296=0:=h2
     exact (ditem_7 neg N s a c B b l w h ht (by omega) hB (by omega)).mono (hM _ (by omega))
   · obtain rfl:=hleaf rfl
     exact (ditem_8 neg N s a c B b l w h ht (by omega) hB hN).mono (hM _ (by omega))
   · obtain rfl:=hleaf rfl
     exact (ditem_9 neg N s a c B b l w h ht (by omega) hB hN (by omega)).mono (hM _ (by omega))
   · obtain rfl:=hleaf rfl
     exact (ditem_10 neg N s a c B b l w h ht (by omega) hB hN (by omega) (h10 rfl)).mono (hM _ (by omega))
   · exact (ditem_11 neg N s a ll.length c _ B b l w h ht hB hN fun W hb=>hall ⟨#[91]⟩ ⟨#[93]⟩ W (Rt8.lit (by decide)) (Rt8.lit (by decide)) (by decide) (by decide) hb).mono (hM _ (by have e1:(⟨#[91]⟩:ByteArray).size=1:=rfl;have e2:(⟨#[93]⟩:ByteArray).size=1:=rfl;omega))
   · exact (ditem_12 neg N s a ll.length c _ B b l w h ht hB hN fun W hb=>hall ⟨#[123]⟩ ⟨#[125]⟩ W (Rt8.lit (by decide)) (Rt8.lit (by decide)) (by decide) (by decide) hb).mono (hM _ (by have e1:(⟨#[123]⟩:ByteArray).size=1:=rfl;have e2:(⟨#[125]⟩:ByteArray).size=1:=rfl;omega))
   · refine (ditem_13 neg N s a ll.length c (22+2048*bulkL ll) B b l w h ht hB hN fun tn W q1 q2 hb=>?_).mono (hM _ (by omega))
     have e1:(tn ++ ⟨#[40]⟩:ByteArray).size=tn.size+1:=by simp [ByteArray.size_append];rfl
     have e2:(⟨#[41]⟩:ByteArray).size=1:=rfl
     have e3:(tn ++ ⟨#[40]⟩:ByteArray).data.toList=tn.data.toList ++ [40]:=by simp
     have e4:Rt8 (tn ++ ⟨#[40]⟩:ByteArray).data.toList:=by rw [e3];exact q1.rt.app (Qam (by decide))
     generalize (tn ++ ⟨#[40]⟩:ByteArray)=be at e1 e4 ⊢
     have h1:=hall be ⟨#[41]⟩ W e4 (Rt8.lit (by decide)) (by omega) (by omega) hb
     rw [e2] at h1
     generalize be.size=bz at e1 h1
     exact h1.mono fun e w' hp=>Piece.wider (by omega) hp
   · obtain rfl:=hleaf rfl
     exact (ditem_14 neg N s a c B b l w h ht (by omega) hB hN (by omega)).mono (hM _ (by omega))
def PrPost (m:Nat) (w:World) (e:Ending) (w':World):Prop:=∃ S:ByteArray,e=.returned (.tuple #[.string S,.int .i64 0])∧Utf S∧S.size≤m∧Below w.heap.size w w'
theorem wr_new (W:World):Wr (W.alloc (.cells #[.pointer none,.slice none 0 0] 186)) W.heap.size W.heap.size [] :=
 .inl ⟨Nat.le_refl _,.slice none 0 0,heap_alloc_new W _,World.ownsRow_nil _ _ _ _,by simp [Value.ownBlock]⟩
theorem ofL_size (l:List UInt8):(⟨l.toArray⟩:ByteArray).size=l.length:=by simp [ByteArray.size]
set_option maxRecDepth 100000 in
set_option maxHeartbeats 4000000 in
theorem print_any (t:T) (a:Option Addr) (c:Nat) (w:World) (P:Nat→Prop) (hP:∀ g,P g→g<w.heap.size) (hT:Tree w P t a) (hc:t.f4.length≤c) (hb:bulk t≤2147483648) (hwf:Wf t) (hck:Qaz t=0) (ht:Tabs w) :
 Calls Tryz.prog 56 #[.agg #[.int .i64 t.f0,.bool t.f1,.int .u64 t.f2,.string t.f3,.slice a t.f4.length c]] w (PrPost (2048*bulk t - 1) w):=by
 have R:=Row5.new w (.int .i64 t.f0) (.bool t.f1) (.int .u64 t.f2) (.string t.f3) (.slice a t.f4.length c)
 have hb1:=(Below.refl w.heap.size w).alloc (Nat.le_refl _) (.cells #[.int .i64 t.f0,.bool t.f1,.int .u64 t.f2,.string t.f3,.slice a t.f4.length c] 25)
 have HC:=Lib.hid (checkT_any t a c _ P (fun g hg=>Nat.lt_of_lt_of_le (hP g hg) hb1.size) (Qaq (fun _ h=>h) (fun g hg=>hb1.block g (hP g hg)) hT) hc (by omega))
 rw [hck] at HC
 have HI:=Lib.hid (fun (B b:Nat) (W:World) (h:Wr W B b []) (q1:w.heap.size≤B) (q2:Below w.heap.size w W) (q3:B≤W.heap.size)=>item_all B b t (check_is hck).1 hwf hb a c [] W h ⟨w,ht,q1,q2⟩ (Qaq (fun g hg=>Nat.lt_of_lt_of_le (hP g hg) q1) (fun g hg=>q2.block g (hP g hg)) hT) hc (by simp;omega) q3)
 have HB1:=Lib.hid hb1
 have HR:=Lib.hid R
 have c0:=R.c0
 have c1:=R.c1
 have c2:=R.c2
 have c3:=R.c3
 have c4:=R.c4
 clear hT hP hck hwf hb1 R ht
 go_enter Tryz.func56,Tryz.ntmps56
 go_wp2_with (first
  | (go_at_call 16;refine HC.out.mono ?_;rintro ee w2 ⟨he,hb2⟩;subst he;have R2:=HR.out.below hb2;have hbB:=HB1.out.trans (hb2.mono HB1.out.size);have hb3:=(Below.refl w2.heap.size w2).alloc (Nat.le_refl _) (.cells #[.pointer none,.slice none 0 0] 186);have R3:=R2.below hb3;have HB3:=Lib.hid (hbB.trans (hb3.mono hbB.size));have HQ:=Lib.hid (show w.heap.size≤w2.heap.size∧w2.heap.size≤(w2.alloc (.cells #[.pointer none,.slice none 0 0] 186)).heap.size from ⟨hbB.size,hb3.size⟩);have d0:=R3.c0;have d1:=R3.c1;have d2:=R3.c2;have d3:=R3.c3;have d4:=R3.c4;have e0:=R2.c0;have e1:=R2.c1;have e2:=R2.c2;have e3:=R2.c3;have e4:=R2.c4;clear hb2 hbB hb3 R2 R3)
  | (go_at_call 100;refine (HI.out w2.heap.size w2.heap.size _ (wr_new w2) HQ.out.1 HB3.out HQ.out.2).mono ?_;rintro ee w4 ⟨he,l2,p1,p2,p3,p4,p5⟩;subst he;rw [List.nil_append] at p4;have HP:=Lib.hid (show Rt8 l2∧l2.length≤2048*bulk t - 2∧Wr w4 w2.heap.size w2.heap.size l2∧Below w.heap.size w w4 from ⟨p1,p3,p4,HB3.out.trans (p5.1.mono HQ.out.1)⟩);have hl2:l2 ≠ []:=(by intro h0;rw [h0] at p2;simp at p2);clear p1 p2 p3 p4 p5)
  | (go_at_call 101;refine (wr_text w2.heap.size w2.heap.size l2 _ HP.out.2.2.1 hl2).mono ?_;rintro ee w5 ⟨he,h5⟩;subst he;have HB5:=Lib.hid (HP.out.2.2.2.trans (h5.mono HQ.out.1));clear h5))
 refine bodyPost_ret (v:=.tuple #[.string ⟨l2.toArray⟩,.int .i64 0]) (by simp [results,Tryz.results56,go_sem]) rfl ?_
 refine ⟨⟨l2.toArray⟩,rfl,Utf.of (by simpa using HP.out.1),?_,HB5.out⟩
 rw [ofL_size]
 have:=HP.out.2.1
 omega
end Go.Proofs.YtfmceonbejlhlaaGreatDoor
