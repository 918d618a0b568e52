import Derived.WalkMore
import Derived.Deep.QuietTactic
import Derived.BigQuiet
import Derived.Test.YtfmceonbejlhlaaGreatDoorMWs34
namespace Go.Proofs.YtfmceonbejlhlaaGreatDoor
open Go.RowKit Go.Shelf Go.Proofs.YtfmceonbejlhlaaGreatDoorW.PrintWords Go.Proofs.YtfmceonbejlhlaaGreatDoorW.PrintLast Go.Proofs.YtfmceonbejlhlaaGreatDoorW.PrintMore
set_option linter.unusedVariables false
theorem putObj_cells (W:World) (l:Nat) (o o':Obj) (h:W.heap[l]? = some o) (ho:o.isCells=false):∀ (k:Nat) (u:Obj),W.heap[k]? = some u→u.isCells=true→(W.putObj l o').heap[k]? = some u:=fun k u hk hu=>by
 rw [World.putObj_heap_other (fun e=>by subst e;rw [h] at hk;cases hk;rw [ho] at hu;cases hu)]
 exact hk
theorem putObj_below {B:Nat} (W:World) (l:Nat) (o':Obj) (hB:B≤l) (hl:l<W.heap.size):Below B W (W.putObj l o') :=
 (Below.refl B W).grown (grownBy_putObj' W l o') (by omega) fun k e=>by cases e;exact hB
def Booked (B:Nat) (rec:LoopState→Option Code→Loop) (st:LoopState) (pe:Option Code) (W:World):Prop:=W.heap[B+1]? = some (.loop (rec st pe))∧W.heap[B]? = some (.deferred (some []))
theorem Booked.stp {B b:Nat} {rec:LoopState→Option Code→Loop} {st:LoopState} {pe:Option Code} {A C:World} (h:Booked B rec st pe A) (hs:Stp b A C):Booked B rec st pe C:=⟨hs.2 _ _ h.1 rfl,hs.2 _ _ h.2 rfl⟩
theorem Booked.keeps {B:Nat} {rec:LoopState→Option Code→Loop} {st:LoopState} {pe:Option Code} {A C:World} (h:Booked B rec st pe A) (hs:KeepsFrom B A C):Booked B rec st pe C:=⟨hs.same _ _ (by omega) h.1 rfl,hs.same _ _ (Nat.le_refl _) h.2 rfl⟩
theorem Booked.lt {B:Nat} {rec:LoopState→Option Code→Loop} {st:LoopState} {pe:Option Code} {A:World} (h:Booked B rec st pe A):B+1<A.heap.size:=(Array.getElem?_eq_some_iff.1 h.1).1
theorem Booked.put {B:Nat} {rec:LoopState→Option Code→Loop} {st st2:LoopState} {pe pe2:Option Code} {A:World} (h:Booked B rec st pe A):Booked B rec st2 pe2 (A.putObj (B+1) (.loop (rec st2 pe2))):=⟨World.putObj_heap_same h.lt,(World.putObj_heap_other (by omega)).trans h.2⟩
theorem range_stp {α:Type} {g:Operand} {ps:Array Tmp} {assign body:Code} {Q:Exit→Act→World→Prop} {a:Act} {w:World} {n:Nat} (h1:1≤n) {gf:Nat} {lb:Array Value} (hg:a.eval g=.func (.func gf) #[] lb)
 (eg:∀ args w,(callFunc gf args).run Tryz.prog w=.ok (.enter gf args) w) {encs:α→Array Value} {Kp:World→World→Prop} {S Sp:List α→Prop} {N:Nat} {w0:World} (hseq:SeqW (n - 1) gf lb encs Kp S Sp N w0)
 (hKt:∀ {A B C:World},Kp A B→Kp B C→Kp A C) (hKb:∀ (W:World) (l:Nat) (o o':Obj),W.heap[l]? = some o→o.isCells=false→Kp W (W.putObj l o')) (hb0:Below w0.heap.size w0 w) (hps:∀ x,(encs x).size=ps.size)
 (I:List α→World→Prop) (Ix:Code→List α→World→Prop) (hI:∀ s A C,I s A→Below w.heap.size A C→I s C) (hIx:∀ c s A C,Ix c s A→Below w.heap.size A C→Ix c s C) (h0:I [] w)
 (Ax:α→Act→World→Prop) (hAx:∀ x a' A C,Ax x a' A→(∀ (k:Nat) (o:Obj),A.heap[k]? = some o→o.isCells=true→C.heap[k]? = some o)→Ax x a' C)
 (hassign : ∀ (l : Nat) (pre : List α) (x : α) (W : World) (K : Act → World → Prop), I pre W → (∀ a' W', KeepsFrom w.heap.size W W' → Kp W W' → I pre W' → Ax x a' W' → K a' W') →
   assign.wpIn (Fence.wide.inRound l) (n - 1 - 1) Tryz.prog (Exit.then K (fun _ _ _=>False)) { tmps:=(ps.zip (encs x)).foldl (fun t (p,v)=>t.setIfInBounds p v) a.tmps,defers:=[] } W)
 (hbody:∀ (l:Nat) (pre:List α) (x:α) (a':Act) (W:World),I pre W→Ax x a' W→pre.length<N→body.wpIn (Fence.wide.inRound l) (n - 1 - 1) Tryz.prog (ownPostG w.heap.size Kp I Ix (pre ++ [x]) W) a' W)
 (hdone:∀ (D:Nat) (xs:List α) (W:World),w.heap.size≤D→S xs→I xs W→W.heap[D]? = some (.deferred (some []))→Q .normal { a with defers:={ target:=.collected D,args:=#[] } :: a.defers } W)
 (hstop:∀ (D:Nat) (c:Code) (pre:List α) (W:World),w.heap.size≤D→Sp pre→Ix c pre W→W.heap[D]? = some (.deferred (some []))→c.wpIn Fence.wide n Tryz.prog Q { a with defers:={ target:=.collected D,args:=#[] } :: a.defers } W) :
 (Code.rangeFunc g ps assign body).wpIn Fence.wide n Tryz.prog Q a w:=by
 refine wpIn_rangeFunc fun fn hfn=>?_
 obtain ⟨b,hb⟩:∃ b,w.heap.size=b:=⟨_,rfl⟩
 obtain ⟨rec,hrec⟩:∃ rec:LoopState→Option Code→Loop,rec=fun st pe=>{ state:=st,pending:=pe,fn,tmps:=a.tmps,params:=ps,assign,body,defers:=b }:=⟨_,rfl⟩
 have hE:(Instr.enterLoop fn a.tmps ps assign body none).run Tryz.prog w=.ok (b+1,[{ target:=.collected b,args:=#[] }]) ((w.alloc (.deferred (some []))).alloc (.loop (rec .ready none))):=by
  rw [hrec,← hb];exact run_enterLoop_outer _ _ _ _ _
 obtain ⟨W1,hW1⟩:∃ W1,(w.alloc (.deferred (some []))).alloc (.loop (rec .ready none))=W1:=⟨_,rfl⟩
 have hs1:W1.heap.size=b+2:=by rw [← hW1,← hb];simp
 have hB1:Below w.heap.size w W1:=by rw [← hW1];exact ((Below.refl _ w).alloc (Nat.le_refl _) _).alloc (by simp) _
 have hk1:Booked b rec .ready none W1:=by
  constructor
  · have:=World.alloc_heap_new (w.alloc (.deferred (some []))) (.loop (rec .ready none))
    rw [World.size_alloc,hW1,hb] at this
    exact this
  · rw [← hW1,← hb]
    exact (Below.heap_alloc _ _ _ (by simp)).trans (World.alloc_heap_new w _)
 rw [hW1] at hE
 refine ⟨b+1,[{ target:=.collected b,args:=#[] }],W1,{ target:=.fn (.func gf) lb,args:=#[.func (.yield (b+1)) #[] #[]] },W1,gf,#[.func (.yield (b+1)) #[] #[]] ++ lb,W1,hE,?_,fun f' _=>trivial,?_,fun h=>h1,?_⟩
 · simp only [resolve,hg]
   simp [go_sem]
 · simp [invoke,go_sem,eg]
 refine (hseq (b+1) (fun pre W=>I pre W∧Booked b rec .ready none W) (fun pre W=>∃ c,Ix c pre W∧Booked b rec .done (some c) W) W1 (hb0.trans (hB1.mono hb0.size))
  (fun s A C hs hc=>⟨hI _ _ _ hs.1 (hc.1.mono (by omega)),hs.2.stp hc⟩) (fun s A C hs hc=>by obtain ⟨c,h2,h3⟩:=hs;exact ⟨c,hIx _ _ _ _ h2 (hc.1.mono (by omega)),h3.stp hc⟩) ?_ ⟨hI _ _ _ h0 hB1,hk1⟩).mono ?_
 · rintro pre x W ⟨hi,hk⟩ hlen
   have hy:=run_yield (P:=Tryz.prog) (args:=encs x) hk.1 (by rw [hrec];exact hps x)
   rw [hrec] at hy
   refine ⟨fn,_,assign,body,hy,roundIn_of_wpIn hfn (hassign _ pre x W _ hi fun a' V hkf hkp hia hax=>?_)⟩
   have hk2:=hk.keeps (hb ▸ hkf)
   refine ⟨_,run_beginRound hk2.1 (by rw [hrec]),?_⟩
   have hbz:({ rec .ready none with state:=.busy }:Loop)=rec .busy none:=by rw [hrec]
   rw [hbz]
   have hk3:Booked b rec .busy none (V.putObj (b+1) (.loop (rec .busy none))):=hk2.put
   have hp3:=hKb V (b+1) _ (.loop (rec .busy none)) hk2.1 rfl
   refine wpIn_mono (hbody _ pre x a' _ (hI _ _ _ hia (putObj_below V (b+1) _ (by omega) hk2.lt)) (hAx _ _ _ _ hax (putObj_cells V (b+1) _ _ hk2.1 rfl)) hlen) ?_
   have fin:∀ (jump:Option Code) (V3:World),KeepsFrom w.heap.size (V.putObj (b+1) (.loop (rec .busy none))) V3→(Instr.endRound (b+1) jump).run Tryz.prog V3=.ok (.bool jump.isNone) (V3.putObj (b+1) (.loop (rec (if jump.isNone then .ready else .done) jump)))∧Booked b rec .busy none V3:=fun jump V3 h=>by
    have h4:=hk3.keeps (hb ▸ h)
    have h5:=run_endRound (P:=Tryz.prog) jump h4.1
    rw [hrec] at h5 ⊢
    rw [hrec] at h4
    exact ⟨h5,h4⟩
   have out:∀ (c:Code) (V3:World),KeepsFrom w.heap.size (V.putObj (b+1) (.loop (rec .busy none))) V3→Ix c (pre ++ [x]) V3→∃ v V4,(Instr.endRound (b+1) (some c)).run Tryz.prog V3=.ok v V4∧(((Ending.returned v=.returned (.bool true))∧(I (pre ++ [x]) V4∧Booked b rec .ready none V4)∧Kp W V4) ∨ ((Ending.returned v=.returned (.bool false))∧∃ c,Ix c (pre ++ [x]) V4∧Booked b rec .done (some c) V4)):=fun c V3 h hi3=>by
    obtain ⟨h5,h4⟩:=fin (some c) V3 h
    exact ⟨_,_,h5,.inr ⟨rfl,c,hIx _ _ _ _ hi3 (putObj_below V3 (b+1) _ (by omega) h4.lt),h4.put⟩⟩
   rintro e a3 V3 hp
   cases e with
   | normal =>
     obtain ⟨q1,q2,q3⟩:=hp
     obtain ⟨h5,h4⟩:=fin none V3 q1
     exact ⟨_,_,h5,.inl ⟨rfl,⟨hI _ _ _ q3 (putObj_below V3 (b+1) _ (by omega) h4.lt),h4.put⟩,hKt hkp (hKt (hKt hp3 q2) (hKb V3 (b+1) _ _ h4.1 rfl))⟩⟩
   | ret=>exact out _ _ hp.1 hp.2
   | exit id=>exact out _ _ hp.1 hp.2
   | goto t=>exact out _ _ hp.1 hp.2
   | panic ch=>exact hp.elim
   | outgrown=>exact hp.elim
 · rintro e V ⟨⟨v,rfl⟩,⟨xs,hS,hi,hk⟩ | ⟨pre,hS,c,hi,hk⟩⟩
   · have h5:=run_endLoop (P:=Tryz.prog) hk.1 (by rw [hrec];simp)
     exact ⟨_,_,h5,by rw [hrec];exact hdone b xs _ (by omega) hS (hI _ _ _ hi (putObj_below V (b+1) _ (by omega) hk.lt)) ((World.putObj_heap_other (by omega)).trans hk.2)⟩
   · have h5:=run_endLoop (P:=Tryz.prog) hk.1 (by rw [hrec];simp)
     exact ⟨_,_,h5,by rw [hrec];exact hstop b c pre _ (by omega) hS (hIx _ _ _ _ hi (putObj_below V (b+1) _ (by omega) hk.lt)) ((World.putObj_heap_other (by omega)).trans hk.2)⟩
attribute [local go_sem] Oper.semAt_some
theorem feach_in (n:Nat) (w:World) (a b c d e p k:Value) :
 CallsIn Fence.wide n Tryz.prog 58 #[.agg #[a,b,c,d,e,p,k]] w fun en w'=>en=.returned (.func (.func 102) #[] #[.pointer (some ⟨w.heap.size,0,none⟩)])∧w'=w.alloc (.cells #[a,b,c,d,e,p,k] 112):=by
 refine callsIn_of_wp Tryz.func58 rfl trivial ?_ rfl
 simp only [Tryz.ntmps58,List.size_toArray,List.length_cons,List.length_nil,Nat.reduceAdd,Nat.reduceSub,Array.replicate_succ,Array.replicate_zero,List.push_toArray,List.append_toArray,List.nil_append,List.cons_append]
 gi_wp2
 go_ret
 exact ⟨rfl,rfl⟩
theorem wf_u64 {t:T} (h:Wf t):U64 t.f2:=by
 obtain ⟨k,neg,n,s,l⟩:=t
 exact u64_of_wf (wfT.1 h).2.1
def FirstPost (f:Int) (t:T) (w:World) (e:Ending) (w':World):Prop:=∃ pv,e=.returned (.tuple #[pv,.bool (!fitF f t),.int .i64 0])∧Below w.heap.size w w'
set_option maxRecDepth 100000 in
set_option maxHeartbeats 8000000 in
theorem ffirst_in (n:Nat) (hn:8≤n) (f:Int) (hf:f=0 ∨ f=1 ∨ f=2) (t:T) (a:Option Addr) (c:Nat) (w:World) (P:Nat→Prop) (hP:∀ g,P g→g<w.heap.size) (hT:Tree w P t a) (hc:t.f4.length≤c) (hb:bulk t≤8796093022208) (hwf:Wf t) (hck:Qaz t=0) :
 CallsIn Fence.wide n Tryz.prog 31 #[.int .i64 f,.agg #[.int .i64 t.f0,.bool t.f1,.int .u64 t.f2,.string t.f3,.slice a t.f4.length c]] w (FirstPost f t w):=by
 have h1:1≤n:=by omega
 have BF:=Boxed.new w 3 (.int .i64 f)
 obtain ⟨w1,hw1⟩:∃ w1,(w.alloc (.cells #[.int .i64 f] 3)).alloc (.cells #[.int .i64 t.f0,.bool t.f1,.int .u64 t.f2,.string t.f3,.slice a t.f4.length c] 25)=w1:=⟨_,rfl⟩
 have R0:=Row5.new (w.alloc (.cells #[.int .i64 f] 3)) (.int .i64 t.f0) (.bool t.f1) (.int .u64 t.f2) (.string t.f3) (.slice a t.f4.length c)
 have B0:=BF.alloc (.cells #[.int .i64 t.f0,.bool t.f1,.int .u64 t.f2,.string t.f3,.slice a t.f4.length c] 25)
 have hB0:Below w.heap.size w w1:=by rw [← hw1];exact ((Below.refl _ w).alloc (Nat.le_refl _) _).alloc (by simp) _
 rw [hw1] at R0 B0
 rw [World.size_alloc] at R0
 have HC:=Lib.hid (checkT_any t a c w1 P (fun g hg=>Nat.lt_of_lt_of_le (hP g hg) hB0.size) (Qaq (fun _ h=>h) (fun g hg=>hB0.block g (hP g hg)) hT) hc hb)
 rw [hck] at HC
 have HR:=Lib.hid (fun W=>right_any f hf W)
 have HB0:=Lib.hid hB0
 have HB:=Lib.hid B0
 have HR0:=Lib.hid R0
 have b0:=B0.cell
 have k0:=R0.c0
 have k1:=R0.c1
 have k2:=R0.c2
 have k3:=R0.c3
 have k4:=R0.c4
 clear BF hB0 B0 R0
 refine callsIn_of_wp_marks Tryz.func31 rfl trivial ?_ rfl
 simp only [Tryz.ntmps31,List.size_toArray,List.length_cons,List.length_nil,Nat.reduceAdd,Nat.reduceSub,Array.replicate_succ,Array.replicate_zero,List.push_toArray,List.append_toArray,List.nil_append,List.cons_append]
 gi_wp2_with fail
 refine wpIn_wide.2 (wp_scope_straight ((wpIn_wide (n:=n)).1 ?_))
 gi_wp2_with (first
  | (refine ⟨trivial,?_⟩;gi_at_call 57;refine (callsIn_wide.2 (HR.out _)).mono ?_;rintro e w' ⟨rfl,rfl⟩)
  | (refine ⟨trivial,?_⟩;gi_at_call 16;refine (callsIn_wide.2 HC.out).mono ?_;rintro e w2 ⟨he,hb2⟩;subst he;have R2:=HR0.out.below hb2;have d0:=R2.c0;have d1:=R2.c1;have d2:=R2.c2;have d3:=R2.c3;have d4:=R2.c4)
  | (refine ⟨trivial,?_⟩;gi_at_call 58;refine (feach_in (n - 1) _ _ _ _ _ _ _ _).mono ?_;rintro e w' ⟨rfl,rfl⟩))
 refine wpIn_wide.2 (wp_label ?_)
 have R5:=(R2.alloc (.cells #[.slice none 0 0] 63)).alloc (.cells #[.bool false] 4)
 have BP:=(Boxed.new w2 63 (.slice none 0 0)).alloc (.cells #[.bool false] 4)
 have BB:=Boxed.new (w2.alloc (.cells #[.slice none 0 0] 63)) 4 (.bool false)
 have hb5:=((Below.refl w2.heap.size w2).alloc (Nat.le_refl _) (.cells #[.slice none 0 0] 63)).alloc (by simp) (.cells #[.bool false] 4)
 have hs5:((w2.alloc (.cells #[.slice none 0 0] 63)).alloc (.cells #[.bool false] 4)).heap.size=w2.heap.size+2:=by simp
 rw [World.size_alloc] at BB
 have e0:=R5.c0
 have e1:=R5.c1
 have e2:=R5.c2
 have e3:=R5.c3
 have e4:=R5.c4
 have hbw2:=HB0.out.trans (hb2.mono HB0.out.size)
 have BF2:=(hb2.block _ HB.out.lt).trans HB.out
 clear d0 d1 d2 d3 d4 k0 k1 k2 k3 k4 b0
 gi_wp2_with (first
  | (refine ⟨trivial,?_⟩;gi_at_call 58;refine (feach_in (n - 1) _ _ _ _ _ _ _ _).mono ?_;rintro e w' ⟨rfl,rfl⟩))
 have V7:=Row7.new ((w2.alloc (.cells #[.slice none 0 0] 63)).alloc (.cells #[.bool false] 4)) ⟨t,a,c,none,0,0,[],false⟩
 have B7:=BP.alloc (.cells #[.int .i64 t.f0,.bool t.f1,.int .u64 t.f2,.string t.f3,.slice a t.f4.length c,.slice none 0 0,.bool false] 112)
 have C7:=BB.alloc (.cells #[.int .i64 t.f0,.bool t.f1,.int .u64 t.f2,.string t.f3,.slice a t.f4.length c,.slice none 0 0,.bool false] 112)
 have hb7:=hb5.alloc hb5.size (.cells #[.int .i64 t.f0,.bool t.f1,.int .u64 t.f2,.string t.f3,.slice a t.f4.length c,.slice none 0 0,.bool false] 112)
 unfold SpotC.arr at V7
 dsimp only at V7
 have hs7:(((w2.alloc (.cells #[.slice none 0 0] 63)).alloc (.cells #[.bool false] 4)).alloc (.cells #[.int .i64 t.f0,.bool t.f1,.int .u64 t.f2,.string t.f3,.slice a t.f4.length c,.slice none 0 0,.bool false] 112)).heap.size=w2.heap.size+3:=by simp
 obtain ⟨W0,hW0⟩:∃ W0,((w2.alloc (.cells #[.slice none 0 0] 63)).alloc (.cells #[.bool false] 4)).alloc (.cells #[.int .i64 t.f0,.bool t.f1,.int .u64 t.f2,.string t.f3,.slice a t.f4.length c,.slice none 0 0,.bool false] 112)=W0:=⟨_,rfl⟩
 rw [hW0] at V7 B7 C7 hb7 hs7 ⊢
 rw [hs5] at V7
 have hbw:Below w.heap.size w W0:=hbw2.trans (hb7.mono hbw2.size)
 have F7:Boxed W0 w.heap.size 3 (.int .i64 f):=(hb7.block _ (by have:=hb2.size;have:=HB.out.lt;omega)).trans BF2
 have hT0:Tree W0 P t a:=Qaq (fun _ h=>h) (fun g hg=>hbw.block g (hP g hg)) hT
 obtain ⟨hn0,hd0,hm0⟩:=check_is hck
 have hq2:w.heap.size+2≤w2.heap.size:=by have:=hb2.size;have:=HR0.out.lt;omega
 have hFit:=preK_all f t false
 have hFit2:(preK false t).all (spotB f)=fitF f t:=by rw [hFit];unfold keyB;simp
 have HFit:=Lib.hid hFit2
 have HHb:=Lib.hid hb2
 clear hW0 R5 BP BB hb5 hs5 e0 e1 e2 e3 e4 hbw2 BF2 hb2 hFit hFit2 hn0 hd0 R2
 refine range_stp (w0:=W0) h1 (gf:=102) (lb:=#[.pointer (some ⟨w2.heap.size+2,0,none⟩)]) rfl (enters_of Tryz.func102 (by kernel_rfl) rfl)
  (feach1_in (n - 1) (by omega) W0 P (fun g h=>by have:=hP g h;omega) (fun _=>False) (fun _ h=>h.elim) (fun _ _ h=>h) ⟨t,a,c,none,0,0,[],false⟩ rfl hT0 hc (by dsimp only;omega) hm0 hwf ⟨rfl,rfl,rfl,rfl⟩ (w2.heap.size+2) (fun h=>h) V7)
  (fun h h'=>h.trans h') (fun W l o o' ho hc=>KeepC.putObj W l o o' ho hc) (Below.refl _ _) (fun _=>rfl)
  (fun pre W=>(∀ x ∈ pre,spotB f x.kt=true)∧Below W0.heap.size W0 W)
  (fun c pre W=>(c=.exit 0∧∃ x ∈ pre,spotB f x.kt=false)∧(∃ pv,Boxed W w2.heap.size 63 pv)∧Boxed W (w2.heap.size+1) 4 (.bool true)∧Below w.heap.size w W)
  (fun s A C h hb=>⟨h.1,h.2.trans hb⟩)
  (fun c s A C h hb=>⟨h.1,h.2.1.imp fun pv h=>(hb.block _ (by omega)).trans h,(hb.block _ (by omega)).trans h.2.2.1,h.2.2.2.trans (hb.mono (by omega))⟩)
  ⟨by simp,Below.refl _ _⟩
  (fun x a' W=>∃ Bx,W0.heap.size≤Bx∧Row7 W Bx x.x∧a'={ tmps:=#[.int .i64 f,.agg #[.int .i64 t.f0,.bool t.f1,.int .u64 t.f2,.string t.f3,.slice a t.f4.length c],.pointer (some ⟨w.heap.size,0,none⟩),.pointer (some ⟨w.heap.size+1,0,none⟩),.slice none 0 0,.bool false,.int .i64 0,.int .i64 0,.pointer (some ⟨w2.heap.size,0,none⟩),.pointer (some ⟨w2.heap.size+1,0,none⟩),.pointer (some ⟨Bx,0,none⟩),.int .i64 f,.bool true,.bool false,
    .agg #[.int .i64 t.f0,.bool t.f1,.int .u64 t.f2,.string t.f3,.slice a t.f4.length c],.int .i64 0,.int .i64 0,.bool false,undef,.agg #[.int .i64 t.f0,.bool t.f1,.int .u64 t.f2,.string t.f3,.slice a t.f4.length c],.agg #[.int .i64 t.f0,.bool t.f1,.int .u64 t.f2,.string t.f3,.slice a t.f4.length c,.slice none 0 0,.bool false],.func (.func 102) #[] #[.pointer (some ⟨w2.heap.size+2,0,none⟩)],.agg x.x.arr,undef,undef,undef,undef,undef,undef,undef,undef,undef,undef,undef,undef,undef,undef,undef,undef,undef,undef,undef,undef,undef,undef,undef],defers:=[] })
  (fun x a' A C h hk=>by obtain ⟨Bx,q1,q2,q3⟩:=h;exact ⟨Bx,q1,hk _ _ q2 rfl,q3⟩)
  ?assign ?body ?done ?stop
 case assign =>
  intro l pre x W K hI hK
  dsimp only [encS,SpotC.arr] at hK ⊢
  gi_wp2
  exact hK _ _ ((KeepsOthers.alloc _ _).from _) (KeepC.of_below ((Below.refl _ W).alloc (Nat.le_refl _) _)) ⟨hI.1,hI.2.alloc hI.2.size _⟩ ⟨W.heap.size,by have:=hI.2.size;omega,Row7.new W _,by simp⟩
 case body =>
  rintro l pre x a' W ⟨hall,hbel⟩ ⟨Bx,hBx,bT,rfl⟩ hlt
  have tc0:=bT.c0
  have tc1:=bT.c1
  have tc2:=bT.c2
  have tc3:=bT.c3
  have tc4:=bT.c4
  have tc5:=bT.c5
  have tc6:=bT.c6
  have F8:Boxed W w.heap.size 3 (.int .i64 f):=(hbel.block _ (by omega)).trans F7
  have P8:Boxed W w2.heap.size 63 (.slice none 0 0):=(hbel.block _ (by omega)).trans B7
  have C8:Boxed W (w2.heap.size+1) 4 (.bool false):=(hbel.block _ (by omega)).trans C7
  have f8:=F8.cell
  have hu:=wf_u64 x.wf
  obtain ⟨sv,hsv⟩:∃ sv,sayB f x.x.t.f0 x.x.t.f1 x.x.t.f2=sv:=⟨_,rfl⟩
  have hS:=fsays_any f hf x.x.t.f0 x.x.t.f1 x.x.t.f2 hu (.string x.x.t.f3) (.slice x.x.a x.x.t.f4.length x.x.c)
  rw [hsv] at hS
  have HS:=Lib.hid hS
  have HSP:=Lib.hid (show spotB f x.kt=(sv && !(x.x.key && f == 0 && x.x.t.f0 != 10)) by unfold spotB keyB SNode.kt;rw [hsv])
  have hgo : ∀ W', Below W.heap.size W W' → spotB f x.kt = true → (KeepsFrom W0.heap.size W W' ∧ KeepC (fun _ => False) W W' ∧ (∀ y ∈ pre ++ [x], spotB f y.kt = true) ∧ Below W0.heap.size W0 W') := fun W' h hn => ⟨(Qcg h).from _, KeepC.of_below h, (fun y hy => by rcases List.mem_append.1 hy with hy | hy; exact hall y hy; rw [List.mem_singleton] at hy; subst hy; exact hn), hbel.trans (h.mono hbel.size)⟩
  have hst : ∀ W' pv, Below W.heap.size W W' → spotB f x.kt = false → (KeepsFrom W0.heap.size W ((W'.setCell ⟨w2.heap.size, 0, none⟩ pv).setCell ⟨w2.heap.size + 1, 0, none⟩ (.bool true)) ∧ (∃ y ∈ pre ++ [x], spotB f y.kt = false) ∧ (∃ pv', Boxed ((W'.setCell ⟨w2.heap.size, 0, none⟩ pv).setCell ⟨w2.heap.size + 1, 0, none⟩ (.bool true)) w2.heap.size 63 pv') ∧ Boxed ((W'.setCell ⟨w2.heap.size, 0, none⟩ pv).setCell ⟨w2.heap.size + 1, 0, none⟩ (.bool true)) (w2.heap.size + 1) 4 (.bool true) ∧ Below w.heap.size w ((W'.setCell ⟨w2.heap.size, 0, none⟩ pv).setCell ⟨w2.heap.size + 1, 0, none⟩ (.bool true))) := fun W' pv h hn => by
   have P9:Boxed W' w2.heap.size 63 (.slice none 0 0):=(h.block _ P8.lt).trans P8
   have C9:Boxed W' (w2.heap.size+1) 4 (.bool false):=(h.block _ C8.lt).trans C8
   refine ⟨(((Qcg h).trans (KeepsOthers.setCell _ _ _)).trans (KeepsOthers.setCell _ _ _)).from _,⟨x,by simp,hn⟩,⟨pv,Boxed.other (P9.set pv) (by omega) _⟩,Boxed.set _ (Boxed.other C9 (by omega) _),?_⟩
   exact (((hbw.trans (hbel.mono hbw.size)).trans (h.mono (by have:=hbel.size;have:=hbw.size;omega))).setCell (p:=⟨w2.heap.size,0,none⟩) (by show w.heap.size≤w2.heap.size;omega) _).setCell (p:=⟨w2.heap.size+1,0,none⟩) (by show w.heap.size≤w2.heap.size+1;omega) _
  have Hgo:=Lib.hid hgo
  have Hst:=Lib.hid (fun W' pv h hn=>hst W' pv h hn)
  clear hgo hst hall hS hsv hu hf hwf hck hm0 hs7 hq2 hT hT0 hc hb hP hn
  cases sv
  ·
   gi_wp2_with fail
   refine ⟨trivial,(fun h=>by cases h),?_⟩
   refine ((callsIn_wide.2 (HS.out _)).inRound l).mono ?_
   rintro e w3 ⟨he,hb3⟩
   subst he
   have T3:=bT.below hb3
   have tc0:=T3.c0
   have tc1:=T3.c1
   have tc2:=T3.c2
   have tc3:=T3.c3
   have tc4:=T3.c4
   have tc5:=T3.c5
   have tc6:=T3.c6
   have F9:=(hb3.block _ F8.lt).trans F8
   have f9:=Boxed.cell F9
   have P9:=(hb3.block _ P8.lt).trans P8
   have p1:=Boxed.cell P9
   have p2:=Boxed.frozen P9
   have C9:=(hb3.block _ C8.lt).trans C8
   have c1:=Boxed.cell C9
   have c2:=Boxed.frozen C9
   gi_wp2_with fail
   obtain ⟨q1,q2,q3,q4,q5⟩:=Hst.out _ _ hb3 (by rw [HSP.out];rfl)
   exact ⟨q1,⟨rfl,q2⟩,q3,q4,q5⟩
  · cases hkey:x.x.key
    · rw [hkey] at tc6 HSP
      gi_wp2_with fail
      refine ⟨trivial,(fun h=>by cases h),?_⟩
      refine ((callsIn_wide.2 (HS.out _)).inRound l).mono ?_
      rintro e w3 ⟨he,hb3⟩
      subst he
      have T3:=bT.below hb3
      have tc0:=T3.c0
      have tc1:=T3.c1
      have tc2:=T3.c2
      have tc3:=T3.c3
      have tc4:=T3.c4
      have tc5:=T3.c5
      have tc6:=T3.c6
      rw [hkey] at tc6
      have F9:=(hb3.block _ F8.lt).trans F8
      have f9:=Boxed.cell F9
      have P9:=(hb3.block _ P8.lt).trans P8
      have p1:=Boxed.cell P9
      have p2:=Boxed.frozen P9
      have C9:=(hb3.block _ C8.lt).trans C8
      have c1:=Boxed.cell C9
      have c2:=Boxed.frozen C9
      gi_wp2_with fail
      exact Hgo.out _ hb3 (by rw [HSP.out];rfl)
    · rw [hkey] at tc6 HSP
      by_cases hf0:f=0
      · subst hf0
        by_cases h10:x.x.t.f0=10
        · have b10:(x.x.t.f0 != 10)=false:=by simpa using h10
          have HB10:=Lib.hid b10
          have H10:=Lib.hid h10
          clear b10 h10
          gi_wp2_with fail
          refine ⟨trivial,(fun h=>by cases h),?_⟩
          refine ((callsIn_wide.2 (HS.out _)).inRound l).mono ?_
          rintro e w3 ⟨he,hb3⟩
          subst he
          have T3:=bT.below hb3
          have tc0:=T3.c0
          rw [H10.out] at tc0
          have tc1:=T3.c1
          have tc2:=T3.c2
          have tc3:=T3.c3
          have tc4:=T3.c4
          have tc5:=T3.c5
          have tc6:=T3.c6
          rw [hkey] at tc6
          have F9:=(hb3.block _ F8.lt).trans F8
          have f9:=Boxed.cell F9
          have P9:=(hb3.block _ P8.lt).trans P8
          have p1:=Boxed.cell P9
          have p2:=Boxed.frozen P9
          have C9:=(hb3.block _ C8.lt).trans C8
          have c1:=Boxed.cell C9
          have c2:=Boxed.frozen C9
          gi_wp2_with fail
          exact Hgo.out _ hb3 (by rw [HSP.out,HB10.out];rfl)
        · have b10:(x.x.t.f0 != 10)=true:=by simpa using h10
          clear h10
          gi_wp2_with fail
          refine ⟨trivial,(fun h=>by cases h),?_⟩
          refine ((callsIn_wide.2 (HS.out _)).inRound l).mono ?_
          rintro e w3 ⟨he,hb3⟩
          subst he
          have T3:=bT.below hb3
          have tc0:=T3.c0
          have tc1:=T3.c1
          have tc2:=T3.c2
          have tc3:=T3.c3
          have tc4:=T3.c4
          have tc5:=T3.c5
          have tc6:=T3.c6
          rw [hkey] at tc6
          have F9:=(hb3.block _ F8.lt).trans F8
          have f9:=Boxed.cell F9
          have P9:=(hb3.block _ P8.lt).trans P8
          have p1:=Boxed.cell P9
          have p2:=Boxed.frozen P9
          have C9:=(hb3.block _ C8.lt).trans C8
          have c1:=Boxed.cell C9
          have c2:=Boxed.frozen C9
          gi_wp2_with fail
          obtain ⟨q1,q2,q3,q4,q5⟩:=Hst.out _ _ hb3 (by rw [HSP.out,b10];rfl)
          exact ⟨q1,⟨rfl,q2⟩,q3,q4,q5⟩
      · have b0:(f == 0)=false:=by simpa using hf0
        clear hf0
        gi_wp2_with fail
        refine ⟨trivial,(fun h=>by cases h),?_⟩
        refine ((callsIn_wide.2 (HS.out _)).inRound l).mono ?_
        rintro e w3 ⟨he,hb3⟩
        subst he
        have T3:=bT.below hb3
        have tc0:=T3.c0
        have tc1:=T3.c1
        have tc2:=T3.c2
        have tc3:=T3.c3
        have tc4:=T3.c4
        have tc5:=T3.c5
        have tc6:=T3.c6
        rw [hkey] at tc6
        have F9:=(hb3.block _ F8.lt).trans F8
        have f9:=Boxed.cell F9
        have P9:=(hb3.block _ P8.lt).trans P8
        have p1:=Boxed.cell P9
        have p2:=Boxed.frozen P9
        have C9:=(hb3.block _ C8.lt).trans C8
        have c1:=Boxed.cell C9
        have c2:=Boxed.frozen C9
        gi_wp2_with fail
        exact Hgo.out _ hb3 (by rw [HSP.out,b0];rfl)
 case done =>
  rintro D ys W hD hys ⟨hall,hbel⟩ hK
  have P8:Boxed W w2.heap.size 63 (.slice none 0 0):=(hbel.block _ (by omega)).trans B7
  have C8:Boxed W (w2.heap.size+1) 4 (.bool false):=(hbel.block _ (by omega)).trans C7
  have p8:=P8.cell
  have c8:=C8.cell
  have hfin:fitF f t=true:=by
   rw [← HFit.out,← hys]
   refine List.all_eq_true.2 fun y hy=>?_
   obtain ⟨x,hx,rfl⟩:=List.mem_map.1 hy
   exact hall x hx
  have HFIN:=Lib.hid hfin
  have HALL:=Lib.hid (show Below w.heap.size w W from hbw.trans (hbel.mono hbw.size))
  clear hfin hall hys hf hwf hck hm0 hT hT0 hc hb
  gi_wp2_with fail
  refine wpIn_wide.2 ?_
  go_quiet (fail)
  have hK2:(W.drewN nq).heap[D]? = some (.deferred (some [])):=hK
  gi_wp2
  refine ⟨by simp,.inl ⟨_,_,rfl,run_takeDeferred hK2,?_⟩⟩
  refine ⟨.tuple #[.slice none 0 0,.bool false,.int .i64 0],by simp [results,Tryz.f31,go_sem],?_⟩
  refine ⟨_,by rw [HFIN.out];rfl,?_⟩
  exact (Below.drewN' HALL.out nq).trans (belowK_b (w:=w) (Nat.le_refl _) _ D _ _ (by omega) hK2 rfl rfl)
 case stop =>
  rintro D cc pre W hD hpre ⟨⟨rfl,x,hx,hxn⟩,⟨pv,hPV⟩,hFV,hbel⟩ hK
  have p8:=hPV.cell
  have c8:=hFV.cell
  have hfin:fitF f t=false:=by
   rw [← HFit.out]
   obtain ⟨r,hr⟩:=hpre
   cases h:(preK false t).all (spotB f) with
   | false=>rfl
   | true =>
     have h1:=List.all_eq_true.1 h x.kt (by rw [← hr];exact List.mem_append_left _ (List.mem_map_of_mem hx))
     rw [hxn] at h1;cases h1
  have HFIN:=Lib.hid hfin
  have HALL:=Lib.hid hbel
  clear hfin hpre hf hwf hck hm0 hT hT0 hc hb hx hxn
  gi_wp2_with fail
  refine wpIn_wide.2 ?_
  go_quiet (fail)
  have hK2:(W.drewN nq).heap[D]? = some (.deferred (some [])):=hK
  gi_wp2
  refine ⟨by simp,.inl ⟨_,_,rfl,run_takeDeferred hK2,?_⟩⟩
  refine ⟨.tuple #[pv,.bool true,.int .i64 0],by simp [results,Tryz.f31,go_sem],?_⟩
  refine ⟨_,by rw [HFIN.out];rfl,?_⟩
  exact (Below.drewN' HALL.out nq).trans (belowK_b (w:=w) (Nat.le_refl _) _ D _ _ (by omega) hK2 rfl rfl)
theorem ffirst_any (f:Int) (hf:f=0 ∨ f=1 ∨ f=2) (t:T) (a:Option Addr) (c:Nat) (w:World) (P:Nat→Prop) (hP:∀ g,P g→g<w.heap.size) (hT:Tree w P t a) (hc:t.f4.length≤c) (hb:bulk t≤8796093022208) (hwf:Wf t) (hck:Qaz t=0) :
 Calls Tryz.prog 31 #[.int .i64 f,.agg #[.int .i64 t.f0,.bool t.f1,.int .u64 t.f2,.string t.f3,.slice a t.f4.length c]] w (FirstPost f t w) :=
 callsIn_wide.1 (ffirst_in 8 (Nat.le_refl _) f hf t a c w P hP hT hc hb hwf hck)
set_option maxRecDepth 100000 in
set_option maxHeartbeats 4000000 in
theorem ffits_any (f:Int) (hf:f=0 ∨ f=1 ∨ f=2) (t:T) (a:Option Addr) (c:Nat) (w:World) (P:Nat→Prop) (hP:∀ g,P g→g<w.heap.size) (hT:Tree w P t a) (hc:t.f4.length≤c) (hb:bulk t≤8796093022208) (hwf:Wf t) (hck:Qaz t=0) :
 Calls Tryz.prog 12 #[.int .i64 f,.agg #[.int .i64 t.f0,.bool t.f1,.int .u64 t.f2,.string t.f3,.slice a t.f4.length c]] w (Ret (.tuple #[.bool (fitF f t),.int .i64 0]) w):=by
 have R:=Row5.new w (.int .i64 t.f0) (.bool t.f1) (.int .u64 t.f2) (.string t.f3) (.slice a t.f4.length c)
 have hb1:=(Below.refl w.heap.size w).alloc (Nat.le_refl _) (.cells #[.int .i64 t.f0,.bool t.f1,.int .u64 t.f2,.string t.f3,.slice a t.f4.length c] 25)
 have HF:=Lib.hid (ffirst_any f hf t a c _ P (fun g hg=>Nat.lt_of_lt_of_le (hP g hg) hb1.size) (Qaq (fun _ h=>h) (fun g hg=>hb1.block g (hP g hg)) hT) hc hb hwf hck)
 have HB:=Lib.hid hb1
 have c0:=R.c0
 have c1:=R.c1
 have c2:=R.c2
 have c3:=R.c3
 have c4:=R.c4
 have HF2:Hid (Calls Tryz.prog 31 #[.int .i64 f,.agg #[.int .i64 t.f0,.bool t.f1,.int .u64 t.f2,.string t.f3,.slice a t.f4.length c]] (w.alloc (.cells #[.int .i64 t.f0,.bool t.f1,.int .u64 t.f2,.string t.f3,.slice a t.f4.length c] 25)) (fun e w'=>∃ pv,e=.returned (.tuple #[pv,.bool (!fitF f t),.int .i64 0])∧Below (w.alloc (.cells #[.int .i64 t.f0,.bool t.f1,.int .u64 t.f2,.string t.f3,.slice a t.f4.length c] 25)).heap.size (w.alloc (.cells #[.int .i64 t.f0,.bool t.f1,.int .u64 t.f2,.string t.f3,.slice a t.f4.length c] 25)) w')):=HF
 clear HF
 generalize fitF f t=r at HF2 ⊢
 clear R hb1 hf hwf hck hT hc hb hP
 cases r
 ·
  go_enter Tryz.func12,Tryz.ntmps12
  go_wp2_with (go_at_call 31;refine HF2.out.mono ?_;rintro ee w2 ⟨pv,he,hb2⟩;subst he)
  exact bodyPost_ret (v:=.tuple #[.bool false,.int .i64 0]) (by simp [results,Tryz.results12,go_sem]) rfl ⟨rfl,HB.out.trans (hb2.mono HB.out.size)⟩
 ·
  go_enter Tryz.func12,Tryz.ntmps12
  go_wp2_with (go_at_call 31;refine HF2.out.mono ?_;rintro ee w2 ⟨pv,he,hb2⟩;subst he)
  exact bodyPost_ret (v:=.tuple #[.bool true,.int .i64 0]) (by simp [results,Tryz.results12,go_sem]) rfl ⟨rfl,HB.out.trans (hb2.mono HB.out.size)⟩
end Go.Proofs.YtfmceonbejlhlaaGreatDoor
