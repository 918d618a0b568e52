import Derived.RangeFuncNested
import Derived.RangeFuncBound
import Derived.RangeFuncCalls
import Derived.RangeFuncLeaves
import Derived.WalkKit
import Derived.OwnWalkIn
import Derived.TacticsInMore
import Derived.LoopIn
import Derived.Deep.RegionLawGrows
import Derived.Test.YtfmceonbejlhlaaGreatDoorMWs17
namespace Go.Proofs.YtfmceonbejlhlaaGreatDoor
open Go.RowKit Go.Proofs.YtfmceonbejlhlaaGreatDoorW.PrintWords Go.Proofs.YtfmceonbejlhlaaGreatDoorW.PrintLast Go.Proofs.YtfmceonbejlhlaaGreatDoorW.PrintMore
set_option linter.unusedVariables false
mutual
def preF:T→List T | ⟨k,neg,n,s,l⟩=>⟨k,neg,n,s,l⟩ :: preL l
def preL:List T→List T | []=>[] | t :: r=>preF t ++ preL r
end
theorem preF_bulk:∀ t:T,(preF t).length≤bulk t:=by
 intro t
 induction t using T.ind with
 | h k neg n s l ih =>
   have hl:(preL l).length≤bulkL l:=by
    clear k neg n s
    induction l with
    | nil=>simp [preL,bulkL]
    | cons t r ih2 =>
      have h1:=ih t (List.mem_cons_self ..)
      have h2:=ih2 fun u hu=>ih u (List.mem_cons_of_mem _ hu)
      simp only [preL,bulkL,List.length_append];omega
   simp only [preF,bulk,List.length_cons];omega
theorem preL_snoc (t:T):∀ r:List T,preL (r ++ [t])=preL r ++ preF t
 | []=>by simp [preL]
 | a :: r=>by simp only [List.cons_append,preL];rw [preL_snoc t r,List.append_assoc]
theorem preL_take {l:List T} {i:Nat} {t:T} (h:l[i]? = some t):preL (l.take (i+1))=preL (l.take i) ++ preF t:=by
 rw [List.take_add_one,h,Option.toList_some,preL_snoc]
theorem preL_take_len {l:List T} {i:Nat} {t:T} (h:l[i]? = some t):∃ r,preL l=preL (l.take i) ++ (preF t ++ r):=by
 refine ⟨preL (l.drop (i+1)),?_⟩
 have app:∀ a b:List T,preL (a ++ b)=preL a ++ preL b:=by
  intro a b
  induction a with
  | nil=>rfl
  | cons x a ih=>simp only [List.cons_append,preL,ih,List.append_assoc]
 have hl:l=l.take i ++ (t :: l.drop (i+1)):=by
  have hi:=(List.getElem?_eq_some_iff.1 h)
  obtain ⟨hi,he⟩:=hi
  rw [← he,List.getElem_cons_drop,List.take_append_drop]
 rw [show preL l=preL (l.take i ++ (t :: l.drop (i+1))) from congrArg preL hl,app]
 rfl
def KeepC (X:Nat→Prop) (A B:World):Prop:=A.heap.size≤B.heap.size∧∀ (g:Nat) (cs:Array Value) (t:TypeId) (fr:Nat × Nat),¬ X g→A.heap[g]? = some (.cells cs t fr)→B.heap[g]? = some (.cells cs t fr)
theorem KeepC.refl (X:Nat→Prop) (A:World):KeepC X A A:=⟨Nat.le_refl _,fun _ _ _ _ _ h=>h⟩
theorem KeepC.trans {X:Nat→Prop} {A B C:World} (h:KeepC X A B) (k:KeepC X B C):KeepC X A C:=⟨Nat.le_trans h.1 k.1,fun g cs t fr hx hg=>k.2 g cs t fr hx (h.2 g cs t fr hx hg)⟩
theorem KeepC.of_below {X:Nat→Prop} {A B:World} (h:Below A.heap.size A B):KeepC X A B:=⟨h.size,fun g cs t fr _ hg=>(h.block g (Array.getElem?_eq_some_iff.1 hg).1).trans hg⟩
theorem KeepC.putObj {X:Nat→Prop} (W:World) (l:Nat) (o o':Obj) (h:W.heap[l]? = some o) (ho:o.isCells=false):KeepC X W (W.putObj l o'):=⟨by simp,fun g cs t fr _ hg=>by
 rw [World.putObj_heap_other (fun e=>by subst e;rw [h] at hg;cases hg;cases ho)]
 exact hg⟩
theorem KeepC.setCell {X:Nat→Prop} (W:World) {b:Nat} (hb:X b) (j:Nat) (u:Value):KeepC X W (W.setCell ⟨b,j,none⟩ u):=⟨by simp [World.setCell],fun g cs t fr hx hg=>by
 rw [Below.heap_setCell W ⟨b,j,none⟩ u g (fun e=>hx (by rw [e];exact hb))]
 exact hg⟩
theorem KeepC.boxed {X:Nat→Prop} {A B:World} (h:KeepC X A B) {b:Nat} {t:TypeId} {v:Value} (hb:Boxed A b t v) (hx:¬ X b):Boxed B b t v:=h.2 b _ _ _ hx hb
theorem KeepC.row5 {X:Nat→Prop} {A B:World} (h:KeepC X A B) {g:Nat} {a b c d e:Value} (hb:Row5 A g a b c d e) (hx:¬ X g):Row5 B g a b c d e:=h.2 g _ _ _ hx hb
theorem KeepC.cell {X:Nat→Prop} {A B:World} (h:KeepC X A B) {g j:Nat} {v:Value} (hx:¬ X g) (hc:A.cell? ⟨g,j,none⟩=some v):B.cell? ⟨g,j,none⟩=some v:=by
 unfold World.cell? at hc ⊢
 dsimp only at hc ⊢
 cases ho:A.heap[g]? with
 | none=>rw [ho] at hc;simp at hc
 | some o =>
   rw [ho] at hc
   cases o with
   | cells cs t fr=>rw [h.2 g cs t fr hx ho];exact hc
   | _=>simp at hc
theorem abides_below {β:Type} {B:Nat} {J:β→World→Prop} (hJ:AbidesFrom B J) {x:β} {W W':World} (h:J x W) (hb:Below W.heap.size W W'):J x W' :=
 hJ x W W' none h ⟨hb.os,hb.tape,hb.output,hb.size,fun k hk _=>hb.block k hk⟩ (fun r e=>by cases e)
theorem yieldAt_room {m m':Nat} {P:Program} {l:Nat} {args:Array Value} {W:World} {R:Ending→World→Prop} (h:YieldAt Fence.wide m P l args W R):YieldAt Fence.wide m' P l args W R:=by
 obtain ⟨fn,tmps,assign,body,hy,hf,hR⟩:=h
 exact ⟨fn,tmps,assign,body,hy,hf,fun c cs _=>hR c cs (room_wide _)⟩
structure Node (w0:World) (P:Nat→Prop) (M:Nat) where
 path:Value
 t:T
 a:Option Addr
 c:Nat
 tree:Tree w0 P t a
 cap:t.f4.length≤c
 small:bulk t≤M
def encN {w0:World} {P:Nat→Prop} {M:Nat} (x:Node w0 P M):Array Value:=#[x.path,.agg #[.int .i64 x.t.f0,.bool x.t.f1,.int .u64 x.t.f2,.string x.t.f3,.slice x.a x.t.f4.length x.c]]
open Go.RowKit Go.Proofs.YtfmceonbejlhlaaGreatDoorW.PrintWords Go.Proofs.YtfmceonbejlhlaaGreatDoorW.PrintLast Go.Proofs.YtfmceonbejlhlaaGreatDoorW.PrintMore
set_option linter.unusedVariables false
attribute [local go_sem] Oper.semAt_some
theorem info3:(Tryz.prog.info? 3).map (fun i=>(i.zero,i.size,i.bytes))=some (some (.int .i64 0),1,8):=by kernel_rfl
def DownB {w0:World} {P:Nat→Prop} {M:Nat} (X:Nat→Prop) (J Jx:List (Node w0 P M)→World→Prop) (pre:List (Node w0 P M)) (want:List T) (W W':World):Bool→Prop
 | true=>(∃ ys:List (Node w0 P M),ys.map (·.t)=want∧J (pre ++ ys) W')∧KeepC X W W'
 | false=>∃ ys:List (Node w0 P M),(ys.map (·.t) <+: want)∧Jx (pre ++ ys) W'
def DownPost {w0:World} {P:Nat→Prop} {M:Nat} (X:Nat→Prop) (J Jx:List (Node w0 P M)→World→Prop) (pre:List (Node w0 P M)) (want:List T) (W:World) (e:Ending) (W':World):Prop :=
 ∃ b,e=.returned (.bool b)∧DownB X J Jx pre want W W' b
def PathIs (X:Nat→Prop) (W:World) (A:Option Addr) (m c:Nat) (xs:List Value):Prop :=
 (A=none→m=0∧c=0)∧m≤c∧xs.length=m*1∧(∀ u ∈ xs,u.oneCell'=true)∧∀ b,A=some b→∃ g,b=⟨g,0,none⟩∧¬ X g∧∀ j u,xs[j]? = some u→W.cell? ⟨g,j,none⟩=some u
theorem PathIs.keep {X:Nat→Prop} {W W':World} {A:Option Addr} {m c:Nat} {xs:List Value} (h:PathIs X W A m c xs) (hk:KeepC X W W'):PathIs X W' A m c xs:=by
 obtain ⟨h1,h2,h3,h4,h5⟩:=h
 refine ⟨h1,h2,h3,h4,fun b hb=>?_⟩
 obtain ⟨g,e,hx,hc⟩:=h5 b hb
 exact ⟨g,e,hx,fun j u hu=>hk.cell hx (hc j u hu)⟩
theorem path_cell {X:Nat→Prop} {wr:World} {A:Option Addr} {m pc:Nat} {xs:List Value} (h:PathIs X wr A m pc xs) {W:World} (hb:Below wr.heap.size wr W) {b:Addr} (he:A=some b) {j:Nat} {u:Value} (hu:xs[j]? = some u):W.cell? (b.add j)=some u:=by
 obtain ⟨g,rfl,hx,hc⟩:=h.2.2.2.2 b he
 have h1:=hc j u hu
 rw [WideShapes.add_plain,Nat.zero_add]
 exact (hb.cell (p:=⟨g,j,none⟩) (block_lt_of_cell h1)).trans h1
theorem one_snoc {xs:List Value} (h:∀ u ∈ xs,u.oneCell'=true) (j:Nat):∀ u ∈ xs ++ [Value.int .i64 j],u.oneCell'=true:=by
 intro u hu
 rcases List.mem_append.1 hu with hu | hu
 · exact h u hu
 · rw [List.mem_singleton] at hu;subst hu;rfl
theorem news_one (W:World) (i:Int) (j:Nat) (u:Value) (hu:([.int .i64 i]:List Value)[j]? = some u):((W.alloc (.cells #[.int .i64 i] 3)).drew).cell? ((⟨W.heap.size,0,none⟩:Addr).add j)=some u:=by
 rw [WideShapes.add_plain,Nat.zero_add]
 exact (cell_of_row _ _ j _ _ _ (heap_alloc_new W _)).trans (by simpa using hu)
theorem path_own {X:Nat→Prop} {W:World} {base m g cap:Nat} {xs:List Value} (h:W.ownsRow base 3 1 (.slice (some ⟨g,0,none⟩) (m+1) cap) (m+1) xs) (hx:¬ X g) (h1:∀ u ∈ xs,u.oneCell'=true):PathIs X W (some ⟨g,0,none⟩) (m+1) cap xs:=by
 refine ⟨(fun e=>by cases e),?_,h.1,h1,fun b hb=>?_⟩
 · rcases h.2 with ⟨e, _⟩ | ⟨g', cap', cur, e, _, _, h3, _⟩
   · cases e
   · injection e with _ _ e;omega
 · cases hb
   refine ⟨g,rfl,hx,fun j u hu=>?_⟩
   have:=h.cells (g:=g) rfl j u hu
   rwa [WideShapes.add_plain,Nat.zero_add] at this
set_option maxRecDepth 100000 in
set_option maxHeartbeats 4000000 in
theorem down_in (w0:World) (P:Nat→Prop) (M:Nat) (hP:∀ g,P g→g<w0.heap.size) (X:Nat→Prop) (hX:∀ g,X g→g<w0.heap.size) (hPX:∀ g,P g→¬ X g) (hM:M≤8796093022208)
 (l yb db:Nat) (hyb:¬ X yb) (hdb:¬ X db) (B N:Nat) (J Jx:List (Node w0 P M)→World→Prop) (hJ:AbidesFrom B J)
 (hY:∀ pre (x:Node w0 P M) W,J pre W→pre.length<N→YieldAt Fence.wide 1 Tryz.prog l (encN x) W fun e W' =>
   (e=.returned (.bool true)∧J (pre ++ [x]) W'∧KeepC X W W') ∨ (e=.returned (.bool false)∧Jx (pre ++ [x]) W')) :
 ∀ (t:T) (a:Option Addr) (c:Nat) (n:Nat) (pre:List (Node w0 P M)) (A:Option Addr) (m pc:Nat) (xs:List Value) (W:World),1≤n→Tree w0 P t a→t.f4.length≤c→bulk t≤M→KeepC X w0 W→Boxed W yb 114 (.func (.yield l) #[] #[])→Boxed W db 114 (.func (.func 61) #[] #[.pointer (some ⟨yb,0,none⟩),.pointer (some ⟨db,0,none⟩)]) →
   PathIs X W A m pc xs→m+bulk t≤17592186044416→J pre W→pre.length+(preF t).length≤N →
   CallsIn Fence.wide n Tryz.prog 61 #[.slice A m pc,.agg #[.int .i64 t.f0,.bool t.f1,.int .u64 t.f2,.string t.f3,.slice a t.f4.length c],.pointer (some ⟨yb,0,none⟩),.pointer (some ⟨db,0,none⟩)] W (DownPost X J Jx pre (preF t) W):=by
 intro t
 induction t using T.ind with
 | h k neg nn s ll ih =>
   intro a c n pre A m pc xs W hn hT hcc hbk hKW hBy hBd hPath hmb hJW hN
   have hT0:=hT
   obtain ⟨hlen,hT⟩:=Qb1 hT
   dsimp only at hT hlen hcc ⊢
   have hbk':=hbk
   simp only [bulk] at hbk hmb
   have hlb:=bulkL_len ll
   have hNl:(preF ⟨k,neg,nn,s,ll⟩).length=(preL ll).length+1:=by simp [preF]
   have hcY:=hBy.cell
   have hcD:=hBd.cell
   have R:=Row5.new W (.int .i64 k) (.bool neg) (.int .u64 nn) (.string s) (.slice a ll.length c)
   have hBel:Below W.heap.size W (W.alloc (.cells #[.int .i64 k,.bool neg,.int .u64 nn,.string s,.slice a ll.length c] 25)):=(Below.refl _ _).alloc (Nat.le_refl _) _
   have hy:=yieldAt_room (m':=n - 1) (hY pre ⟨.slice A m pc,⟨k,neg,nn,s,ll⟩,a,c,hT0,hcc,hbk'⟩ _ (abides_below hJ hJW hBel) (by omega))
   dsimp only [encN] at hy
   obtain ⟨W1,hW1⟩:∃ W1,W.alloc (.cells #[.int .i64 k,.bool neg,.int .u64 nn,.string s,.slice a ll.length c] 25)=W1:=⟨_,rfl⟩
   rw [hW1] at R hBel hy
   have hc0:=R.c0
   have hc1:=R.c1
   have hc2:=R.c2
   have hc3:=R.c3
   have hc4:=R.c4
   obtain ⟨fn,tmps,assign,body,hyr,hR⟩:=hy
   have hBy1:=(KeepC.of_below (X:=X) hBel).boxed hBy hyb
   have hcy1:=hBy1.cell
   have HN:=Lib.hid hN
   have HNl:=Lib.hid hNl
   have HP:=Lib.hid hPath
   have HT:=Lib.hid hT
   clear hN hNl hPath hT hcY
   refine callsIn_of_wp Tryz.func61 rfl trivial ?_ rfl
   simp only [Tryz.ntmps61,List.size_toArray,List.length_cons,List.length_nil,Nat.reduceAdd,Nat.reduceSub,Array.replicate_succ,Array.replicate_zero,List.push_toArray,List.append_toArray,List.nil_append,List.cons_append]
   gi_wp2
   refine hR.mono ?_
   rintro e W2 (⟨rfl,hJ2,hk2⟩ | ⟨rfl,hJx2⟩)
   rotate_left
   · gi_wp2
     go_ret
     exact ⟨false,rfl,[⟨.slice A m pc,⟨k,neg,nn,s,ll⟩,a,c,hT0,hcc,hbk'⟩],⟨preL ll,by simp [preF]⟩,hJx2⟩
   · have hx0:¬ X W.heap.size:=fun h=>by have:=hX _ h;have:=hKW.1;omega
     have R2:=hk2.row5 R hx0
     have hKW2:KeepC X W W2:=(KeepC.of_below hBel).trans hk2
     have d4:=R2.c4
     clear hR hyr hc0 hc1 hc2 hc3 hc4 R hcy1 hBy1 hBel hk2 hcD
     gi_wp2
     gi_loopw [17] (fun i wr=>∃ (k':Nat) (ys:List (Node w0 P M)),k'≤ll.length∧i=.int .i64 k'∧Hid (ys.map (·.t)=⟨k,neg,nn,s,ll⟩ :: preL (ll.take k'))∧J (pre ++ ys) wr∧KeepC X W wr) (fun i _=>ll.length - (intOf i).toNat)
     case atStart=>exact ⟨0,[⟨.slice A m pc,⟨k,neg,nn,s,ll⟩,a,c,hT0,hcc,hbk'⟩],by omega,rfl,Lib.hid (by simp [preL]),hJ2,hKW2⟩
     case round =>
      obtain ⟨j,ys,hj,rfl,hys,hJj,hKj⟩:=hrel
      by_cases hlt:j<ll.length
      · rcases HT.out with rfl | ⟨g,off,rfl,hg,hTL⟩
        · simp at hlt
        obtain ⟨x,xa,xc,hx,e0,e1,e2,e3,e4,hxc,hxT⟩:=Qbm hTL hlt
        have hK0:=hKW.trans hKj
        have hgx:=hPX g hg
        have K0:=hK0.cell hgx e0
        have K1:=hK0.cell hgx e1
        have K2:=hK0.cell hgx e2
        have K3:=hK0.cell hgx e3
        have K4:=hK0.cell hgx e4
        clear e0 e1 e2 e3 e4
        have hBdj:=hKj.boxed hBd hdb
        have hPj:=HP.out.keep hKj
        obtain ⟨wr1,hwr1⟩:∃ wr1,wr.alloc (.cells #[.int .i64 x.f0,.bool x.f1,.int .u64 x.f2,.string x.f3,.slice xa x.f4.length xc] 25)=wr1:=⟨_,rfl⟩
        have Rx:=Row5.new wr (.int .i64 x.f0) (.bool x.f1) (.int .u64 x.f2) (.string x.f3) (.slice xa x.f4.length xc)
        have hb1:Below wr.heap.size wr wr1:=hwr1 ▸ (Below.refl _ _).alloc (Nat.le_refl _) _
        rw [hwr1] at Rx
        have hBd1:=(KeepC.of_below (X:=X) hb1).boxed hBdj hdb
        have cD:=hBd1.cell
        have c0:=Rx.c0
        have c1:=Rx.c1
        have c2:=Rx.c2
        have c3:=Rx.c3
        have c4:=Rx.c4
        have cD':=fun ob=>(hBd1.alloc ob).cell
        have c0':=fun ob=>(Rx.alloc ob).c0
        have c1':=fun ob=>(Rx.alloc ob).c1
        have c2':=fun ob=>(Rx.alloc ob).c2
        have c3':=fun ob=>(Rx.alloc ob).c3
        have c4':=fun ob=>(Rx.alloc ob).c4
        have hxm:=List.mem_of_getElem? hx
        have hxb:=bulkL_mem hxm
        have hC : ∀ (w2 : World) (g' cap' : Nat), Below wr.heap.size wr w2 → PathIs X w2 (some ⟨g', 0, none⟩) (m + 1) cap' (xs ++ [.int .i64 j]) →
         Calls Tryz.prog 61 #[.slice (some ⟨g', 0, none⟩) (m + 1) cap', .agg #[.int .i64 x.f0, .bool x.f1, .int .u64 x.f2, .string x.f3, .slice xa x.f4.length xc], .pointer (some ⟨yb, 0, none⟩), .pointer (some ⟨db, 0, none⟩)] w2 (DownPost X J Jx (pre ++ ys) (preF x) w2) := fun w2 g' cap' hb hp => by
         have hk2:=hKj.trans (KeepC.of_below (X:=X) hb)
         refine callsIn_wide.1 (ih x hxm xa xc 1 (pre ++ ys) _ _ _ _ w2 (Nat.le_refl _) hxT hxc (by omega) (hKW.trans hk2) (hk2.boxed hBy hyb) (hk2.boxed hBd hdb) hp (by omega) (abides_below hJ hJj hb) ?_)
         have h1:=congrArg List.length hys.out
         obtain ⟨r,hr⟩:=preL_take_len hx
         have h2:=congrArg List.length hr
         have h3:=HN.out
         have h4:=HNl.out
         simp only [List.length_append,List.length_map,List.length_cons] at h1 h2 h3 h4 ⊢
         omega
        have HC:=Lib.hid hC
        have hmp:m≤pc:=hPj.2.1
        have HPj:=Lib.hid hPj
        have HK0:=Lib.hid hK0
        have hxq:¬ X wr.heap.size:=fun h=>by have:=hX _ h;have:=hK0.1;omega
        have HB1:=Lib.hid hb1
        have HX:=Lib.hid hx
        have HPre:Hid (∀ zs:List T,zs <+: preF x→(⟨k,neg,nn,s,ll⟩ :: preL (ll.take j)) ++ zs <+: preF ⟨k,neg,nn,s,ll⟩):=Lib.hid (fun zs hz=>by
         obtain ⟨r,hr⟩:=preL_take_len hx
         obtain ⟨q,hq⟩:=hz
         exact ⟨q ++ r,by rw [preF,hr,← hq];simp⟩)
        have hgn:¬ X wr1.heap.size:=fun h=>by have:=hX _ h;have:=hK0.1;have:=hb1.size;omega
        obtain ⟨i0,hi,hz0,hz1,hz2⟩:=info_parts info3
        have hWs:∀ v,Below wr.heap.size wr (wr1.alloc v).drew:=fun v=>(hb1.alloc hb1.size v).drew
        have HWs:=Lib.hid hWs
        clear hC hPj ih hxm hb1 HN HNl hWs
        gi_wp2_with fail
        refine wpIn_wide.2 ?_
        go_region_law (first
         | (refine step_append_grows rfl (.tmp 28) (.tmp 30) 63 rfl 3 i0 (.int .i64 0) 1 8 Tryz.underlying63 hi hz0 hz1 hz2 rfl (by decide) A m m xs (by simp [Act.eval]) (fun e=>⟨(HPj.out.1 e).1,(HPj.out.1 e).1⟩) HPj.out.2.2.1 (fun b hb j' u hu=>path_cell HPj.out (HWs.out _) hb hu) ⟨wr1.heap.size,0,none⟩ 1 1 [.int .i64 j] (by simp [Act.eval]) rfl (fun j' u hu=>news_one wr1 j j' u hu) (by intro u hu;rw [List.mem_singleton] at hu;subst hu;rfl) (by omega) (by unfold maxLen;omega) (by omega) ?_
            intro v' w2 hown hgr
            obtain ⟨g', cap', rfl⟩ := ownsRow_succ hown
            have hB2:Below wr1.heap.size wr1 w2:=(((Below.refl _ wr1).alloc (Nat.le_refl _) _).drew).grown hgr (by simp) (fun k e=>by cases e)
            have hk2:=KeepC.of_below (X:=X) hB2
            have hP2:=path_own (X:=X) hown (fun h=>by have h1:=hX _ h;have h2:=Qb5 hown g' rfl;have h3:=HB1.out.size;have h4:=HK0.out.1;simp at h2;omega) (one_snoc HPj.out.2.2.2.1 j)
            have cD2:=(hk2.boxed hBd1 hdb).cell
            have Rx2:=hk2.row5 Rx hxq
            have b0:=Rx2.c0
            have b1:=Rx2.c1
            have b2:=Rx2.c2
            have b3:=Rx2.c3
            have b4:=Rx2.c4
            have HP2:=Lib.hid hP2
            have HB2:=Lib.hid (HB1.out.trans (hB2.mono HB1.out.size))
            clear hown hgr hB2 hk2 hP2 Rx2)
         | (go_simp;go_at_call 61;refine (HC.out _ _ _ HB2.out HP2.out).mono ?_;rintro e w3 ⟨bb,rfl,hbb⟩))
        all_goals
         clear b0 b1 b2 b3 b4 cD2 K0 K1 K2 K3 K4 c0 c1 c2 c3 c4 c0' c1' c2' c3' c4' cD cD' HC HWs HP2 hi hz0 hz1 hz2 HPj
         cases bb
         · obtain ⟨ys2,hpre,hJx⟩:=hbb
           gi_wp2
           go_ret
           exact ⟨false,rfl,ys ++ ys2,by rw [List.map_append,hys.out];exact HPre.out _ hpre,by rw [← List.append_assoc];exact hJx⟩
         · obtain ⟨⟨ys2,hy2,hJ3⟩,hk3⟩:=hbb
           gi_wp2
           go_roundw
           case rel=>exact ⟨j+1,ys ++ ys2,by omega,by go_num,Lib.hid (by rw [List.map_append,hys.out,hy2,preL_take HX.out];rfl),by rw [← List.append_assoc];exact hJ3,hKj.trans ((KeepC.of_below HB2.out).trans hk3)⟩
           case measure=>simp [intOf];omega
      · obtain rfl:j=ll.length:=by omega
        rw [List.take_length] at hys
        gi_wp2
        go_ret
        exact ⟨true,rfl,⟨ys,by rw [hys.out];rfl,hJj⟩,hKj⟩
attribute [local go_sem] Oper.semAt_some
theorem run_store_func {P:Program} {w:World} {a:Addr} {m:Mode} (f:Fn) (xs ys:Array Value):(store a (.func f xs ys) m).run P w=stored P w a (.func f xs ys) m:=run_store P w a _ m rfl
attribute [local go_sem] run_store_func
set_option maxRecDepth 100000 in
set_option maxHeartbeats 4000000 in
theorem each1_in (n:Nat) (hn:2≤n) (w0:World) (P:Nat→Prop) (M:Nat) (hP:∀ g,P g→g<w0.heap.size) (X:Nat→Prop) (hX:∀ g,X g→g<w0.heap.size) (hPX:∀ g,P g→¬ X g) (hM:M≤8796093022208)
 (t:T) (a:Option Addr) (c:Nat) (hT:Tree w0 P t a) (hc:t.f4.length≤c) (hb:bulk t≤M) (vb:Nat) (hvx:¬ X vb) (hv:Row5 w0 vb (.int .i64 t.f0) (.bool t.f1) (.int .u64 t.f2) (.string t.f3) (.slice a t.f4.length c)) :
 SeqStopsK Fence.wide n Tryz.prog 60 #[.pointer (some ⟨vb,0,none⟩)] (encN (w0:=w0) (P:=P) (M:=M)) (KeepC X) (fun xs=>xs.map (·.t)=preF t) (fun pre=>pre.map (·.t) <+: preF t) (preF t).length w0:=by
 intro l J Jx W hbW hJ hJx hY hJ0
 have hy2:=fun pre (x:Node w0 P M) W h h'=>yieldAt_room (m':=1) (hY pre x W h h')
 have hdn:=down_in w0 P M hP X hX hPX hM l W.heap.size (W.heap.size+1) (fun h=>by have:=hX _ h;have:=hbW.size;omega) (fun h=>by have:=hX _ h;have:=hbW.size;omega) W.heap.size (preF t).length J Jx hJ hy2 t a c
 have hdn2:∀ W2,Below W.heap.size W W2→Boxed W2 W.heap.size 114 (.func (.yield l) #[] #[])→Boxed W2 (W.heap.size+1) 114 (.func (.func 61) #[] #[.pointer (some ⟨W.heap.size,0,none⟩),.pointer (some ⟨W.heap.size+1,0,none⟩)])→CallsIn Fence.wide (n - 1) Tryz.prog 61 #[.slice none 0 0,.agg #[.int .i64 t.f0,.bool t.f1,.int .u64 t.f2,.string t.f3,.slice a t.f4.length c],.pointer (some ⟨W.heap.size,0,none⟩),.pointer (some ⟨W.heap.size+1,0,none⟩)] W2 (DownPost X J Jx [] (preF t) W2):=fun W2 hb2 h1 h2 =>
  hdn (n - 1) [] none 0 0 [] W2 (by omega) hT hc hb (KeepC.of_below (hbW.trans (hb2.mono hbW.size))) h1 h2 ⟨fun _=>⟨rfl,rfl⟩,Nat.le_refl _,rfl,by simp,fun b e=>by cases e⟩ (by omega) (abides_below hJ hJ0 hb2) (by simp)
 have hv1:Row5 W vb _ _ _ _ _:=(hbW.block vb hv.lt).trans hv
 have R0:=hv1.alloc (.cells #[.func (.yield l) #[] #[]] 114)
 have R1:=R0.alloc (.cells #[.func (.func 61) #[] #[.pointer (some ⟨W.heap.size,0,none⟩),.pointer (some ⟨W.heap.size+1,0,none⟩)]] 114)
 have b0:=(Boxed.new W 114 (.func (.yield l) #[] #[])).alloc (.cells #[.func (.func 61) #[] #[.pointer (some ⟨W.heap.size,0,none⟩),.pointer (some ⟨W.heap.size+1,0,none⟩)]] 114)
 have b1:=Boxed.new (W.alloc (.cells #[.func (.yield l) #[] #[]] 114)) 114 (.func (.func 61) #[] #[.pointer (some ⟨W.heap.size,0,none⟩),.pointer (some ⟨W.heap.size+1,0,none⟩)])
 have hB:=((Below.refl _ W).alloc (Nat.le_refl _) (.cells #[.func (.yield l) #[] #[]] 114)).alloc (by simp) (.cells #[.func (.func 61) #[] #[.pointer (some ⟨W.heap.size,0,none⟩),.pointer (some ⟨W.heap.size+1,0,none⟩)]] 114)
 have k0:=R1.c0
 have k1:=R1.c1
 have k2:=R1.c2
 have k3:=R1.c3
 have k4:=R1.c4
 rw [World.size_alloc] at b1
 have cb1:=b1.cell
 have f1:=(Boxed.new (W.alloc (.cells #[.func (.yield l) #[] #[]] 114)) 114 .nilFunc).frozen
 have cn1:=(Boxed.new (W.alloc (.cells #[.func (.yield l) #[] #[]] 114)) 114 .nilFunc).cell
 rw [World.size_alloc] at f1 cn1
 have hC:=Lib.hid (hdn2 _ hB b0 b1)
 clear hdn hdn2
 refine callsIn_of_wp Tryz.func60 rfl trivial ?_ rfl
 simp only [Tryz.ntmps60,List.size_toArray,List.length_cons,List.length_nil,Nat.reduceAdd,Nat.reduceSub,Array.replicate_succ,Array.replicate_zero,List.push_toArray,List.append_toArray,List.nil_append,List.cons_append]
 gi_wp2_with fail
 refine ⟨trivial,(fun h=>by cases h),hC.out.mono ?_⟩
 rintro e w2 ⟨b,rfl,hb⟩
 gi_wp2
 refine bodyPost_end (results_none rfl _ _ _) rfl ?_
 cases b
 · obtain ⟨ys,hpre,hJ2⟩:=hb
   exact ⟨⟨_,rfl⟩,.inr ⟨ys,hpre,hJ2⟩⟩
 · obtain ⟨⟨ys,hy,hJ2⟩,_⟩:=hb
   exact ⟨⟨_,rfl⟩,.inl ⟨ys,hy,hJ2⟩⟩
theorem each_in (n:Nat) (w:World) (a b c d e:Value) :
 CallsIn Fence.wide n Tryz.prog 32 #[.agg #[a,b,c,d,e]] w fun en w'=>en=.returned (.func (.func 60) #[] #[.pointer (some ⟨w.heap.size,0,none⟩)])∧w'=w.alloc (.cells #[a,b,c,d,e] 25):=by
 refine callsIn_of_wp Tryz.func32 rfl trivial ?_ rfl
 simp only [Tryz.ntmps32,List.size_toArray,List.length_cons,List.length_nil,Nat.reduceAdd,Nat.reduceSub,Array.replicate_succ,Array.replicate_zero,List.push_toArray,List.append_toArray,List.nil_append,List.cons_append]
 gi_wp2
 go_ret
 exact ⟨rfl,rfl⟩
end Go.Proofs.YtfmceonbejlhlaaGreatDoor
