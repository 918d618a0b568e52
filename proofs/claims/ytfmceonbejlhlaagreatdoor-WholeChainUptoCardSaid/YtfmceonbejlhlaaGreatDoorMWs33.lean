import Derived.Deep.RegionHeld3
import Derived.Deep.AppendLies
import Derived.Sort.LoopGhostIn
import Derived.Test.YtfmceonbejlhlaaGreatDoorMWs32
namespace Go.Proofs.YtfmceonbejlhlaaGreatDoor
open Go.RowKit Go.Proofs.YtfmceonbejlhlaaGreatDoorW.PrintWords Go.Proofs.YtfmceonbejlhlaaGreatDoorW.PrintLast Go.Proofs.YtfmceonbejlhlaaGreatDoorW.PrintMore
set_option linter.unusedVariables false
attribute [local go_sem] Oper.semAt_some
theorem info112:(Tryz.prog.info? 112).map (fun i=>(i.zero,i.size,i.bytes))=some (some (.agg #[.int .i64 0,.bool false,.int .u64 0,.string ⟨#[]⟩,.slice none 0 0,.slice none 0 0,.bool false]),7,96):=by kernel_rfl
def TyAt (W:World) (g:Nat) (t:TypeId):Prop:=∃ cs fr,W.heap[g]? = some (.cells cs t fr)
def PathT (X:Nat→Prop) (W:World) (A:Option Addr) (m c:Nat) (xs:List Value):Prop :=
 (A=none→m=0∧c=0)∧m≤c∧xs.length=m*1∧(∀ u ∈ xs,u.oneCell'=true)∧∀ b,A=some b→∃ g,b=⟨g,0,none⟩∧¬ X g∧TyAt W g 3∧∀ j u,xs[j]? = some u→W.cell? ⟨g,j,none⟩=some u
def KT (ty:TypeId) (X:Nat→Prop) (A B:World):Prop:=A.heap.size≤B.heap.size∧∀ (g:Nat) (cs:Array Value) (t:TypeId) (fr:Nat × Nat),¬ X g→t ≠ ty→A.heap[g]? = some (.cells cs t fr)→B.heap[g]? = some (.cells cs t fr)
theorem KT.refl (ty:TypeId) (X:Nat→Prop) (A:World):KT ty X A A:=⟨Nat.le_refl _,fun _ _ _ _ _ _ h=>h⟩
theorem KT.trans {ty:TypeId} {X:Nat→Prop} {A B C:World} (h:KT ty X A B) (k:KT ty X B C):KT ty X A C:=⟨Nat.le_trans h.1 k.1,fun g cs t fr hx ht hg=>k.2 g cs t fr hx ht (h.2 g cs t fr hx ht hg)⟩
theorem KT.of_keep {ty:TypeId} {X:Nat→Prop} {A B:World} (h:KeepC X A B):KT ty X A B:=⟨h.1,fun g cs t fr hx _ hg=>h.2 g cs t fr hx hg⟩
theorem KT.of_below {ty:TypeId} {X:Nat→Prop} {A B:World} (h:Below A.heap.size A B):KT ty X A B:=.of_keep (KeepC.of_below h)
theorem KT.grown {ty:TypeId} {X:Nat→Prop} {W W':World} {base size n:Nat} {v:Value} {xs:List Value} (hg:W.grownBy W' v.ownBlock) (hrow:W.ownsRow base ty size v n xs):KT ty X W W':=⟨hg.size,fun g cs t fr _ hx h=>by
 refine (hg.block g (Array.getElem?_eq_some_iff.1 h).1 fun e'=>?_).trans h
 obtain ⟨cells,hc⟩:=Qba hrow g e'.symm
 rw [h] at hc
 injection hc with hc
 injection hc with _ hc
 exact hx hc⟩
theorem PathT.keep {ty:TypeId} {X:Nat→Prop} {W W':World} {A:Option Addr} {m c:Nat} {xs:List Value} (hty:ty ≠ 3) (h:PathT X W A m c xs) (hk:KT ty X W W'):PathT X W' A m c xs:=by
 obtain ⟨h1,h2,h3,h4,h5⟩:=h
 refine ⟨h1,h2,h3,h4,fun b hb=>?_⟩
 obtain ⟨g,e,hx,⟨cs,fr,ht⟩,hc⟩:=h5 b hb
 have ht':=hk.2 g cs 3 fr hx (Ne.symm hty) ht
 exact ⟨g,e,hx,⟨cs,fr,ht'⟩,fun j u hu=>(cell_same (ht'.trans ht.symm) j).trans (hc j u hu)⟩
theorem PathT.cell {X:Nat→Prop} {wr:World} {A:Option Addr} {m pc:Nat} {xs:List Value} (h:PathT X wr A m pc xs) {W:World} (hb:Below wr.heap.size wr W) {b:Addr} (he:A=some b) {j:Nat} {u:Value} (hu:xs[j]? = some u):W.cell? (b.add j)=some u:=by
 obtain ⟨g,rfl,hx,_,hc⟩:=h.2.2.2.2 b he
 have h1:=hc j u hu
 rw [WideShapes.add_plain,Nat.zero_add]
 exact (hb.cell (p:=⟨g,j,none⟩) (block_lt_of_cell h1)).trans h1
theorem PathT.nil (X:Nat→Prop) (W:World):PathT X W none 0 0 []:=⟨fun _=>⟨rfl,rfl⟩,Nat.le_refl _,rfl,by simp,fun b e=>by cases e⟩
theorem PathT.own {X:Nat→Prop} {W:World} {base m g cap:Nat} {xs:List Value} (h:W.ownsRow base 3 1 (.slice (some ⟨g,0,none⟩) (m+1) cap) (m+1) xs) (hx:¬ X g) (h1:∀ u ∈ xs,u.oneCell'=true):PathT X W (some ⟨g,0,none⟩) (m+1) cap xs:=by
 refine ⟨(fun e=>by cases e),?_,h.1,h1,fun b hb=>?_⟩
 · rcases h.2 with ⟨e, _⟩ | ⟨g', cap', cur, e, _, _, h3, _⟩
   · cases e
   · injection e with _ _ e;omega
 · cases hb
   obtain ⟨cs,hc⟩:=Qba h g rfl
   refine ⟨g,rfl,hx,⟨cs,_,hc⟩,fun j u hu=>?_⟩
   have:=h.cells (g:=g) rfl j u hu
   rwa [WideShapes.add_plain,Nat.zero_add] at this
structure SpotC where
 t:T
 a:Option Addr
 c:Nat
 pa:Option Addr
 pm:Nat
 pc:Nat
 px:List Value
 key:Bool
def SpotC.cells (x:SpotC):List Value:=[.int .i64 x.t.f0,.bool x.t.f1,.int .u64 x.t.f2,.string x.t.f3,.slice x.a x.t.f4.length x.c,.slice x.pa x.pm x.pc,.bool x.key]
def SpotC.arr (x:SpotC):Array Value:=#[.int .i64 x.t.f0,.bool x.t.f1,.int .u64 x.t.f2,.string x.t.f3,.slice x.a x.t.f4.length x.c,.slice x.pa x.pm x.pc,.bool x.key]
def SpotC.Ok (w0:World) (P X:Nat→Prop) (W:World) (x:SpotC):Prop:=Tree w0 P x.t x.a∧(x.t.f4.length≤x.c∧Wf x.t)∧PathT X W x.pa x.pm x.pc x.px∧x.pm+bulk x.t≤17592186044416
theorem SpotC.Ok.keep {w0:World} {P X:Nat→Prop} {W W':World} {x:SpotC} (h:x.Ok w0 P X W) (hk:KT 112 X W W'):x.Ok w0 P X W':=⟨h.1,h.2.1,h.2.2.1.keep (by decide) hk,h.2.2.2⟩
theorem wf_kid {t x:T} (h:Wf t) {i:Nat} (hx:t.f4[i]? = some x):Wf x:=by
 obtain ⟨k,neg,n,s,l⟩:=t
 exact wfL_mem (wfT.1 h).2.2 (List.mem_of_getElem? hx)
structure SNode (w0:World) (P:Nat→Prop) where
 x:SpotC
 tree:Tree w0 P x.t x.a
 cap:x.t.f4.length≤x.c
 small:bulk x.t≤17592186044416
 wf:Wf x.t
def encS {w0:World} {P:Nat→Prop} (x:SNode w0 P):Array Value:=#[.agg x.x.arr]
def SNode.kt {w0:World} {P:Nat→Prop} (x:SNode w0 P):Bool × T:=(x.x.key,x.x.t)
def Qbo (l:List SpotC):List Value:=l.flatMap SpotC.cells
theorem stackCells_len (l:List SpotC):(Qbo l).length=l.length*7:=by
 induction l with
 | nil=>rfl
 | cons x r ih=>simp only [Qbo,List.flatMap_cons,List.length_append,List.length_cons] at ih ⊢;rw [ih];simp [SpotC.cells];omega
theorem stackCells_snoc (l:List SpotC) (x:SpotC):Qbo (l ++ [x])=Qbo l ++ x.cells:=by simp [Qbo,List.flatMap_append]
theorem spot_one (x:SpotC):∀ u ∈ x.cells,u.oneCell'=true:=by
 intro u hu
 simp only [SpotC.cells,List.mem_cons,List.not_mem_nil,or_false] at hu
 rcases hu with rfl | rfl | rfl | rfl | rfl | rfl | rfl <;> rfl
def restK (l:List SpotC):List (Bool × T):=l.reverse.flatMap fun x=>preK x.key x.t
theorem restK_snoc (l:List SpotC) (x:SpotC):restK (l ++ [x])=preK x.key x.t ++ restK l:=by simp [restK]
theorem restK_nil:restK []=[]:=rfl
theorem preK_cons (key:Bool) (t:T):preK key t=(key,t) :: preKL t.f0 0 t.f4:=by obtain ⟨_,_,_,_,_⟩:=t;rw [preK]
theorem preKL_drop (k:Int):∀ (l:List T) (i j:Nat) (x:T),l[j]? = some x→preKL k (i+j) (l.drop j)=preK (keyAt k (i+j)) x ++ preKL k (i+(j+1)) (l.drop (j+1))
 | y :: r,i,0,x,h=>by
   simp only [List.getElem?_cons_zero,Option.some.injEq] at h
   subst h
   simp [preKL]
 | y :: r,i,j+1,x,h=>by
   have:=preKL_drop k r (i+1) j x (by simpa using h)
   rw [show i+(j+1)=i+1+j by omega,List.drop_succ_cons,this,List.drop_succ_cons,show i+1+(j+1)=i+(j+1+1) by omega]
theorem own_pop {W:World} {base g n cap:Nat} {e:TypeId} {size:Nat} {xs ys:List Value} (h:W.ownsRow base e size (.slice (some ⟨g,0,none⟩) (n+1) cap) (n+1) (xs ++ ys)) (hy:ys.length=size):W.ownsRow base e size (.slice (some ⟨g,0,none⟩) n cap) n xs:=by
 obtain ⟨hlen,h⟩:=h
 rcases h with ⟨e1, _⟩ | ⟨g', cap', cur, e1, hb, hh, h1, h2, h3, h4⟩
 · cases e1
 · cases e1
   have hxl:xs.length=n*size:=by
    rw [List.length_append,Nat.add_mul,Nat.one_mul] at hlen
    omega
   refine ⟨hxl,.inr ⟨g,cap,cur,rfl,hb,hh,by omega,h2,h3,?_⟩⟩
   have:=congrArg (List.take (n*size)) h4
   rw [List.take_take,Nat.min_eq_left (Nat.mul_le_mul_right _ (by omega))] at this
   rw [this,List.take_append_of_le_length (by omega),List.take_of_length_le (by omega)]
def Row7 (W:World) (g:Nat) (x:SpotC):Prop:=W.heap[g]? = some (.cells x.arr 112 (0,0))
section
variable {W:World} {g:Nat} {x:SpotC} (h:Row7 W g x)
include h
theorem Row7.c0:W.cell? ⟨g,0,none⟩=some (.int .i64 x.t.f0):=cell_of_row W g 0 _ _ _ h
theorem Row7.c1:W.cell? ⟨g,1,none⟩=some (.bool x.t.f1):=cell_of_row W g 1 _ _ _ h
theorem Row7.c2:W.cell? ⟨g,2,none⟩=some (.int .u64 x.t.f2):=cell_of_row W g 2 _ _ _ h
theorem Row7.c3:W.cell? ⟨g,3,none⟩=some (.string x.t.f3):=cell_of_row W g 3 _ _ _ h
theorem Row7.c4:W.cell? ⟨g,4,none⟩=some (.slice x.a x.t.f4.length x.c):=cell_of_row W g 4 _ _ _ h
theorem Row7.c5:W.cell? ⟨g,5,none⟩=some (.slice x.pa x.pm x.pc):=cell_of_row W g 5 _ _ _ h
theorem Row7.c6:W.cell? ⟨g,6,none⟩=some (.bool x.key):=cell_of_row W g 6 _ _ _ h
theorem Row7.lt:g<W.heap.size:=block_lt_of_cell h.c0
theorem Row7.below {W1:World} (hb:Below W.heap.size W W1):Row7 W1 g x:=(hb.block g h.lt).trans h
theorem Row7.alloc (o:Obj):Row7 (W.alloc o) g x:=(Below.heap_alloc W o g h.lt).trans h
theorem Row7.keep {X:Nat→Prop} {W1:World} (hk:KeepC X W W1) (hx:¬ X g):Row7 W1 g x:=hk.2 g _ _ _ hx h
end
theorem Row7.new (w:World) (x:SpotC):Row7 (w.alloc (.cells x.arr 112)) w.heap.size x:=heap_alloc_new w _
def Stp (B:Nat) (A C:World):Prop:=Below B A C∧∀ (k:Nat) (o:Obj),A.heap[k]? = some o→o.isCells=false→C.heap[k]? = some o
theorem Stp.of_below {B:Nat} {A C:World} (hB:B≤A.heap.size) (h:Below A.heap.size A C):Stp B A C:=⟨h.mono hB,fun k o hk _=>(h.block k (Array.getElem?_eq_some_iff.1 hk).1).trans hk⟩
theorem Stp.grown {B e size n:Nat} {A C:World} {v:Value} {xs:List Value} (hB:B≤A.heap.size) (hg:A.grownBy C v.ownBlock) (hrow:A.ownsRow B e size v n xs):Stp B A C :=
 ⟨(Below.refl B A).grown hg hB fun j ej=>Qb5 hrow j ej,fun k o hk ho=>(hg.block k (Array.getElem?_eq_some_iff.1 hk).1 fun e'=>by
   obtain ⟨cells,hc⟩:=Qba hrow k e'.symm
   rw [hk] at hc
   cases hc
   cases ho).trans hk⟩
def AbS {β:Type} (B:Nat) (J:β→World→Prop):Prop:=∀ s A C,J s A→Stp B A C→J s C
def SeqW {α:Type} (n g:Nat) (lb:Array Value) (encs:α→Array Value) (Kp:World→World→Prop) (S Sp:List α→Prop) (N:Nat) (w:World):Prop :=
 ∀ (l:Nat) (J Jx:List α→World→Prop) (W:World),Below w.heap.size w W→AbS W.heap.size J→AbS W.heap.size Jx →
   (∀ pre x W1,J pre W1→pre.length<N→YieldAt Fence.wide (n - 1) Tryz.prog l (encs x) W1 fun e W' =>
     (e=.returned (.bool true)∧J (pre ++ [x]) W'∧Kp W1 W') ∨ (e=.returned (.bool false)∧Jx (pre ++ [x]) W')) →
   J [] W →
   CallsIn Fence.wide n Tryz.prog g (#[.func (.yield l) #[] #[]] ++ lb) W fun e W'=>(∃ v,e=.returned v)∧((∃ xs,S xs∧J xs W') ∨ ∃ pre,Sp pre∧Jx pre W')
structure StIs (w0:World) (P X:Nat→Prop) (J:List (SNode w0 P)→World→Prop) (base:Nat) (W:World) (g cap:Nat) (st:List SpotC) (ys:List (SNode w0 P)) (wr:World):Prop where
 own:wr.ownsRow base 112 7 (.slice (some ⟨g,0,none⟩) st.length cap) st.length (Qbo st)
 ok:∀ x ∈ st,x.Ok w0 P X wr
 inv:J ys wr
 keep:KeepC X W wr
theorem StIs.push {w0:World} {P X:Nat→Prop} {J:List (SNode w0 P)→World→Prop} {W wl w2 w4:World} {g2 cap2 g3 cap3 nn:Nat} {st:List SpotC} {ys:List (SNode w0 P)} {cs:Array Value} {y:SpotC} (h:StIs w0 P X J W.heap.size W g2 cap2 st ys wl) (hJ:AbS W.heap.size J) (hnn:nn=st.length)
 (hB2:Below wl.heap.size wl w2) (hgw:(w2.alloc (.cells cs 112)).grownBy w4 (Value.slice (some ⟨g2,0,none⟩) nn cap2).ownBlock) (hown4:w4.ownsRow W.heap.size 112 7 (.slice (some ⟨g3,0,none⟩) (nn+1) cap3) (nn+1) (Qbo st ++ y.cells)) (hy:y.Ok w0 P X w2) :
 StIs w0 P X J W.heap.size W g3 cap3 (st ++ [y]) ys w4∧KT 112 X wl w4:=by
 subst hnn
 have hWl:=h.keep.1
 have hB3:Below wl.heap.size wl (w2.alloc (.cells cs 112)):=hB2.alloc hB2.size _
 have hO3:(w2.alloc (.cells cs 112)).ownsRow W.heap.size 112 7 (.slice (some ⟨g2,0,none⟩) st.length cap2) st.length (Qbo st):=Qbl h.own fun k hk=>hB3.block k (own_lt h.own k hk)
 have hs3:=hB3.size
 have k24:KT 112 X w2 w4:=(KT.of_below ((Below.refl w2.heap.size w2).alloc (Nat.le_refl _) _)).trans (KT.grown hgw hO3)
 have k4:KT 112 X wl w4:=(KT.of_below hB2).trans k24
 refine ⟨⟨?_,?_,?_,?_⟩,k4⟩
 · rw [stackCells_snoc,List.length_append];exact hown4
 · intro z hz
   rcases List.mem_append.1 hz with hz | hz
   · exact (h.ok z hz).keep k4
   · rw [List.mem_singleton] at hz
     subst hz
     exact hy.keep k24
 · exact hJ _ _ _ (hJ _ _ _ h.inv (Stp.of_below hWl hB3)) (Stp.grown (by omega) hgw hO3)
 · refine ⟨by have:=hgw.size;omega,fun g cs' t fr hx hg=>?_⟩
   have h1:=h.keep.2 g cs' t fr hx hg
   have hlt:g<W.heap.size:=(Array.getElem?_eq_some_iff.1 hg).1
   have h2:=(hB3.block g (by omega)).trans h1
   refine (hgw.block g (by omega) fun e'=>?_).trans h2
   have:=Qb5 hO3 g e'.symm
   omega
end Go.Proofs.YtfmceonbejlhlaaGreatDoor
