import Derived.Test.YtfmceonbejlhlaaGreatDoorChecked
import Derived.Test.YtfmceonbejlhlaaGreatDoorRows
import Derived.WalkKit
import Derived.ProofKit
import Derived.OpenShut
import Derived.ChangeOld
import Derived.Below
import Derived.Carry
import Derived.Deep.Slices
import Derived.Deep.QuietTactic
import Derived.Test.YtfmceonbejlhlaaGreatDoorMWs5
import Derived.Test.YtfmceonbejlhlaaGreatDoorMWs6
namespace Go.Proofs.YtfmceonbejlhlaaGreatDoor
open Go.Proofs.YtfmceonbejlhlaaGreatDoorW.PrintWords Go.ChangeShapes Go.WideShapes Go.ChangeAt Go.RowKit
set_option linter.unusedVariables false
abbrev T:=P.S25
theorem T.ind {p:T→Prop} (h:∀ k neg n s l,(∀ t ∈ l,p t)→p ⟨k,neg,n,s,l⟩):∀ t,p t :=
 P.S25.rec (motive_1:=p) (motive_2:=fun l=>∀ t ∈ l,p t) (fun k neg n s l ih=>h k neg n s l ih) (by simp) (fun t r h1 h2 u hu=>by
  rcases List.mem_cons.1 hu with rfl | hu
  · exact h1
  · exact h2 u hu)
mutual
def bulk:T→Nat | ⟨_,_,_,s,l⟩=>s.size+bulkL l+1
def bulkL:List T→Nat | []=>0 | t :: r=>bulk t+bulkL r
end
mutual
def Wf:T→Prop | ⟨k,_,n,s,l⟩=>(Lit.int .i64 k).wf=true∧(Lit.int .u64 n).wf=true∧WfL l
def WfL:List T→Prop | []=>True | t :: r=>Wf t∧WfL r
end
theorem bulkL_mem:∀ {l:List T} {t:T},t ∈ l→bulk t≤bulkL l
 | x :: r,t,h=>by
   simp only [bulkL]
   rcases List.mem_cons.1 h with rfl | h
   · omega
   · have:=bulkL_mem h;omega
theorem wfL_mem:∀ {l:List T} {t:T},WfL l→t ∈ l→Wf t
 | x :: r,t,hw,h=>by
   rcases List.mem_cons.1 h with rfl | h
   · exact hw.1
   · exact wfL_mem hw.2 h
theorem bulkL_len:∀ l:List T,l.length≤bulkL l
 | []=>Nat.le_refl _
 | t :: r=>by
   have:=bulkL_len r
   obtain ⟨_,_,_,_,_⟩:=t
   simp only [bulkL,bulk,List.length_cons]
   omega
def five (t:T) (a:Option Addr) (c:Nat):Array Value:=#[.int .i64 t.f0,.bool t.f1,.int .u64 t.f2,.string t.f3,.slice a t.f4.length c]
mutual
def Tree (W:World) (P:Nat→Prop):T→Option Addr→Prop
 | ⟨_,_,_,_,l⟩,a=>l.length≤9223372036854775807∧(l=[] ∨ ∃ g off,a=some ⟨g,off,none⟩∧P g∧TreeL W P l g off)
def TreeL (W:World) (P:Nat→Prop):List T→Nat→Nat→Prop
 | [],_,_=>True
 | t :: r,g,off=>(∃ a c,(∀ j v,(five t a c)[j]? = some v→W.cell? ⟨g,off+j,none⟩=some v)∧t.f4.length≤c∧Tree W P t a)∧TreeL W P r g (off+5)
end
theorem Qb1 {W:World} {P:Nat→Prop} {t:T} {a:Option Addr} (h:Tree W P t a):t.f4.length≤9223372036854775807∧(t.f4=[] ∨ ∃ g off,a=some ⟨g,off,none⟩∧P g∧TreeL W P t.f4 g off):=by
 obtain ⟨_,_,_,_,_⟩:=t;simp only [Tree] at h;exact h
theorem cell_same {W W':World} {g:Nat} (h:W'.heap[g]? = W.heap[g]?) (j:Nat):W'.cell? ⟨g,j,none⟩=W.cell? ⟨g,j,none⟩:=by
 unfold World.cell?
 rw [h]
theorem treeL_at {W:World} {P:Nat→Prop} {g:Nat}:∀ {l:List T} {off i:Nat} {t:T},TreeL W P l g off→l[i]? = some t →
 ∃ a c,(∀ j v,(five t a c)[j]? = some v→W.cell? ⟨g,off+5*i+j,none⟩=some v)∧t.f4.length≤c∧Tree W P t a
 | x :: r,off,0,t,h,e=>by
   simp only [List.getElem?_cons_zero,Option.some.injEq] at e
   subst e
   simp only [TreeL] at h
   exact h.1
 | x :: r,off,i+1,t,h,e=>by
   simp only [List.getElem?_cons_succ] at e
   simp only [TreeL] at h
   obtain ⟨a,c,h1,h3,h2⟩:=treeL_at h.2 e
   refine ⟨a,c,fun j v hv=>?_,h3,h2⟩
   have:=h1 j v hv
   rw [show off+5*(i+1)+j=off+5+5*i+j by omega]
   exact this
theorem treeL_mk {W:World} {P:Nat→Prop} {g:Nat}:∀ {l:List T} {off:Nat},(∀ i t,l[i]? = some t→∃ a c,(∀ j v,(five t a c)[j]? = some v→W.cell? ⟨g,off+5*i+j,none⟩=some v)∧t.f4.length≤c∧Tree W P t a)→TreeL W P l g off
 | [],_,_=>trivial
 | x :: r,off,h=>by
   simp only [TreeL]
   refine ⟨by simpa using h 0 x rfl,treeL_mk fun i t e=>?_⟩
   obtain ⟨a,c,h1,h3,h2⟩:=h (i+1) t (by simpa using e)
   refine ⟨a,c,fun j v hv=>?_,h3,h2⟩
   have:=h1 j v hv
   rw [show off+5+5*i+j=off+5*(i+1)+j by omega]
   exact this
theorem Qaq {W W':World} {P P':Nat→Prop} (hP:∀ g,P g→P' g) (hk:∀ g,P g→W'.heap[g]? = W.heap[g]?):∀ {t:T} {a:Option Addr},Tree W P t a→Tree W' P' t a:=by
 intro t
 induction t using T.ind with
 | h k neg n s l ih =>
   intro a h
   simp only [Tree] at h ⊢
   refine ⟨h.1,?_⟩
   rcases h.2 with h | ⟨g,off,rfl,hg,hl⟩
   · exact .inl h
   · refine .inr ⟨g,off,rfl,hP g hg,treeL_mk fun i t e=>?_⟩
     obtain ⟨a,c,h1,h3,h2⟩:=treeL_at hl e
     refine ⟨a,c,fun j v hv=>?_,h3,ih t (List.mem_of_getElem? e) h2⟩
     rw [← h1 j v hv]
     exact cell_same (hk g hg) _
theorem tree_C {W:World} {P':Nat→Prop}:∀ {t:T} {a:Option Addr},Tree W P' t a→Kd.C P.k25 W a t.f4.length t.f4:=by
 intro t
 induction t using T.ind with
 | h k neg n s l ih =>
   intro a h
   obtain ⟨h0,h⟩:=Qb1 h
   refine ⟨rfl,h0,fun hn=>?_⟩
   rcases h with h | ⟨g,off,rfl,hg,hl⟩
   · rw [h] at hn;exact absurd hn (Nat.lt_irrefl 0)
   · refine ⟨_,rfl,fun j p hj=>?_⟩
     obtain ⟨a,c,h1,h3,h2⟩:=treeL_at hl hj
     refine ⟨(five p a c).toList,rfl,P.k25_mk W p h3 (ih p (List.mem_of_getElem? hj) h2),fun i u hu=>?_⟩
     rw [WideShapes.add_plain,← Nat.add_assoc]
     exact (by have:=h1 i u (by rw [← Array.getElem?_toList];exact hu);rwa [show off+5*j+i=off+j*P.k25.sz+i by show _=off+j*5+i;omega] at this)
section
variable {H:Type} {enc:TypeId × Value→H} {W:World}
theorem list_of {α:Type} [Inhabited α] {n:Nat} (f:Nat→α) (i:Nat) (x:α) (h:((List.range n).map f)[i]? = some x):i<n∧x=f i:=by
 rw [List.getElem?_map] at h
 by_cases hi:i<n
 · rw [List.getElem?_range hi] at h;simp at h;exact ⟨hi,h.symm⟩
 · rw [List.getElem?_eq_none (by simpa using hi)] at h;simp at h
instance:Inhabited T:=⟨⟨0,false,0,⟨#[]⟩,[]⟩⟩
theorem wfL_range {n:Nat} (f:Nat→T) (h:∀ i,i<n→Wf (f i)):WfL ((List.range n).map f):=by
 have:∀ l:List Nat,(∀ i ∈ l,i<n)→WfL (l.map f):=by
  intro l
  induction l with
  | nil=>intro _;trivial
  | cons a r ih=>intro hl;exact ⟨h a (hl a (List.mem_cons_self ..)),ih fun i hi=>hl i (List.mem_cons_of_mem _ hi)⟩
 exact this _ fun i hi=>by simpa using hi
theorem cells25:Tryz.prog.cellsOf 25=5:=by kernel_rfl
theorem fields25:∃ f0 f1 f2 f3 f4:Field,Tryz.prog.underlying 25=some (.struct #[f0,f1,f2,f3,f4])∧(f0.type=3∧f0.offset=0)∧(f1.type=4∧f1.offset=1)∧(f2.type=22∧f2.offset=2)∧(f3.type=9∧f3.offset=3)∧f4.type=23∧f4.offset=4:=by
 refine ⟨_,_,_,_,_,Tryz.underlying25,?_,?_,?_,?_,?_,?_⟩ <;> first | exact ⟨rfl,rfl⟩ | rfl
theorem cellsK:Tryz.prog.cellsOf 3=1∧Tryz.prog.cellsOf 4=1∧Tryz.prog.cellsOf 22=1∧Tryz.prog.cellsOf 9=1∧Tryz.prog.cellsOf 23=1:=⟨by kernel_rfl,by kernel_rfl,by kernel_rfl,by kernel_rfl,by kernel_rfl⟩
theorem bulk_le {n:Nat} (f:Nat→T) (D:Nat→DataW H) (h:∀ i,i<n→bulk (f i)≤Rows.uptoBulk (D i)):bulkL ((List.range n).map f)≤Rows.uptoBulkAll ((List.range n).map D):=by
 have:∀ l:List Nat,(∀ i ∈ l,i<n)→bulkL (l.map f)≤Rows.uptoBulkAll (l.map D):=by
  intro l
  induction l with
  | nil=>intro _;simp [bulkL]
  | cons a r ih =>
    intro hl
    have h1:=h a (hl a (List.mem_cons_self ..))
    have h2:=ih fun i hi=>hl i (List.mem_cons_of_mem _ hi)
    simp only [List.map_cons,bulkL,Rows.uptoBulkAll]
    omega
 exact this _ fun i hi=>by simpa using hi
set_option maxRecDepth 100000 in
theorem open_val:∀ (fuel:Nat) (cs:List Value) (x:DataW H × List MemPlace),DataW.trod enc Tryz.prog W 0 (fun _=>true) true fuel 25 cs=some x →
 ∃ t a c,cs=(five t a c).toList∧t.f4.length≤c∧Tree W (·<W.heap.size) t a∧Wf t∧bulk t≤Rows.uptoBulk x.1:=by
 intro fuel
 induction fuel using Nat.strongRecOn with
 | _ fuel ih =>
   intro cs x h
   obtain ⟨f0,f1,f2,f3,f4,hu,⟨t0,o0⟩,⟨t1,o1⟩,⟨t2,o2⟩,⟨t3,o3⟩,t4,o4⟩:=fields25
   obtain ⟨c0,c1,c2,c3,c4⟩:=cellsK
   obtain ⟨xs,n,rfl,rfl,hlen,hxl,hf⟩:=DataW.trod_struct hu h
   rw [cells25] at hlen
   match xs,hxl,cs,hlen with
   | [y0,y1,y2,y3,y4],_,[v0,v1,v2,v3,v4],_ =>
     have g0:=hf 0 f0 rfl
     have g1:=hf 1 f1 rfl
     have g2:=hf 2 f2 rfl
     have g3:=hf 3 f3 rfl
     have g4:=hf 4 f4 rfl
     simp only [t0,t1,t2,t3,t4,o0,o1,o2,o3,o4,c0,c1,c2,c3,c4,List.drop_zero,List.drop_succ_cons,List.take_succ_cons,List.take_zero,List.getElem?_cons_zero,List.getElem?_cons_succ] at g0 g1 g2 g3 g4
     obtain ⟨k,e0,x0,w0⟩:=DataW.trod_int Tryz.underlying3 g0
     obtain ⟨b,e1,x1⟩:=DataW.trod_bool Tryz.underlying4 g1
     obtain ⟨m,e2,x2,w2⟩:=DataW.trod_int Tryz.underlying22 g2
     obtain ⟨s,e3,x3,w3⟩:=DataW.trod_string Tryz.underlying9 g3
     simp only [List.cons.injEq,and_true] at e0 e1 e2 e3
     subst e0 e1 e2 e3 x0 x1 x2 x3
     rcases DataW.trod_slice Tryz.underlying23 g4 with ⟨e4, x4⟩ | ⟨a, len, cap, elems, rest, n', hn', e4, x4, _, hl, hm, hlen', hel, _, _⟩
     · simp only [List.cons.injEq,and_true] at e4
       subst e4 x4
       refine ⟨⟨k,b,m,s,[]⟩,none,0,rfl,Nat.le_refl _,by simp [Tree],⟨w0,w2,trivial⟩,?_⟩
       simp only [bulk,bulkL,List.map_cons,List.map_nil,Rows.uptoBulk,Rows.uptoBulkAll,ByteArray.size,Array.length_toList]
       omega
     · simp only [List.cons.injEq,and_true] at e4
       subst e4 x4
       obtain ⟨D,hD⟩:∃ D:Nat→DataW H,D=fun i=>(elems.getD i (.nil,[])).1:=⟨_,rfl⟩
       have hmap : elems.map (·.1) = (List.range len).map D := by rw [Go.Deep.map_by_index elems (.nil, []) (·.1), hlen', hD]
       obtain ⟨ts, hts⟩ := Go.Deep.choose_lt (n := len) (α := T) (p := fun i t => ∃ a' c', (∀ j v, (five t a' c')[j]? = some v → W.cell? (a.add (i * 5 + j)) = some v) ∧ t.f4.length ≤ c' ∧ Tree W (· < W.heap.size) t a' ∧ Wf t ∧ bulk t ≤ Rows.uptoBulk (D i)) (fun i hi => by
        have h0:=hel i hi
        rw [List.getElem?_eq_getElem (by omega)] at h0
        obtain ⟨cs', h1, h2⟩ := Option.bind_eq_some_iff.1 h0
        have hDi:D i=(elems[i]'(by omega)).1:=by rw [hD];simp [List.getD,List.getElem?_eq_getElem (show i<elems.length by omega)]
        rw [cells25] at h1
        obtain ⟨_,hlen,hcell⟩:=World.cells?_some h1
        have hlt:n'<n+1:=by omega
        rw [hDi]
        obtain ⟨t, a', c', rfl, h6, h3, h4, h5⟩ := ih n' hlt cs' _ h2
        refine ⟨t, a', c', fun j v hv => ?_, h6, h3, h4, h5⟩
        have hj:j<5:=by
         have:=(Array.getElem?_eq_some_iff.1 hv).1
         simpa [five] using this
        have h6:=hcell j hj
        rw [Go.Deep.add_add] at h6
        rw [h6,← hv,Array.getElem?_toList])
       have hspot:0<len→a.spot=none:=fun hp=>by
        obtain ⟨a', c', h1, _⟩ := hts 0 hp
        have h0:=h1 0 _ rfl
        have:=World.cell?_spot h0
        simpa [Addr.add] using this
       refine ⟨⟨k,b,m,s,(List.range len).map ts⟩,some a,cap,by simp [five],by simpa using hl,?_,⟨w0,w2,wfL_range ts fun i hi=>?_⟩,?_⟩
       · simp only [Tree]
         refine ⟨by unfold maxLen at hm;simp;omega,?_⟩
         by_cases hp:len=0
         · subst hp;exact .inl rfl
         · obtain ⟨blk,off,spot⟩:=a
           have hs:spot=none:=hspot (by omega)
           subst hs
           obtain ⟨a', c', h1, _⟩ := hts 0 (by omega)
           have hb:=h1 0 _ rfl
           rw [WideShapes.add_plain] at hb
           refine .inr ⟨blk,off,rfl,block_lt_of_cell hb,treeL_mk fun i t e=>?_⟩
           obtain ⟨hi,rfl⟩:=list_of ts i t e
           obtain ⟨a', c', h1, h7, h2, _⟩ := hts i hi
           refine ⟨a', c', fun j v hv => ?_, h7, h2⟩
           have:=h1 j v hv
           rw [WideShapes.add_plain] at this
           rw [show off+5*i+j=off+(i*5+j) by omega]
           exact this
       · obtain ⟨a', c', _, _, _, h3, _⟩ := hts i hi
         exact h3
       · have:=bulk_le ts D (n:=len) fun i hi=>by obtain ⟨_,_,_,_,_,_,h⟩:=hts i hi;exact h
         simp only [bulk,List.map_cons,List.map_nil,Rows.uptoBulk,Rows.uptoBulkAll,ByteArray.size,Array.length_toList,hmap]
         omega
end
open Go.RowKit Go.Proofs.YtfmceonbejlhlaaGreatDoorW.PrintWords Go.Proofs.YtfmceonbejlhlaaGreatDoorW.PrintLast Go.Proofs.YtfmceonbejlhlaaGreatDoorW.PrintMore
set_option linter.unusedVariables false
def leafF (k:Int):Bool:=!(k == 11 || k == 12 || k == 13)
def Ret (v:Value) (w:World) (e:Ending) (w':World):Prop:=e=.returned v∧Below w.heap.size w w'
def Row5 (W:World) (g:Nat) (a b c d e:Value):Prop:=W.heap[g]? = some (.cells #[a,b,c,d,e] 25 (0,0))
section
variable {W:World} {g:Nat} {a b c d e:Value} (h:Row5 W g a b c d e)
include h
theorem Row5.c0:W.cell? ⟨g,0,none⟩=some a:=cell_of_row W g 0 _ _ _ h
theorem Row5.c1:W.cell? ⟨g,1,none⟩=some b:=cell_of_row W g 1 _ _ _ h
theorem Row5.c2:W.cell? ⟨g,2,none⟩=some c:=cell_of_row W g 2 _ _ _ h
theorem Row5.c3:W.cell? ⟨g,3,none⟩=some d:=cell_of_row W g 3 _ _ _ h
theorem Row5.c4:W.cell? ⟨g,4,none⟩=some e:=cell_of_row W g 4 _ _ _ h
theorem Row5.fz (j:Nat):W.frozen? ⟨g,j,none⟩=false:=frozen_of_row W g j _ _ h
theorem Row5.lt:g<W.heap.size:=block_lt_of_cell h.c0
theorem Row5.below {W1:World} (hb:Below W.heap.size W W1):Row5 W1 g a b c d e:=(hb.block g h.lt).trans h
theorem Row5.alloc (o:Obj):Row5 (W.alloc o) g a b c d e:=(Below.heap_alloc W o g h.lt).trans h
end
theorem Row5.new (w:World) (a b c d e:Value):Row5 (w.alloc (.cells #[a,b,c,d,e] 25)) w.heap.size a b c d e:=heap_alloc_new w _
set_option maxHeartbeats 1000000 in
theorem leaf_any (k:Int) (b n s l:Value) (w:World) :
 Calls Tryz.prog 33 #[.agg #[.int .i64 k,b,n,s,l]] w (Ret (.bool (leafF k)) w):=by
 go_enter Tryz.func33,Tryz.ntmps33
 by_cases h1:k=11
 · subst h1;go_wp2;go_ret;exact ⟨rfl,(Below.refl _ _).alloc (Nat.le_refl _) _⟩
 by_cases h2:k=12
 · subst h2;go_wp2;go_ret;exact ⟨rfl,(Below.refl _ _).alloc (Nat.le_refl _) _⟩
 by_cases h3:k=13
 · subst h3;go_wp2;go_ret;exact ⟨rfl,(Below.refl _ _).alloc (Nat.le_refl _) _⟩
 have b1:(k == 11)=false:=by simpa using h1
 have b2:(k == 12)=false:=by simpa using h2
 have b3:(k == 13)=false:=by simpa using h3
 go_wp2
 go_ret
 exact ⟨by simp [leafF,b1,b2,b3],(Below.refl _ _).alloc (Nat.le_refl _) _⟩
mutual
def depthF:T→Nat | ⟨k,_,_,_,l⟩=>if leafF k then (if k=5 then 1 else 0) else depthL l+1
def depthL:List T→Nat | []=>0 | t :: r=>max (depthF t) (depthL r)
end
theorem depth_bulk:∀ t:T,depthF t≤bulk t:=by
 intro t
 induction t using T.ind with
 | h k neg n s l ih =>
   have:∀ r:List T,(∀ t ∈ r,depthF t≤bulk t)→depthL r≤bulkL r:=by
    intro r
    induction r with
    | nil=>intro _;simp [depthL,bulkL]
    | cons t r ih2 =>
      intro h
      have h1:=h t (List.mem_cons_self ..)
      have h2:=ih2 fun u hu=>h u (List.mem_cons_of_mem _ hu)
      simp only [depthL,bulkL];omega
   have h3:=this l ih
   simp only [depthF,bulk]
   split
   · split <;> omega
   · omega
theorem depthL_snoc (t:T):∀ l:List T,depthL (l ++ [t])=max (depthL l) (depthF t)
 | []=>by simp [depthL]
 | x :: r=>by simp only [List.cons_append,depthL];rw [depthL_snoc t r];omega
theorem depthL_take {l:List T} {i:Nat} {t:T} (h:l[i]? = some t):depthL (l.take (i+1))=max (depthL (l.take i)) (depthF t):=by
 rw [List.take_add_one,h,Option.toList_some,depthL_snoc]
theorem depthL_take_le:∀ (l:List T) (i:Nat),depthL (l.take i)≤depthL l
 | [],i=>by simp [depthL]
 | x :: r,0=>by simp [depthL]
 | x :: r,i+1=>by have:=depthL_take_le r i;simp only [List.take_succ_cons,depthL];omega
theorem depthL_bulk (l:List T):depthL l≤bulkL l:=by
 induction l with
 | nil=>simp [depthL,bulkL]
 | cons t r ih=>have:=depth_bulk t;simp only [depthL,bulkL];omega
theorem Qbm {W:World} {P:Nat→Prop} {g off:Nat} {l:List T} (h:TreeL W P l g off) {i:Nat} (hi:i<l.length):∃ t a c,l[i]? = some t∧W.cell? ⟨g,off+i*5,none⟩=some (.int .i64 t.f0)∧W.cell? ⟨g,off+i*5+1,none⟩=some (.bool t.f1) ∧
 W.cell? ⟨g,off+i*5+2,none⟩=some (.int .u64 t.f2)∧W.cell? ⟨g,off+i*5+3,none⟩=some (.string t.f3)∧W.cell? ⟨g,off+i*5+4,none⟩=some (.slice a t.f4.length c)∧t.f4.length≤c∧Tree W P t a:=by
 obtain ⟨a,c,h1,h2,h3⟩:=treeL_at h (List.getElem?_eq_getElem hi)
 rw [Nat.mul_comm] at h1
 exact ⟨_,a,c,List.getElem?_eq_getElem hi,h1 0 _ rfl,h1 1 _ rfl,h1 2 _ rfl,h1 3 _ rfl,h1 4 _ rfl,h2,h3⟩
set_option maxHeartbeats 4000000 in
set_option maxRecDepth 100000 in
theorem depth_any:∀ (t:T) (a:Option Addr) (c:Nat) (W:World) (P:Nat→Prop),(∀ g,P g→g<W.heap.size)→Tree W P t a→bulk t≤17592186044416 →
 Calls Tryz.prog 15 #[.agg (five t a c)] W (Ret (.int .i64 (depthF t:Nat)) W):=by
 intro t
 induction t using T.ind with
 | h k neg n s l ih =>
   intro a c w P hP hT hb
   have hlb:=bulkL_len l
   have hdb:=depthL_bulk l
   simp only [bulk] at hb
   obtain ⟨h0,hT⟩:=Qb1 hT
   dsimp only at hT h0
   have hL:=fun W=>leaf_any k (.bool neg) (.int .u64 n) (.string s) (.slice a l.length c) W
   unfold five
   dsimp only
   go_enter Tryz.func15,Tryz.ntmps15
   have R:=Row5.new w (.int .i64 k) (.bool neg) (.int .u64 n) (.string s) (.slice a l.length c)
   have hB:Below w.heap.size w (w.alloc (.cells #[.int .i64 k,.bool neg,.int .u64 n,.string s,.slice a l.length c] 25)):=(Below.refl _ w).alloc (Nat.le_refl _) _
   have hc0:=R.c0
   have hc4:=R.c4
   by_cases hl:leafF k=true
   · have hd:(depthF ⟨k,neg,n,s,l⟩:Nat)=(if k=5 then 1 else 0):=by simp only [depthF];rw [if_pos hl]
     rw [hd]
     by_cases h5:k=5
     · rw [if_pos h5]
       subst h5
       go_wp2_with (go_at_call 33;refine (hL _).mono ?_;rintro e w1 ⟨rfl,hb1⟩;rw [hl];replace R:=R.below hb1;have c0:=R.c0)
       go_ret
       exact ⟨rfl,hB.trans (hb1.mono (by simp))⟩
     · have b5:(k == 5)=false:=by simpa using h5
       rw [if_neg h5]
       go_wp2_with (go_at_call 33;refine (hL _).mono ?_;rintro e w1 ⟨rfl,hb1⟩;rw [hl];replace R:=R.below hb1;have c0:=R.c0)
       go_ret
       exact ⟨rfl,hB.trans (hb1.mono (by simp))⟩
   · have hl':leafF k=false:=by simpa using hl
     have hd:depthF ⟨k,neg,n,s,l⟩=depthL l+1:=by simp only [depthF];rw [if_neg hl]
     rw [hd]
     go_wp2_with (go_at_call 33;refine (hL _).mono ?_;rintro e w1 ⟨rfl,hb1⟩;rw [hl'];replace R:=R.below hb1;have c4:=R.c4)
     have hB1:Below w.heap.size w w1:=hB.trans (hb1.mono (by simp))
     go_loopw [3,14] (fun d i wr=>∃ k:Nat,k≤l.length∧i=.int .i64 k∧d=.int .i64 (depthL (l.take k):Nat)∧Below w.heap.size w wr) (fun d i _=>l.length - (intOf i).toNat)
     case atStart=>exact ⟨0,by omega,rfl,rfl,hB1⟩
     case round =>
      obtain ⟨j,hj,rfl,rfl,hB2⟩:=hrel
      by_cases hlt:j<l.length
      · rcases hT with rfl | ⟨g,off,rfl,hg,hTL⟩
        · simp at hlt
        obtain ⟨x,xa,xc,hx,e0,e1,e2,e3,e4,hxc,hxT⟩:=Qbm hTL hlt
        have hgw:=hP g hg
        have K0:=(hB2.cell (p:=⟨g,off+j*5,none⟩) hgw).trans e0
        have K1:=(hB2.cell (p:=⟨g,off+j*5+1,none⟩) hgw).trans e1
        have K2:=(hB2.cell (p:=⟨g,off+j*5+2,none⟩) hgw).trans e2
        have K3:=(hB2.cell (p:=⟨g,off+j*5+3,none⟩) hgw).trans e3
        have K4:=(hB2.cell (p:=⟨g,off+j*5+4,none⟩) hgw).trans e4
        have hxb:=bulkL_mem (List.mem_of_getElem? hx)
        have hC:∀ o,Calls Tryz.prog 15 #[.agg #[.int .i64 x.f0,.bool x.f1,.int .u64 x.f2,.string x.f3,.slice xa x.f4.length xc]] (wr.alloc o) (Ret (.int .i64 (depthF x:Nat)) (wr.alloc o)):=fun o=>by
         have hb':Below w.heap.size w (wr.alloc o):=hB2.alloc hB2.size o
         exact ih x (List.mem_of_getElem? hx) xa xc _ P (fun g hg=>Nat.lt_of_lt_of_le (hP g hg) hb'.size) (Qaq (fun _ h=>h) (fun g hg=>hb'.block g (hP g hg)) hxT) (by omega)
        have hdx:=depth_bulk x
        have hdl:=depthL_take_le l j
        have htk:=depthL_take hx
        obtain ⟨m,hm⟩:∃ m,depthF x=m:=⟨_,rfl⟩
        obtain ⟨d,hd'⟩:∃ d,depthL (l.take j)=d:=⟨_,rfl⟩
        rw [hm] at hC hdx htk
        rw [hd'] at hdl htk ⊢
        clear hL hB hc0 hc4 hb1 R c4 e0 e1 e2 e3 e4 hTL hxT ih hT hd hm hd'
        have HT:=Lib.hid htk
        clear htk
        go_wp2_with (go_at_call 15;refine (hC _).mono ?_;rintro e w2 ⟨rfl,hb2⟩)
        go_roundw
        case rel=>exact ⟨j+1,by omega,by go_num,by rw [HT.out];congr 1;split <;> omega,(hB2.alloc hB2.size _).trans (hb2.mono (by have:=hB2.size;simp;omega))⟩
        case measure=>simp [intOf];omega
      · obtain rfl:j=l.length:=by omega
        have hdd:depthL (l.take l.length)=depthL l:=by rw [List.take_length]
        obtain ⟨d,hd'⟩:∃ d,depthL l=d:=⟨_,rfl⟩
        rw [hdd,hd']
        rw [hd'] at hdb
        clear hL hB hc0 hc4 hb1 R c4 ih hT hd
        go_wp2
        go_ret
        exact ⟨by show Ending.returned (.int .i64 ((d : Int) + 1)) = .returned (.int .i64 ((depthL l + 1 : Nat) : Int)); rw [hd', Int.natCast_add]; rfl, hB2⟩
open Go.RowKit Go.Proofs.YtfmceonbejlhlaaGreatDoorW.PrintWords Go.Proofs.YtfmceonbejlhlaaGreatDoorW.PrintLast Go.Proofs.YtfmceonbejlhlaaGreatDoorW.PrintMore
set_option linter.unusedVariables false
mutual
def saysF:T→Bool | ⟨k,_,_,_,l⟩=>saysL l && (k != 14)
def saysL:List T→Bool | []=>true | t :: r=>saysF t && saysL r
end
theorem saysL_get:∀ {l:List T} {i:Nat} {t:T},l[i]? = some t→saysF t=false→saysL l=false
 | x :: r,0,t,e,h=>by
   simp only [List.getElem?_cons_zero,Option.some.injEq] at e
   subst e
   simp [saysL,h]
 | x :: r,i+1,t,e,h=>by
   simp only [List.getElem?_cons_succ] at e
   simp [saysL,saysL_get e h]
theorem saysL_all:∀ {l:List T},(∀ (i:Nat) (t:T),l[i]? = some t→saysF t=true)→saysL l=true
 | [],_=>rfl
 | x :: r,h=>by
   have h1:=h 0 x rfl
   have h2:=saysL_all (l:=r) fun i t e=>h (i+1) t (by simpa using e)
   simp [saysL,h1,h2]
set_option maxHeartbeats 4000000 in
set_option maxRecDepth 100000 in
theorem says_any:∀ (t:T) (a:Option Addr) (c:Nat) (W:World) (P:Nat→Prop),(∀ g,P g→g<W.heap.size)→Tree W P t a→bulk t≤17592186044416 →
 Calls Tryz.prog 17 #[.agg (five t a c)] W (Ret (.bool (saysF t)) W):=by
 intro t
 induction t using T.ind with
 | h k neg n s l ih =>
   intro a c w P hP hT hb
   have hlb:=bulkL_len l
   simp only [bulk] at hb
   obtain ⟨h0,hT⟩:=Qb1 hT
   dsimp only at hT h0
   unfold five
   dsimp only
   go_enter Tryz.func17,Tryz.ntmps17
   have R:=Row5.new w (.int .i64 k) (.bool neg) (.int .u64 n) (.string s) (.slice a l.length c)
   have hB:Below w.heap.size w (w.alloc (.cells #[.int .i64 k,.bool neg,.int .u64 n,.string s,.slice a l.length c] 25)):=(Below.refl _ w).alloc (Nat.le_refl _) _
   have hc0:=R.c0
   have hc4:=R.c4
   go_wp2
   obtain ⟨w1,hw1⟩:∃ w1,w.alloc (.cells #[.int .i64 k,.bool neg,.int .u64 n,.string s,.slice a l.length c] 25)=w1:=⟨_,rfl⟩
   rw [hw1] at R hB hc0 hc4 ⊢
   clear hw1
   go_loopw [8] (fun i wr=>∃ k':Nat,k'≤l.length∧i=.int .i64 k'∧Hid (∀ (i:Nat) (t:T),i<k'→l[i]? = some t→saysF t=true)∧Below w1.heap.size w1 wr) (fun i _=>l.length - (intOf i).toNat)
   case atStart=>exact ⟨0,by omega,rfl,(fun i t h=>absurd h (Nat.not_lt_zero i)),Below.refl _ _⟩
   case round =>
    obtain ⟨j,hj,rfl,hA,hb2⟩:=hrel
    have hB2:Below w.heap.size w wr:=hB.trans (hb2.mono hB.size)
    by_cases hlt:j<l.length
    · rcases hT with rfl | ⟨g,off,rfl,hg,hTL⟩
      · simp at hlt
      obtain ⟨x,xa,xc,hx,e0,e1,e2,e3,e4,hxc,hxT⟩:=Qbm hTL hlt
      have hgw:=hP g hg
      have K0:=(hB2.cell (p:=⟨g,off+j*5,none⟩) hgw).trans e0
      have K1:=(hB2.cell (p:=⟨g,off+j*5+1,none⟩) hgw).trans e1
      have K2:=(hB2.cell (p:=⟨g,off+j*5+2,none⟩) hgw).trans e2
      have K3:=(hB2.cell (p:=⟨g,off+j*5+3,none⟩) hgw).trans e3
      have K4:=(hB2.cell (p:=⟨g,off+j*5+4,none⟩) hgw).trans e4
      have hxb:=bulkL_mem (List.mem_of_getElem? hx)
      have hC:∀ o,Calls Tryz.prog 17 #[.agg #[.int .i64 x.f0,.bool x.f1,.int .u64 x.f2,.string x.f3,.slice xa x.f4.length xc]] (wr.alloc o) (Ret (.bool (saysF x)) (wr.alloc o)):=fun o=>by
       have hb':Below w.heap.size w (wr.alloc o):=hB2.alloc hB2.size o
       exact ih x (List.mem_of_getElem? hx) xa xc _ P (fun g hg=>Nat.lt_of_lt_of_le (hP g hg) hb'.size) (Qaq (fun _ h=>h) (fun g hg=>hb'.block g (hP g hg)) hxT) (by omega)
      have hX:=Lib.hid hx
      have hT:=Lib.hid hTL
      clear hB hc0 hc4 R e0 e1 e2 e3 e4 hTL hxT ih hx
      cases hs:saysF x
      · rw [hs] at hC
        have hf:saysF ⟨k,neg,n,s,l⟩=false:=by simp [saysF,saysL_get hX.out hs]
        go_wp2_with (go_at_call 17;refine (hC _).mono ?_;rintro e w2 ⟨rfl,hb3⟩)
        go_ret
        exact ⟨by rw [hf];rfl,(hB2.alloc hB2.size _).trans (hb3.mono (by have:=hB2.size;simp;omega))⟩
      · rw [hs] at hC
        have HS:=Lib.hid hs
        clear hs
        go_wp2_with (go_at_call 17;refine (hC _).mono ?_;rintro e w2 ⟨rfl,hb3⟩)
        go_roundw
        case rel =>
         refine ⟨j+1,by omega,by go_num,?_,(hb2.alloc hb2.size _).trans (hb3.mono (by have:=hb2.size;simp;omega))⟩
         intro i t hi e
         rcases Nat.lt_succ_iff_lt_or_eq.1 hi with h | rfl
         · exact hA i t h e
         · rw [hX.out] at e;cases e;exact HS.out
        case measure=>simp [intOf];omega
    · obtain rfl:j=l.length:=by omega
      have c0:=(R.below hb2).c0
      have hS:saysL l=true:=saysL_all fun i t e=>hA i t (List.getElem?_eq_some_iff.1 e).1 e
      clear hB hc0 hc4 ih hT hA
      go_wp2
      go_ret
      exact ⟨by rw [show saysF ⟨k,neg,n,s,l⟩=(k != 14) from by simp [saysF,hS]];rfl,hB2⟩
open Go.RowKit Go.Proofs.YtfmceonbejlhlaaGreatDoorW.PrintWords Go.Proofs.YtfmceonbejlhlaaGreatDoorW.PrintLast Go.Proofs.YtfmceonbejlhlaaGreatDoorW.PrintMore
set_option linter.unusedVariables false
def bigF (s:ByteArray):Bool:=decide (8<s.size) && (decide (s.size≤512) && (bt s 0 != 0))
theorem big_f (s:ByteArray):P.Qb4.f s=some (bigF s):=by
 unfold P.Qb4.f bigF
 by_cases h1:(s.size:Int) > 8
 · rw [if_pos h1]
   have h1':8<s.size:=by omega
   by_cases h2:(s.size:Int)≤512
   · rw [if_pos h2,if_pos (by omega)]
     have h2':s.size≤512:=by omega
     simp [h1', h2']
   · rw [if_neg h2]
     have h2':¬ s.size≤512:=by omega
     simp [h2']
 · rw [if_neg h1]
   have h1':¬ 8<s.size:=by omega
   simp [h1']
def bitsF (k:Int):Int:=if k=1 then 1 else if k=6 then 16 else if k=7 then 32 else if k=4 ∨ k=8 ∨ k=13 then 64 else if k=3 ∨ k=14 then 8 else 0
theorem bits_f (q:Nat) (k:Int):P.Qa6.f (q+1) k=some (bitsF k):=by
 unfold P.Qa6.f bitsF P.Qa6.j0
 repeat' split
 all_goals first | rfl | (simp_all;done) | (exfalso;simp_all;omega)
def tailF (k n:Int) (s:ByteArray) (l:List T):Bool :=
 if k=9 ∨ k=14 then true
 else if k=5 then bigF s
 else if k=3∧19<n∧n<32 then false
 else if k=12∧l.length % 2 ≠ 0 then false
 else if k=13∧(l.length ≠ 1 ∨ (n / 2=1∧(P.Qbe l 0).f0=9∧bigF (P.Qbe l 0).f3=true)) then false
 else s.toList == []
def oneF (k:Int) (neg:Bool) (n:Int) (s:ByteArray) (l:List T):Bool :=
 if k<0 ∨ 14<k ∨ (neg=true∧k ≠ 4∧k ≠ 5) then false
 else if bitsF k<64∧n / 2 ^ (bitsF k).toNat ≠ 0 then false
 else if k=10 then (chk s).2 == 0
 else tailF k n s l
theorem j2_f (q:Nat) (k:Int) (neg:Bool) (n:Int) (s:ByteArray) (l:List T) (b:Bool) (hb:b=true↔k=9 ∨ k=14):P.Qan.j2 (q+1) k b k neg n s l=some (tailF k n s l):=by
 rw [P.Qan.j2]
 unfold tailF
 by_cases h:b=true
 · rw [if_pos h,if_pos (hb.1 h)]
 rw [if_neg h,if_neg (fun h'=>h (hb.2 h'))]
 by_cases h5:k=5
 · rw [if_pos h5,if_pos h5,big_f];rfl
 rw [if_neg h5,if_neg h5]
 by_cases h3:k=3
 · subst h3
   rw [if_pos rfl]
   by_cases h19:n > 19
   · by_cases h32:n<32
     · rw [if_pos h19,if_pos h32,if_pos ⟨rfl,h19,h32⟩]
     · rw [if_pos h19,if_neg h32,if_neg (c:=(3:Int)=3∧_) (fun h=>h32 h.2.2),if_neg (c:=(3:Int)=12∧_) (fun h=>by simp at h),if_neg (c:=(3:Int)=13∧_) (fun h=>by simp at h)]
   · rw [if_neg h19,if_neg (c:=(3:Int)=3∧_) (fun h=>h19 h.2.1),if_neg (c:=(3:Int)=12∧_) (fun h=>by simp at h),if_neg (c:=(3:Int)=13∧_) (fun h=>by simp at h)]
 rw [if_neg h3,if_neg (c:=k=3∧_) (fun h=>h3 h.1)]
 by_cases h12:k=12
 · subst h12
   rw [if_pos rfl]
   by_cases he:((l.length:Int) % 2)=0
   · rw [if_pos he,if_neg (c:=(12:Int)=12∧l.length % 2 ≠ 0) (fun h=>h.2 (by omega)),if_neg (c:=(12:Int)=13∧_) (fun h=>by simp at h)]
   · rw [if_neg he,if_pos ⟨rfl,by omega⟩]
 rw [if_neg h12,if_neg (c:=k=12∧_) (fun h=>h12 h.1)]
 by_cases h13:k=13
 · subst h13
   rw [if_pos rfl]
   by_cases hl:(l.length:Int)=1
   · rw [if_pos hl]
     by_cases hn:n / 2=1
     · rw [if_pos hn,if_pos (by omega)]
       by_cases h9:(P.Qbe l 0).f0=9
       · rw [if_pos h9,big_f]
         show (if bigF (P.Qbe l 0).f3=true then some false else _)=_
         by_cases hbg:bigF (P.Qbe l 0).f3=true
         · rw [if_pos hbg,if_pos ⟨rfl,.inr ⟨hn,h9,hbg⟩⟩]
         · rw [if_neg hbg,if_neg (c:=(13:Int)=13∧_) (fun h=>h.2.elim (fun h=>h (by omega)) (fun h=>hbg h.2.2))]
       · rw [if_neg h9,if_neg (c:=(13:Int)=13∧_) (fun h=>h.2.elim (fun h=>h (by omega)) (fun h=>h9 h.2.1))]
     · rw [if_neg hn,if_neg (c:=(13:Int)=13∧_) (fun h=>h.2.elim (fun h=>h (by omega)) (fun h=>hn h.1))]
   · rw [if_neg hl,if_pos ⟨rfl,.inl (by omega)⟩]
 rw [if_neg h13,if_neg (c:=k=13∧_) (fun h=>h13 h.1)]
theorem j1_f (q:Nat) (k:Int) (neg:Bool) (n:Int) (s:ByteArray) (l:List T) (b:Bool) (hs:s.size≤9223372036854775807) :
 P.Qan.j1 (q+2) b k neg n s l=some (if b=true then false else if k=10 then (chk s).2 == 0 else tailF k n s l):=by
 rw [P.Qan.j1]
 by_cases hb:b=true
 · rw [if_pos hb,if_pos hb]
 rw [if_neg hb,if_neg hb]
 by_cases h10:k=10
 · rw [if_pos h10,if_pos h10]
   simp only [P.utf_Check.f,if_pos hs,Option.bind_some]
 rw [if_neg h10,if_neg h10]
 by_cases h9:k=9
 · rw [if_pos h9]
   exact j2_f q k neg n s l (k == 9) ⟨fun h=>.inl h9,fun _=>by simpa using h9⟩
 · rw [if_neg h9]
   exact j2_f q k neg n s l (k == 14) ⟨fun h=>.inr (by simpa using h),fun h=>by rcases h with h | h;exact absurd h h9;simpa using h⟩
theorem bitsF_nn (k:Int):0≤bitsF k∧bitsF k≤64:=by unfold bitsF;repeat' split;all_goals omega
theorem j0_f (q:Nat) (k:Int) (neg:Bool) (n:Int) (s:ByteArray) (l:List T) (b:Bool) (hs:s.size≤9223372036854775807) :
 P.Qan.j0 (q+3) b k neg n s l=some (if b=true then false else if bitsF k<64∧n / 2 ^ (bitsF k).toNat ≠ 0 then false else if k=10 then (chk s).2 == 0 else tailF k n s l):=by
 rw [P.Qan.j0]
 by_cases hb:b=true
 · rw [if_pos hb,if_pos hb]
 rw [if_neg hb,if_neg hb,bits_f]
 have hn:=bitsF_nn k
 show (if bitsF k<64 then _ else _)=_
 by_cases h64:bitsF k<64
 · rw [if_pos h64,if_pos hn.1,j1_f q k neg n s l _ hs]
   have e:shr .u64 n (bitsF k)=n / 2 ^ (bitsF k).toNat:=by
    unfold shr
    congr 2
    show min (bitsF k).toNat 64=_
    omega
   rw [e]
   by_cases hz:n / 2 ^ (bitsF k).toNat=0
   · rw [if_neg (by simp [hz]),if_neg (c:=bitsF k<64∧n / 2 ^ (bitsF k).toNat ≠ 0) (fun h=>h.2 hz)]
   · rw [if_pos (by simpa using hz),if_pos ⟨h64,hz⟩]
 · rw [if_neg h64,j1_f q k neg n s l _ hs,if_neg (by simp),if_neg (c:=bitsF k<64∧_) (fun h=>h64 h.1)]
theorem one_f (k:Int) (neg:Bool) (n:Int) (s:ByteArray) (l:List T) (hs:s.size≤9223372036854775807):P.Qan.f 3 k neg n s l=some (oneF k neg n s l):=by
 unfold P.Qan.f oneF
 by_cases h1:k<0
 · rw [if_pos h1,if_pos (.inl h1),j0_f 0 k neg n s l true hs,if_pos rfl]
 rw [if_neg h1]
 by_cases h2:k > 14
 · rw [if_pos h2,if_pos (.inr (.inl h2)),j0_f 0 k neg n s l true hs,if_pos rfl]
 rw [if_neg h2]
 by_cases h3:neg=true
 · rw [if_pos h3]
   by_cases h4:k=4
   · rw [if_pos h4,j0_f 0 k neg n s l false hs,if_neg (by simp),if_neg (c:=k<0 ∨ _) (fun h=>by rcases h with h | h | h;exact h1 h;exact h2 h;exact h.2.1 h4)]
   · rw [if_neg h4,j0_f 0 k neg n s l _ hs]
     by_cases h5:k=5
     · rw [if_neg (by simp [h5]),if_neg (c:=k<0 ∨ _) (fun h=>by rcases h with h | h | h;exact h1 h;exact h2 h;exact h.2.2 h5)]
     · rw [if_pos (by simpa using h5),if_pos (c:=k<0 ∨ _) (.inr (.inr ⟨h3,h4,h5⟩))]
 · rw [if_neg h3,j0_f 0 k neg n s l false hs,if_neg (by simp),if_neg (c:=k<0 ∨ _) (fun h=>by rcases h with h | h | h;exact h1 h;exact h2 h;exact h3 h.1)]
theorem one_any (t:T) (a:Option Addr) (c:Nat) (W:World) (P':Nat→Prop) (hT:Tree W P' t a) (hc:t.f4.length≤c) (hs:t.f3.size≤9223372036854775807) :
 Calls Tryz.prog 34 #[.agg (five t a c)] W (Ret (.bool (oneF t.f0 t.f1 t.f2 t.f3 t.f4)) W) :=
 P.Qan.calls 3 t.f0 t.f1 t.f2 t.f3 a c t.f4 _ W (tree_C hT) hc (one_f _ _ _ _ _ hs)
def numBytes:Nat→Int→List Int
 | 0,_=>[]
 | k+1,n=>(n / 256 ^ k % 256) :: numBytes k n
def putF (m n:Int):List Int :=
 if n<24 then [m*32+n]
 else if n<256 then (m*32+24) :: numBytes 1 n
 else if n<65536 then (m*32+25) :: numBytes 2 n
 else if n<4294967296 then (m*32+26) :: numBytes 4 n
 else (m*32+27) :: numBytes 8 n
theorem l0_f (n:Int):∀ (j q:Nat) (x:List Int),j≤8→x.length+j≤100→P.Qax.l0 (j+1+q) n x ((j:Int) - 1)=some (x ++ numBytes j n)
 | 0,q,x,_,_=>by
   rw [show 0+1+q=q+1 by omega,P.Qax.l0,if_neg (by simp)]
   simp [numBytes]
 | j+1,q,x,hj,hx=>by
   have e1:((j+1:Nat):Int) - 1=(j:Int):=by omega
   have hw:wrap64 (8*(j:Int))=8*(j:Int):=by unfold wrap64;omega
   have hw2:wrap64 ((j:Int) - 1)=(j:Int) - 1:=by unfold wrap64;omega
   have hsh:shr .u64 n (8*(j:Int))=n / 256 ^ j:=by
    unfold shr
    have:min (8*(j:Int)).toNat IntKind.u64.bits=8*j:=by show min (8*(j:Int)).toNat 64=_;omega
    rw [this,Int.pow_mul]
    rfl
   rw [show j+1+1+q=(j+1+q)+1 by omega,P.Qax.l0,e1,hw,hw2,hsh,if_pos (by omega),if_pos (by omega),if_pos (by omega)]
   rw [l0_f n j q (x ++ [n / 256 ^ j % 256]) (by omega) (by simp;omega)]
   simp [numBytes]
theorem or_small (m n:Nat) (hm:m≤6) (hn:n<24):Go.bits .or .u8 ((wrap64 ((m:Int)*32)) % 256) ((n:Int) % 256)=(m:Int)*32+n:=by
 have:∀ (m:Fin 7) (n:Fin 24),Go.bits .or .u8 ((wrap64 ((m.val:Int)*32)) % 256) ((n.val:Int) % 256)=(m.val:Int)*32+n.val:=by decide +kernel
 exact this ⟨m,by omega⟩ ⟨n,hn⟩
theorem or_24 (m s:Nat) (hm:m≤6) (hs:s≤3):(wrap64 ((Go.bits .or .i64 (wrap64 ((m:Int)*32)) 24)+(s:Int))) % 256=(m:Int)*32+24+s:=by
 have:∀ (m:Fin 7) (s:Fin 4),(wrap64 ((Go.bits .or .i64 (wrap64 ((m.val:Int)*32)) 24)+(s.val:Int))) % 256=(m.val:Int)*32+24+s.val:=by decide +kernel
 exact this ⟨m,by omega⟩ ⟨s,by omega⟩
theorem write_f (m s:Nat) (n:Int) (hm:m≤6) (hs:s≤3):P.Qax.f 20 m n s=some (((m:Int)*32+24+s) :: numBytes (2 ^ s) n):=by
 unfold P.Qax.f
 rw [if_neg (by omega),if_pos (by omega),or_24 m s hm hs]
 have hsh:wrap64 (shl .i64 1 (s:Int) - 1)=((2 ^ s:Nat):Int) - 1:=by
  match s,hs with
  | 0,_=>decide +kernel
  | 1,_=>decide +kernel
  | 2,_=>decide +kernel
  | 3,_=>decide +kernel
 have h8:2 ^ s≤8:=by
  match s,hs with
  | 0,_=>decide +kernel
  | 1,_=>decide +kernel
  | 2,_=>decide +kernel
  | 3,_=>decide +kernel
 rw [hsh,show 20=2 ^ s+1+(19 - 2 ^ s) by omega,l0_f n (2 ^ s) _ _ h8 (by simp;omega)]
 rfl
theorem put_f (m:Nat) (n:Int) (hm:m≤6) (h0:0≤n) (h1:n<18446744073709551616):P.head_Put.f 20 m n=some (putF m n,0):=by
 unfold P.head_Put.f P.head_may.f putF
 rw [if_neg (by omega),if_neg (by omega),if_neg (by omega)]
 show ((P.head_size.f n).bind _)=_
 unfold P.head_size.f
 by_cases h24:n<24
 · rw [if_pos h24,if_pos h24]
   simp only [Option.bind_some]
   unfold P.Qax.f
   rw [if_pos rfl]
   have:=or_small m n.toNat hm (by omega)
   rw [show ((n.toNat:Nat):Int)=n by omega] at this
   rw [this]
   rfl
 rw [if_neg h24,if_neg h24]
 by_cases h8:n / 256=0
 · have h8':n<256:=by omega
   have hw:=write_f m 0 n hm (by omega)
   rw [if_pos h8,if_pos h8']
   simp only [Option.bind_some]
   rw [show ((0:Nat):Int)=0 from rfl] at hw
   rw [hw]
   simp
 have h8':¬ n<256:=by omega
 rw [if_neg h8,if_neg h8']
 by_cases h16:n / 65536=0
 · have h16':n<65536:=by omega
   have hw:=write_f m 1 n hm (by omega)
   rw [if_pos h16,if_pos h16']
   simp only [Option.bind_some]
   rw [show ((1:Nat):Int)=1 from rfl] at hw
   rw [hw]
   simp;omega
 have h16':¬ n<65536:=by omega
 rw [if_neg h16,if_neg h16']
 by_cases h32:n / 4294967296=0
 · have h32':n<4294967296:=by omega
   have hw:=write_f m 2 n hm (by omega)
   rw [if_pos h32,if_pos h32']
   simp only [Option.bind_some]
   rw [show ((2:Nat):Int)=2 from rfl] at hw
   rw [hw]
   simp;omega
 have h32':¬ n<4294967296:=by omega
 have hw:=write_f m 3 n hm (by omega)
 rw [if_neg h32,if_neg h32']
 simp only [Option.bind_some]
 rw [show ((3:Nat):Int)=3 from rfl] at hw
 rw [hw]
 simp;omega
open Go.RowKit
structure Gb (w:World) where
 wd:World
 below:Below w.heap.size w wd
instance (w:World):Inhabited (Gb w):=⟨⟨w,Below.refl _ w⟩⟩
theorem Qal {P:Program} {id:Nat} {Q:Exit→Act→World→Prop} {a:Act} {w:World} {l:List Oper} (hm:P.follows .mixedOrders=true) (hB:Region.lexB .any l.toArray=true)
 (h : wpQuiet P l.toArray (fun w' => ∃ p : Gb w, w' = p.wd) (fun a' => ∀ w', (∃ p : Gb w, w' = p.wd) → Q .normal a' w') l a) : (Code.region id l.toArray true).wp P Q a w :=
 wp_region_quiet (C:=fun w'=>∃ p:Gb w,w'=p.wd) hm hB ⟨⟨w.drew,(Below.refl _ w).drew⟩,rfl⟩ (by simpa using h)
theorem Calls.gb_of {P:Program} {f:FuncId} {args:Array Value} {w:World} {p:Gb w} {v:Value} (h:Calls P f args p.wd (Ret v p.wd)):Calls P f args p.wd fun e w''=>e=.returned v∧∃ p':Gb w,w''=p'.wd :=
 h.mono fun e w' ⟨he, hb⟩ => ⟨he, ⟨w', p.below.trans (hb.mono p.below.size)⟩, rfl⟩
theorem Gb.cell {w:World} (p:Gb w) {a:Addr} {v:Value} (h:w.cell? a=some v):p.wd.cell? a=some v:=(p.below.cell (block_lt_of_cell h)).trans h
set_option maxRecDepth 100000 in
set_option maxHeartbeats 8000000 in
theorem same_any:∀ (t:T) (a b:Option Addr) (c d:Nat) (W:World) (P:Nat→Prop),(∀ g,P g→g<W.heap.size)→Tree W P t a→Tree W P t b→bulk t≤8796093022208 →
 Calls Tryz.prog 13 #[.agg #[.int .i64 t.f0,.bool t.f1,.int .u64 t.f2,.string t.f3,.slice a t.f4.length c],.agg #[.int .i64 t.f0,.bool t.f1,.int .u64 t.f2,.string t.f3,.slice b t.f4.length d]] W (Ret (.bool true) W):=by
 intro t
 induction t using T.ind with
 | h k neg n s l ih =>
   intro a b c d w P hP hTa hTb hb
   have hlb:=bulkL_len l
   simp only [bulk] at hb
   have hA:=(Qb1 hTa).2
   have hB:=(Qb1 hTb).2
   dsimp only at hA hB ⊢
   have R0:=(Row5.new w (.int .i64 k) (.bool neg) (.int .u64 n) (.string s) (.slice a l.length c)).alloc (.cells #[.int .i64 k,.bool neg,.int .u64 n,.string s,.slice b l.length d] 25)
   have R1:=Row5.new (w.alloc (.cells #[.int .i64 k,.bool neg,.int .u64 n,.string s,.slice a l.length c] 25)) (.int .i64 k) (.bool neg) (.int .u64 n) (.string s) (.slice b l.length d)
   rw [World.size_alloc] at R1
   have hb1:=((Below.refl w.heap.size w).alloc (Nat.le_refl _) (.cells #[.int .i64 k,.bool neg,.int .u64 n,.string s,.slice a l.length c] 25)).alloc (by simp) (.cells #[.int .i64 k,.bool neg,.int .u64 n,.string s,.slice b l.length d] 25)
   obtain ⟨W1,hW1⟩:∃ W1,(w.alloc (.cells #[.int .i64 k,.bool neg,.int .u64 n,.string s,.slice a l.length c] 25)).alloc (.cells #[.int .i64 k,.bool neg,.int .u64 n,.string s,.slice b l.length d] 25)=W1:=⟨_,rfl⟩
   rw [hW1] at R0 R1 hb1
   obtain ⟨q,hq⟩:∃ q,w.heap.size=q:=⟨_,rfl⟩
   rw [hq] at R0 R1
   have c0:=R0.c0
   have c1:=R0.c1
   have c2:=R0.c2
   have c3:=R0.c3
   have c4:=R0.c4
   have d0:=R1.c0
   have d1:=R1.c1
   have d2:=R1.c2
   have d3:=R1.c3
   have d4:=R1.c4
   have HR0:=Lib.hid R0
   have HR1:=Lib.hid R1
   have HB1:=Lib.hid hb1
   have HA:=Lib.hid hA
   have HBB:=Lib.hid hB
   have HIH:=Lib.hid ih
   have HP:=Lib.hid hP
   clear hTa hTb hA hB R0 R1 hb1 ih hP
   go_enter Tryz.func13,Tryz.ntmps13
   go_wp2
   go_loopw [5] (fun i wr=>∃ j:Nat,j≤l.length∧i=.int .i64 j∧Hid (Below W1.heap.size W1 wr)) (fun i _=>l.length - (intOf i).toNat)
   case atStart=>exact ⟨0,by omega,rfl,Lib.hid (Below.refl _ _)⟩
   case round =>
    clear c0 c1 c2 c3 c4 d0 d1 d2 d3 d4
    obtain ⟨j,hj,rfl,HJ⟩:=hrel
    rename World=>wr
    have S0:=HR0.out.below HJ.out
    have S1:=HR1.out.below HJ.out
    have c4:=S0.c4
    have d4:=S1.c4
    by_cases hlt:j<l.length
    · rcases HA.out with e | ⟨ga,oa,e,hga,hTA⟩
      · rw [e] at hlt;simp at hlt
      rcases HBB.out with e' | ⟨gb, ob, e', hgb, hTB⟩
      · rw [e'] at hlt;simp at hlt
      subst e
      subst e'
      obtain ⟨x,xa,xc,hx,a0,a1,a2,a3,a4,hxc,hxT⟩:=Qbm hTA hlt
      obtain ⟨y,ya,yc,hy,b0,b1,b2,b3,b4,hyc,hyT⟩:=Qbm hTB hlt
      obtain rfl:x=y:=by rw [hx] at hy;exact Option.some.inj hy
      have hgl:=HP.out ga hga
      have hgl':=HP.out gb hgb
      have hbw:Below w.heap.size w wr:=HB1.out.trans (HJ.out.mono HB1.out.size)
      have l0:∀ p:Gb wr,p.wd.cell? ⟨q,4,none⟩=some (.slice (some ⟨ga,oa,none⟩) l.length c):=fun p=>p.cell c4
      have l1:∀ p:Gb wr,p.wd.cell? ⟨q+1,4,none⟩=some (.slice (some ⟨gb,ob,none⟩) l.length d):=fun p=>p.cell d4
      have m0:∀ p:Gb wr,p.wd.cell? ⟨ga,oa+j*5,none⟩=some (.int .i64 x.f0):=fun p=>p.cell ((hbw.cell (p:=⟨ga,oa+j*5,none⟩) hgl).trans a0)
      have m1:∀ p:Gb wr,p.wd.cell? ⟨ga,oa+j*5+1,none⟩=some (.bool x.f1):=fun p=>p.cell ((hbw.cell (p:=⟨ga,oa+j*5+1,none⟩) hgl).trans a1)
      have m2:∀ p:Gb wr,p.wd.cell? ⟨ga,oa+j*5+2,none⟩=some (.int .u64 x.f2):=fun p=>p.cell ((hbw.cell (p:=⟨ga,oa+j*5+2,none⟩) hgl).trans a2)
      have m3:∀ p:Gb wr,p.wd.cell? ⟨ga,oa+j*5+3,none⟩=some (.string x.f3):=fun p=>p.cell ((hbw.cell (p:=⟨ga,oa+j*5+3,none⟩) hgl).trans a3)
      have m4:∀ p:Gb wr,p.wd.cell? ⟨ga,oa+j*5+4,none⟩=some (.slice xa x.f4.length xc):=fun p=>p.cell ((hbw.cell (p:=⟨ga,oa+j*5+4,none⟩) hgl).trans a4)
      have n0:∀ p:Gb wr,p.wd.cell? ⟨gb,ob+j*5,none⟩=some (.int .i64 x.f0):=fun p=>p.cell ((hbw.cell (p:=⟨gb,ob+j*5,none⟩) hgl').trans b0)
      have n1:∀ p:Gb wr,p.wd.cell? ⟨gb,ob+j*5+1,none⟩=some (.bool x.f1):=fun p=>p.cell ((hbw.cell (p:=⟨gb,ob+j*5+1,none⟩) hgl').trans b1)
      have n2:∀ p:Gb wr,p.wd.cell? ⟨gb,ob+j*5+2,none⟩=some (.int .u64 x.f2):=fun p=>p.cell ((hbw.cell (p:=⟨gb,ob+j*5+2,none⟩) hgl').trans b2)
      have n3:∀ p:Gb wr,p.wd.cell? ⟨gb,ob+j*5+3,none⟩=some (.string x.f3):=fun p=>p.cell ((hbw.cell (p:=⟨gb,ob+j*5+3,none⟩) hgl').trans b3)
      have n4:∀ p:Gb wr,p.wd.cell? ⟨gb,ob+j*5+4,none⟩=some (.slice ya x.f4.length yc):=fun p=>p.cell ((hbw.cell (p:=⟨gb,ob+j*5+4,none⟩) hgl').trans b4)
      have hxm:=List.mem_of_getElem? hx
      have hxb:=bulkL_mem hxm
      have HCC:=Lib.hid (fun p:Gb wr=>HIH.out x hxm xa ya xc yc p.wd P (fun g hg=>by have:=HP.out g hg;have:=hbw.size;have:=p.below.size;omega)
       (Qaq (fun _ h=>h) (fun g hg=>(hbw.trans (p.below.mono hbw.size)).block g (HP.out g hg)) hxT) (Qaq (fun _ h=>h) (fun g hg=>(hbw.trans (p.below.mono hbw.size)).block g (HP.out g hg)) hyT) (by omega))
      have hj0:(0:Int)≤(j:Int):=by omega
      have hj1:(j:Int)<(l.length:Int):=by omega
      have wj:IntKind.i64.wrap ((j:Int)+1)=((j+1:Nat):Int):=by rw [IntKind.wrap_i64];omega
      clear a0 a1 a2 a3 a4 b0 b1 b2 b3 b4 hTA hTB hxT hyT hx hy hxm S0 S1
      go_wp2_with fail
      refine Qal (by kernel_rfl) (by kernel_rfl) ?_
      quiet_step (fail)
      quiet_step (fail)
      quiet_step (fail)
      quiet_step (fail)
      quiet_step (fail)
      quiet_step (fail)
      quiet_step (fail)
      quiet_step (fail)
      quiet_step (fail)
      quiet_step (fail)
      quiet_step ((go_at_call 13;refine Calls.gb_of (HCC.out _)))
      repeat (quiet_step (fail))
      refine wpQuiet_nil ?_
      intro _ hw'
      obtain ⟨gq,hw''⟩:=hw'
      subst hw''
      have HB2:=Lib.hid (HJ.out.trans (gq.below.mono HJ.out.size))
      clear l0 l1 m0 m1 m2 m3 m4 n0 n1 n2 n3 n4
      go_wp2
      refine ⟨?rel,?measure⟩
      case rel=>exact ⟨j+1,by omega,rfl,HB2⟩
      case measure=>simp [intOf];omega
    · obtain rfl:j=l.length:=by omega
      have hlt2:¬ ((l.length:Int)<(l.length:Int)):=by omega
      go_wp2
      go_ret
      exact ⟨rfl,HB1.out.trans (HJ.out.mono HB1.out.size)⟩
end Go.Proofs.YtfmceonbejlhlaaGreatDoor
