/-
  WholeChain: true at every two numbers and every tree whose reading is of bulk at most 1048576, with the three tables of Go's library as they are laid.
  The row of WholeChainUptoSaid over the walk, and the tied card.
-/
import Derived.Test.YtfmceonbejlhlaaGreatDoorCards
import Derived.Test.YtfmceonbejlhlaaGreatDoorTie
import Derived.WalkKit
import Derived.ProofKit
import Derived.OpenShut
import Derived.ChangeOld
import Derived.Below
import Derived.LaidMore
import Derived.Lib.LaidTab
import Derived.JoinedCond
import Derived.Deep.DeepHandedRow
import Derived.Deep.DeepWitnessRowRef
import Derived.Test.YtfmceonbejlhlaaGreatDoorMWs41
namespace Go.Proofs.YtfmceonbejlhlaaGreatDoor.wholeChainUpto
open Go.ChangeShapes Go.WideShapes Go.ChangeAt Go.RowKit
set_option linter.unusedVariables false
theorem own:ownKnob Tryz.prog.godebug=none:=by kernel_rfl
theorem laidOut:laidOutB Tryz.prog=true:=by kernel_rfl
theorem tabIs_of_vars {P:Program} {W:World} {name:String} {k:IntKind} {zs:List Int} {rest:List (String × DataW Unit)} {ps:List MemPlace} {g:Nat} {t e:TypeId} {n:Nat}
 (hg:P.globalNamed name=some g) (hty:(P.globals[g]?).map (·.type)=some t) (ht:P.underlying t=some (.array n e)) (he:P.underlying e=some (.int k)) (hce:P.cellsOf e=1) (hct:P.cellsOf t=n)
 (h:DataW.LaidVars P W ((name,Lib.tabData k zs) :: rest) ps):Lib.TabIs P W name k zs:=by
 obtain ⟨g', t', cs, fuel, p, q, hg', ht', hvar, hd, _, _⟩ := h
 obtain rfl:=Option.some.inj (hg.symm.trans hg')
 obtain rfl:=Option.some.inj (hty.symm.trans ht')
 unfold Lib.TabIs
 rw [hvar,← Lib.cells_of_tab ht he hce hct hd]
theorem vars_tail {P:Program} {W:World} {a:String × DataW Unit} {rest:List (String × DataW Unit)} {ps:List MemPlace} (h:DataW.LaidVars P W (a :: rest) ps):∃ q,DataW.LaidVars P W rest q:=by
 obtain ⟨_,_,_,_,_,q,_,_,_,_,h,_⟩:=h
 exact ⟨q,h⟩
def tab64:List Int:=Lib.deBruijn64tab.map fun (n:Nat)=>(n:Int)
set_option maxRecDepth 100000 in
theorem tabs_of {W:World} (h:laidMetH Tryz.prog Rows.wholeChainUptoRow.laid W):Tabs W:=by
 have h' : laidMet Tryz.prog [("math/bits.deBruijn32tab", Rows.laid_math_bits_deBruijn32tab), ("math/bits.deBruijn64tab", Lib.tabData .u8 tab64), ("internal/strconv.uint64pow10", Lib.tabData .u64 Lib.pow10Tab)] W := h
 obtain ⟨ps,hv,_⟩:=h'
 obtain ⟨q,hv1⟩:=vars_tail hv
 obtain ⟨q2,hv2⟩:=vars_tail hv1
 have e1 : Lib.TabIs Tryz.prog W "math/bits.deBruijn64tab" .u8 tab64 := tabIs_of_vars (g := 5) (t := 328) (e := 5) (n := 64) (by kernel_rfl) (by kernel_rfl) (by kernel_rfl) Tryz.underlying5 (by kernel_rfl) (by kernel_rfl) hv1
 have e2:P10 W:=tabIs_of_vars (g:=3) (t:=324) (e:=22) (n:=20) (by kernel_rfl) (by kernel_rfl) (by kernel_rfl) (by kernel_rfl) (by kernel_rfl) (by kernel_rfl) hv2
 refine ⟨e2,?_⟩
 exact e1.cell (g:=5) (by kernel_rfl) 15 (by decide)
set_option maxRecDepth 100000 in
theorem open_arg {H:Type} {enc:TypeId × Value→H} {W:World} {b:Nat} {v:Value} {d:DataW H} {p:List MemPlace} (hval:Value.okWide Tryz.prog W .any b 25 v) (h0:DataW.Trod enc Tryz.prog W 0 (fun _=>true) true 25 v d p) :
 ∃ t a c,v=.agg #[.int .i64 t.f0,.bool t.f1,.int .u64 t.f2,.string t.f3,.slice a t.f4.length c]∧t.f4.length≤c∧Tree W (·<W.heap.size) t a∧Wf t∧bulk t≤Rows.uptoBulk d:=by
 obtain ⟨f0,f1,f2,f3,f4,hu,_⟩:=fields25
 unfold Value.okWide at hval
 rw [hu] at hval
 obtain ⟨cs,rfl,_,_⟩:=hval
 obtain ⟨fuel,hf⟩:=h0
 obtain ⟨t,a,c,hcs,hc,hT,hw,hb⟩:=open_val fuel _ _ hf
 refine ⟨t,a,c,?_,hc,hT,hw,hb⟩
 simp only [Value.cells] at hcs
 have:cs=five t a c:=Array.toList_inj.1 hcs
 rw [this]
 rfl
set_option maxRecDepth 100000 in
theorem contract (H:Type) (enc:TypeId × Value→H) (W:World) (base:Nat) (args:Array Value) (ds gs:List (DataW H)) (before:List MemPlace)
 (hval:∀ (j:Nat) t v,Tryz.f4.params[j]? = some t→args[j]? = some v→Value.okWide Tryz.prog W .any base t v)
 (hW:DataW.Whole enc Tryz.prog Tryz.f4.params.toList Rows.wholeChainSpec.vars false W args.toList ds gs before) (hk:Rows.uptoSmall H (ds ++ gs)=true) (ht:Tabs W) :
 Calls Tryz.prog 4 args W fun e W'=>∃ v,e=.returned v∧Rows.wholeChainSpec.post enc Tryz.prog Tryz.f4 false true false false W args v W':=by
 have hW':=hW
 obtain ⟨p,q,hA0,hV,rfl,hfz,hnd⟩:=hW
 have hA:DataW.TrodAll enc Tryz.prog W 0 (fun _=>true) true Tryz.f4.params.toList args.toList ds p:=hA0
 rw [Tryz.params4] at hA hval
 obtain ⟨v0,v1,v2,d0,d1,d2,p0,p1,p2,rfl,rfl,rfl,h0,h1,h2⟩:=trodAll_three hA
 obtain ⟨rfl,rfl⟩:=trodVars_none hV
 have hb:=of_decide_eq_true hk
 simp only [List.cons_append,List.nil_append,Rows.uptoBulkAll] at hb
 obtain ⟨x,rfl,rfl,rfl,wx⟩:=open_int Tryz.underlying5 (hval 0 5 v0 rfl rfl) h0
 obtain ⟨y,rfl,rfl,rfl,wy⟩:=open_int Tryz.underlying5 (hval 1 5 v1 rfl rfl) h1
 obtain ⟨t,a,c,hv,hc,hT,hw,hbt⟩:=open_arg (hval 2 25 v2 rfl rfl) h2
 clear hA0 hval
 simp only [List.append_nil,List.nil_append] at hW'
 have hlt:∀ x ∈ p2,x.block<W.heap.size:=fun x hx=>by simpa using hW'.lt x hx
 have hargs:∀ (W':World),Below W.heap.size W W'→DataW.Trod enc Tryz.prog W' 0 (fun b=>decide (b<W.heap.size)) true 25 v2 d2 p2 :=
  fun W' hn=>Below.trod laidOut (by kernel_rfl) (of_decide_eq_true (by kernel_rfl)) h2 hn hlt
 subst hv
 obtain ⟨x0,x1⟩:0≤x∧x≤255:=by
  simp [Lit.wf,IntKind.min,IntKind.max,IntKind.signed,IntKind.bits] at wx
  omega
 obtain ⟨y0,y1⟩:0≤y∧y≤255:=by
  simp [Lit.wf,IntKind.min,IntKind.max,IntKind.signed,IntKind.bits] at wy
  omega
 refine (wc_any x y x0 y0 t a c W _ (fun _ h=>h) hT hc (by omega) hw ht).mono fun e W' ⟨he,bel⟩=>?_
 subst he
 exact ⟨_, rfl, _, _, _, [], _, [], hW', trodAll_mk1 (shut_bool Tryz.underlying4 _), (by have h3 := trodAll_mk3 (shut_int (enc := enc) (w := W') (base := 0) (spare := fun b => decide (b < W.heap.size)) (held := true) Tryz.underlying5 wx) (shut_int (enc := enc) (w := W') (base := 0) (spare := fun b => decide (b < W.heap.size)) (held := true) Tryz.underlying5 wy) (hargs W' bel); simp only [List.nil_append] at h3; exact h3), rfl, bel.frame _, fun h => by cases h⟩
def arg0:Array Value:=#[.int .u8 0,.int .u8 0,.agg #[.int .i64 0,.bool false,.int .u64 0,.string ByteArray.empty,.slice none 0 0]]
theorem laid_met (os:Os):laidMetH Tryz.prog Rows.wholeChainUptoRow.laid ((World.doorLaid Tryz.prog 400 os).forCall (fun _ _=>0) ⟨#[],arg0,[]⟩).memory :=
 laidMetH_of_parts3 (fuel:=8) (laidMet_of_run' 8 (by kernel_rfl) (by kernel_rfl)) (by kernel_rfl) (by kernel_rfl)
theorem reads (os:Os) {H:Type} (enc:TypeId × Value→H):∃ places,DataW.whole enc Tryz.prog ((World.doorLaid Tryz.prog 400 os).forCall (fun _ _=>0) ⟨#[],arg0,[]⟩).memory Tryz.f4.params.toList Rows.wholeChainSpec.vars false arg0.toList 8=some ([.lit (.int .u8 0),.lit (.int .u8 0),.agg [.lit (.int .i64 0),.lit (.bool false),.lit (.int .u64 0),.lit (.string []),.nil]],[],places) :=
 ⟨[],by kernel_rfl⟩
set_option maxRecDepth 100000 in
theorem lifted (os:Os) (started:os.Started) (H:Type) (enc:TypeId × Value→H) (F:Stop.Interp) :
 ReturnsInHanded {} Tryz.checked os 4 .any ((Rows.OpenSpec.upto Rows.wholeChainSpec).preRow enc Tryz.prog Tryz.f4 Rows.wholeChainUptoRow.domain false Rows.wholeChainUptoRow.laid) (((Rows.OpenSpec.upto Rows.wholeChainSpec).at F).post enc Tryz.prog Tryz.f4 false true false false):=by
 obtain ⟨places,hx⟩:=reads os enc
 refine returnsInHanded_of_row (C:=Tryz.checked) (s:=Rows.OpenSpec.upto Rows.wholeChainSpec) own started (by kernel_rfl) Tryz.func4
  (witness_row_atRef (enc:=enc) (C:=Tryz.checked) false (World.doorLaid Tryz.prog 400 os) arg0 rfl (by kernel_rfl) (by kernel_rfl) (by kernel_rfl)
    (OpenSpec.preRow_of_cond 8 hx (by kernel_rfl) (fun k hk=>by cases hk;kernel_rfl) (by kernel_rfl) (laid_met os))) ?_
 intro W base args ds gs before hval hW _ hcond _ hlaid _ _
 exact contract H enc W base args ds gs before hval hW (hcond _ rfl) (tabs_of hlaid)
theorem said:Rows.WholeChainUptoSaid :=
 OpenClaim.holds_of_cond 4 Tryz.f4 rfl rfl rfl rfl rfl rfl rfl ⟨rfl,rfl,rfl,rfl,rfl⟩ rfl rfl rfl rfl rfl (by kernel_rfl) Tryz.func4 (by kernel_rfl)
  (of_decide_eq_true (by kernel_rfl)) (by unfold Func.isWrapper;first | (rw [if_pos (by decide +kernel)];kernel_rfl) | (rw [if_neg (by decide +kernel)];exact ⟨rfl,rfl⟩))
  (fun os started H enc _ F=>by rw [OpenClaim.pre_eq_preRow];exact lifted os started H enc F)
theorem plain (f : FuncId) (fn : Func) (hf : Tryz.pinned.checked.prog.funcNamed "glossator/glossatortop.WholeChain" = some f) (hfn : Tryz.pinned.checked.prog.funcs[f]? = some fn) :
 true=Tryz.pinned.checked.prog.looks []∧∀ (j:Nat) t,fn.params[j]? = some t→Tryz.pinned.checked.prog.wantsStandIn t=false:=by
 obtain rfl : f = 4 := Option.some.inj ((show Tryz.prog.funcNamed "glossator/glossatortop.WholeChain" = some 4 by kernel_rfl).symm.trans hf) |>.symm
 obtain rfl:fn=Tryz.f4:=(Option.some.inj (Tryz.func4.symm.trans hfn)).symm
 refine ⟨by kernel_rfl,fun j t ht=>?_⟩
 rw [Tryz.params4] at ht
 obtain rfl | rfl:t=5 ∨ t=25:=by simpa using Array.mem_of_getElem? ht
 · exact (show Tryz.prog.wantsStandIn 5=false by kernel_rfl)
 · exact (show Tryz.prog.wantsStandIn 25=false by kernel_rfl)
theorem card:Rows.WholeChainUptoCardSaid :=
 Claim7.holds_tied_plain_at .later [] _ _ _ _ said (fun _ h=>by cases h) (by kernel_rfl) (fun _ h=>by cases h) wholeChainUpto_row_tie rfl ⟨rfl,rfl⟩ (by kernel_rfl) rfl plain (by kernel_rfl)
#print axioms card
end Go.Proofs.YtfmceonbejlhlaaGreatDoor.wholeChainUpto
namespace Go.Proofs.YtfmceonbejlhlaaGreatDoor
theorem wholeChainUpto_holds:Rows.WholeChainUptoCardSaid:=wholeChainUpto.card
end Go.Proofs.YtfmceonbejlhlaaGreatDoor
