import Derived.RangeFuncBox
import Derived.StillTailTactics
import Derived.Deep.AppendLies
import Derived.Laws.OwnMore
import Derived.Maps.AppendAt
import Derived.Laws.BytesArg
import Derived.Laws.MakeOwn
import Derived.Test.YtfmceonbejlhlaaGreatDoorMWs25
namespace Go.Proofs.YtfmceonbejlhlaaGreatDoor
open Go.RowKit Go.Proofs.YtfmceonbejlhlaaGreatDoorW.PrintWords Go.Proofs.YtfmceonbejlhlaaGreatDoorW.PrintLast Go.Proofs.YtfmceonbejlhlaaGreatDoorW.PrintMore
set_option linter.unusedVariables false
def letterCells:Array Value:=#[.int .u8 8,.int .u8 98,.int .u8 12,.int .u8 102,.int .u8 10,.int .u8 110,.int .u8 13,.int .u8 114,.int .u8 9,.int .u8 116]
set_option maxHeartbeats 400000 in
set_option maxRecDepth 100000 in
theorem letters_any (w:World) :
 Calls Tryz.prog 170 #[] w fun e w'=>e=.returned (.agg letterCells)∧w'=w.alloc (.cells letterCells 293):=by
 go_enter Tryz.func170,Tryz.ntmps170
 go_wp2_with (refine wpList_store_row rfl 293 (.tmp 0) (.tmp 6) rfl w.heap.size letterCells rfl rfl 293 _ (heap_alloc_last w _) (by kernel_rfl) (by kernel_rfl) (by kernel_rfl) ?_)
 rw [World.setRow_alloc_new]
 exact bodyPost_ret (v:=.agg letterCells) (results_cell_row (p:=0) (ty:=293) rfl _ _ w.heap.size 293 letterCells (0,0) _ rfl (heap_alloc_last w _) Tryz.underlying293 rfl (by kernel_rfl)) rfl ⟨rfl,rfl⟩
def letterPairs:List (Int × Int):=[(8,98),(12,102),(10,110),(13,114),(9,116)]
def letOf:List (Int × Int)→Int→Int
 | [],_=>0
 | p :: t,c=>if p.1=c then p.2 else letOf t c
theorem let_hit {l t:List (Int × Int)} {p:Int × Int} {c:Int} (h:l=p :: t) (h1:p.1=c):letOf l c=p.2:=by subst h;simp [letOf,h1]
theorem let_miss {l t:List (Int × Int)} {p:Int × Int} {c:Int} (h:l=p :: t) (h1:¬ p.1=c):letOf l c=letOf t c:=by subst h;simp [letOf,h1]
theorem drop_let {k:Nat} (hk:k<5) {r:Int × Int} (h:letterPairs.getD k (0,0)=r):letterPairs.drop k=r :: letterPairs.drop (k+1):=by
 subst h
 match k,hk with
 | 0,_=>rfl
 | 1,_=>rfl
 | 2,_=>rfl
 | 3,_=>rfl
 | 4,_=>rfl
set_option maxRecDepth 100000 in
theorem index_let (k:Nat) (hk:k<5) (W:World):(Instr.index 293 (.agg letterCells) (.int .i64 (k:Int))).run Tryz.prog W=.ok (.agg #[.int .u8 (letterPairs.getD k (0,0)).1,.int .u8 (letterPairs.getD k (0,0)).2]) W:=by
 match k,hk with
 | 0,_=>exact (by kernel_rfl:(Instr.index 293 (.agg letterCells) (.int .i64 0)).run Tryz.prog W=.ok (.agg #[.int .u8 8,.int .u8 98]) W)
 | 1,_=>exact (by kernel_rfl:(Instr.index 293 (.agg letterCells) (.int .i64 1)).run Tryz.prog W=.ok (.agg #[.int .u8 12,.int .u8 102]) W)
 | 2,_=>exact (by kernel_rfl:(Instr.index 293 (.agg letterCells) (.int .i64 2)).run Tryz.prog W=.ok (.agg #[.int .u8 10,.int .u8 110]) W)
 | 3,_=>exact (by kernel_rfl:(Instr.index 293 (.agg letterCells) (.int .i64 3)).run Tryz.prog W=.ok (.agg #[.int .u8 13,.int .u8 114]) W)
 | 4,_=>exact (by kernel_rfl:(Instr.index 293 (.agg letterCells) (.int .i64 4)).run Tryz.prog W=.ok (.agg #[.int .u8 9,.int .u8 116]) W)
theorem let_ne {k:Nat} (hk:k<5) {p q:Int} (h:letterPairs.getD k (0,0)=(p,q)):q ≠ 0:=by
 match k,hk with
 | 0,_=>cases h;decide
 | 1,_=>cases h;decide
 | 2,_=>cases h;decide
 | 3,_=>cases h;decide
 | 4,_=>cases h;decide
def hexd (n:Int):Int:=if n<10 then 48+n else 87+n
def escB (c:Int):List Int :=
 if letOf letterPairs c ≠ 0 then [92,letOf letterPairs c] else if c=34 ∨ c=92 then [92,c] else if c≥32 then [c] else [92,117,48,48,hexd (c / 16),hexd (c % 16)]
def OutIs (W:World) (base g:Nat) (xs:List Int):Prop :=
 ∃ v,Boxed W g 26 v∧W.ownsRow base 5 1 v xs.length (xs.map (Value.int .u8))∧base≤g
theorem info5q:(Tryz.prog.info? 5).map (fun i=>(i.zero,i.size,i.bytes))=some (some (.int .u8 0),1,1):=by kernel_rfl
theorem one_u8q (xs:List Int):∀ u ∈ xs.map (Value.int .u8),u.oneCell'=true:=by
 intro u hu
 obtain ⟨n,_,rfl⟩:=List.mem_map.1 hu
 rfl
theorem Qbu {ops:Array Oper} {rest:List Oper} {o:Oper} {a:Act} {Q:Exit→Act→World→Prop} {W:World} (hgd:o.guard=none) (s x:Operand)
 (ho:o.op=.call { callee:=.builtin .append,args:=#[s,x],argTypes:=#[26,26] }) (base:Nat) (v:Value) (n:Nat) (xs ys:List Int) (c:Nat) (hs:a.eval s=v) (q:Nat) (hq:q=W.heap.size)
 (hx:a.eval x=.slice (some ⟨q,0,none⟩) ys.length c) (hown:W.ownsRow base 5 1 v n (xs.map (Value.int .u8))) (hlen:n+ys.length≤140737488355328) (hbase:base≤W.heap.size)
 (h : ∀ v' n' w', n' = n + ys.length → w'.ownsRow base 5 1 v' n' ((xs ++ ys).map (Value.int .u8)) → (W.alloc (.cells (ys.map (Value.int .u8)).toArray 5)).grownBy w' v.ownBlock → wpList Tryz.prog ops Q rest (a.put o.dst v') w') :
 wpList Tryz.prog ops Q (o :: rest) a (W.alloc (.cells (ys.map (Value.int .u8)).toArray 5)):=by
 subst hq
 obtain ⟨i0,hi,hz0,hz1,hz2⟩:=info_parts info5q
 refine wpList_append_own _ hgd s x 26 ho base 5 i0 (.int .u8 0) 1 1 Tryz.underlying26 hi hz0 hz1 hz2 rfl (by decide) v n _ hs (hown.alloc _) ⟨W.heap.size,0,none⟩ ys.length c (ys.map (Value.int .u8)) hx (by simp) ?_ (one_u8q ys) (by unfold maxLen;omega) (by omega) (by simp;omega) ?_
 · intro j u hj
   have e:(⟨W.heap.size,0,none⟩:Addr).add j=⟨W.heap.size,j,none⟩:=by unfold Addr.add;split <;> simp_all
   rw [e,cell_of_row _ _ j _ _ _ (heap_alloc_new W _)]
   simpa using hj
 · intro v' w' hown' hgrow _
   refine h v' _ w' rfl ?_ hgrow
   rw [List.map_append]
   exact hown'
theorem OutIs.appended {W w1:World} {base g n n':Nat} {v v':Value} {xs ys:List Int} (hv:Boxed W g 26 v) (hrow:W.ownsRow base 5 1 v n (xs.map (Value.int .u8))) (hb:base≤W.heap.size) (hg:base≤g)
 (hown':w1.ownsRow base 5 1 v' n' ((xs ++ ys).map (Value.int .u8))) (hgrow:(W.alloc (.cells (ys.map (Value.int .u8)).toArray 5)).grownBy w1 v.ownBlock) :
 Boxed w1 g 26 v∧Boxed (w1.setCell ⟨g,0,none⟩ v') g 26 v'∧(w1.setCell ⟨g,0,none⟩ v').ownsRow base 5 1 v' n' ((xs ++ ys).map (Value.int .u8))∧Below base W (w1.setCell ⟨g,0,none⟩ v'):=by
 obtain ⟨h1,h2,h3,_,h5⟩:=hv.appended (by decide) hrow hb hg hown' hgrow
 exact ⟨h1,h2,h3,h5⟩
theorem ownsRow_len {W:World} {base n:Nat} {v:Value} {xs:List Int} (h:W.ownsRow base 5 1 v n (xs.map (Value.int .u8))):n=xs.length:=by
 have:=h.1
 simp at this
 omega
theorem OutIs.of {W:World} {base g n:Nat} {v:Value} {xs:List Int} (hv:Boxed W g 26 v) (hr:W.ownsRow base 5 1 v n (xs.map (Value.int .u8))) (hg:base≤g):OutIs W base g xs:=by
 obtain rfl:=ownsRow_len hr
 exact ⟨v,hv,hr,hg⟩
theorem Qcc {W:World} {base n:Nat} {v:Value} {xs:List Value} (h:W.ownsRow base 5 1 v n xs) (hn:0<n):∃ b cap,v=.slice (some ⟨b,0,none⟩) n cap:=by
 obtain ⟨k,rfl⟩:∃ k,n=k+1:=⟨n - 1,by omega⟩
 obtain ⟨b,cap,h⟩:=ownsRow_succ h
 exact ⟨b,cap,h⟩
set_option maxRecDepth 100000 in
theorem index_hex (n:Int) (h0:0≤n) (h1:n<16) (W:World):(Instr.index 9 (.string ⟨#[48,49,50,51,52,53,54,55,56,57,97,98,99,100,101,102]⟩) (.int .u8 n)).run Tryz.prog W=.ok (.int .u8 (hexd n)) W:=by
 obtain ⟨k,rfl⟩:∃ k:Nat,n=k:=⟨n.toNat,by omega⟩
 have hk:k<16:=by omega
 revert h0 h1
 intro _ _
 match k,hk with
 | 0,_=>exact (by kernel_rfl:(Instr.index 9 (.string ⟨#[48,49,50,51,52,53,54,55,56,57,97,98,99,100,101,102]⟩) (.int .u8 0)).run Tryz.prog W=.ok (.int .u8 (hexd 0)) W)
 | 1,_=>exact (by kernel_rfl:(Instr.index 9 (.string ⟨#[48,49,50,51,52,53,54,55,56,57,97,98,99,100,101,102]⟩) (.int .u8 1)).run Tryz.prog W=.ok (.int .u8 (hexd 1)) W)
 | 2,_=>exact (by kernel_rfl:(Instr.index 9 (.string ⟨#[48,49,50,51,52,53,54,55,56,57,97,98,99,100,101,102]⟩) (.int .u8 2)).run Tryz.prog W=.ok (.int .u8 (hexd 2)) W)
 | 3,_=>exact (by kernel_rfl:(Instr.index 9 (.string ⟨#[48,49,50,51,52,53,54,55,56,57,97,98,99,100,101,102]⟩) (.int .u8 3)).run Tryz.prog W=.ok (.int .u8 (hexd 3)) W)
 | 4,_=>exact (by kernel_rfl:(Instr.index 9 (.string ⟨#[48,49,50,51,52,53,54,55,56,57,97,98,99,100,101,102]⟩) (.int .u8 4)).run Tryz.prog W=.ok (.int .u8 (hexd 4)) W)
 | 5,_=>exact (by kernel_rfl:(Instr.index 9 (.string ⟨#[48,49,50,51,52,53,54,55,56,57,97,98,99,100,101,102]⟩) (.int .u8 5)).run Tryz.prog W=.ok (.int .u8 (hexd 5)) W)
 | 6,_=>exact (by kernel_rfl:(Instr.index 9 (.string ⟨#[48,49,50,51,52,53,54,55,56,57,97,98,99,100,101,102]⟩) (.int .u8 6)).run Tryz.prog W=.ok (.int .u8 (hexd 6)) W)
 | 7,_=>exact (by kernel_rfl:(Instr.index 9 (.string ⟨#[48,49,50,51,52,53,54,55,56,57,97,98,99,100,101,102]⟩) (.int .u8 7)).run Tryz.prog W=.ok (.int .u8 (hexd 7)) W)
 | 8,_=>exact (by kernel_rfl:(Instr.index 9 (.string ⟨#[48,49,50,51,52,53,54,55,56,57,97,98,99,100,101,102]⟩) (.int .u8 8)).run Tryz.prog W=.ok (.int .u8 (hexd 8)) W)
 | 9,_=>exact (by kernel_rfl:(Instr.index 9 (.string ⟨#[48,49,50,51,52,53,54,55,56,57,97,98,99,100,101,102]⟩) (.int .u8 9)).run Tryz.prog W=.ok (.int .u8 (hexd 9)) W)
 | 10,_=>exact (by kernel_rfl:(Instr.index 9 (.string ⟨#[48,49,50,51,52,53,54,55,56,57,97,98,99,100,101,102]⟩) (.int .u8 10)).run Tryz.prog W=.ok (.int .u8 (hexd 10)) W)
 | 11,_=>exact (by kernel_rfl:(Instr.index 9 (.string ⟨#[48,49,50,51,52,53,54,55,56,57,97,98,99,100,101,102]⟩) (.int .u8 11)).run Tryz.prog W=.ok (.int .u8 (hexd 11)) W)
 | 12,_=>exact (by kernel_rfl:(Instr.index 9 (.string ⟨#[48,49,50,51,52,53,54,55,56,57,97,98,99,100,101,102]⟩) (.int .u8 12)).run Tryz.prog W=.ok (.int .u8 (hexd 12)) W)
 | 13,_=>exact (by kernel_rfl:(Instr.index 9 (.string ⟨#[48,49,50,51,52,53,54,55,56,57,97,98,99,100,101,102]⟩) (.int .u8 13)).run Tryz.prog W=.ok (.int .u8 (hexd 13)) W)
 | 14,_=>exact (by kernel_rfl:(Instr.index 9 (.string ⟨#[48,49,50,51,52,53,54,55,56,57,97,98,99,100,101,102]⟩) (.int .u8 14)).run Tryz.prog W=.ok (.int .u8 (hexd 14)) W)
 | 15,_=>exact (by kernel_rfl:(Instr.index 9 (.string ⟨#[48,49,50,51,52,53,54,55,56,57,97,98,99,100,101,102]⟩) (.int .u8 15)).run Tryz.prog W=.ok (.int .u8 (hexd 15)) W)
def QPutPost (base g:Nat) (xs:List Int) (w:World) (e:Ending) (w':World):Prop:=e=.returned (.tuple #[])∧OutIs w' base g xs∧Below base w w'
set_option maxHeartbeats 8000000 in
set_option maxRecDepth 100000 in
theorem qput_any (c:Int) (h0:0≤c) (h1:c≤255) (base g:Nat) (xs:List Int) (w:World) (hb:base≤w.heap.size) (ho:OutIs w base g xs) (hx:0<xs.length) (hl:xs.length≤70368744177664) :
 Calls Tryz.prog 169 #[.int .u8 c,.pointer (some ⟨g,0,none⟩)] w (QPutPost base g (xs ++ escB c) w):=by
 obtain ⟨v,hv,hrow,hg⟩:=ho
 obtain ⟨n,hn⟩:∃ n,n=xs.length:=⟨_,rfl⟩
 rw [← hn] at hrow
 obtain ⟨b,cap,rfl⟩:=Qcc hrow (by omega)
 have hnl:n≤70368744177664:=by omega
 have hn0:0<n:=by omega
 clear hn hx hl
 obtain ⟨i0,hi,hz0,hz1,hz2⟩:=info_parts info5q
 go_enter Tryz.func169,Tryz.ntmps169
 go_wp2_with (go_at_call 170;refine (letters_any _).mono ?_;rintro e w' ⟨rfl,rfl⟩)
 go_loopw [6] (fun i wr=>∃ k:Nat,k≤5∧i=.int .i64 k∧Hid (letOf letterPairs c=letOf (letterPairs.drop k) c)∧Boxed wr g 26 (.slice (some ⟨b,0,none⟩) n cap)∧wr.ownsRow base 5 1 (.slice (some ⟨b,0,none⟩) n cap) n (xs.map (Value.int .u8))∧base≤wr.heap.size∧Below base w wr) (fun i _=>5 - (intOf i).toNat)
 case atStart=>exact ⟨0,by omega,rfl,rfl,hv.alloc _,hrow.alloc _,by simp;omega,(Below.refl _ _).alloc hb _⟩
 case round =>
  obtain ⟨k,hk,rfl,hlet,hv,hrow,hbw,hB⟩:=hrel
  have hc1:=hv.cell
  by_cases hlt:k<5
  · have i1:=index_let k hlt
    obtain ⟨p,q,hr⟩:∃ p q,letterPairs.getD k (0,0)=(p,q):=⟨_,_,rfl⟩
    have hd:=Lib.hid (drop_let hlt hr)
    have hq:=let_ne hlt hr
    rw [hr] at i1
    clear hr
    dsimp only at i1
    by_cases hpc:p=c
    · have ht:(p == c)=true:=by simpa using hpc
      have hf:=Lib.hid (hlet.out.trans (let_hit hd.out hpc))
      clear hpc
      have hvA:=hv.alloc (.cells #[.int .u8 p,.int .u8 q] 292)
      have hrA:=hrow.alloc (.cells #[.int .u8 p,.int .u8 q] 292)
      have hbA:base≤(wr.alloc (.cells #[.int .u8 p,.int .u8 q] 292)).heap.size:=by simp;omega
      have hcl:=hvA.cell
      go_wp2_with (at_builtin; (refine Qbu rfl (.tmp 13) (.tmp 16) rfl base _ n xs [92, q] 2 rfl (wr.heap.size + 1) (by simp) rfl hrA (show n + 2 ≤ 140737488355328 by omega) hbA ?_); intro v' n' w1 hn' hown' hgrow; obtain ⟨b', cap', rfl⟩ := Qcc hown' (by omega); obtain ⟨hv1, hv2, hr2, hb2⟩ := OutIs.appended hvA hrA hbA hg hown' hgrow; have hc1 := hv1.cell; have hf1 := hv1.frozen; clear hn')
      refine bodyPost_ret (results_none rfl _ _ _) rfl ⟨rfl,?_,(hB.alloc hbw _).trans hb2⟩
      have he:escB c=[92,q]:=by unfold escB;rw [hf.out,if_pos hq]
      rw [he]
      exact OutIs.of hv2 hr2 hg
    · have ht:(p == c)=false:=by simpa using hpc
      have hf:=Lib.hid (hlet.out.trans (let_miss hd.out hpc))
      clear hpc
      go_wp2
      go_roundw
      case rel=>exact ⟨k+1,by omega,by go_num,hf,hv.alloc _,hrow.alloc _,by simp;omega,hB.alloc hbw _⟩
      case measure=>simp [intOf];omega
  · obtain rfl:k=5:=by omega
    have hf:Hid (letOf letterPairs c=0):=hlet.out
    by_cases hq:c=34 ∨ c=92
    · have he:Hid (escB c=[92,c]):=by show escB c=_;unfold escB;rw [hf.out,if_neg (by decide),if_pos hq]
      rcases hq with hq | hq
      all_goals
       have t1:(c == 34)=decide (c=34):=by rw [Bool.eq_iff_iff];simp
       have t2:(c == 92)=decide (c=92):=by rw [Bool.eq_iff_iff];simp
       first
       | (rw [decide_eq_true hq] at t1)
       | (rw [decide_eq_false (show ¬ c=34 by omega)] at t1;rw [decide_eq_true hq] at t2)
       clear hq
       go_wp2_with (first
        | (at_builtin;(refine Qbu rfl (.tmp 27) (.tmp 28) rfl base _ n xs [92] 1 rfl wr.heap.size rfl rfl hrow (show n+1≤140737488355328 by omega) hbw ?_);intro v1 n1 w1 hn1 hown1 hgrow1;replace hn1:n1=n+1:=hn1;obtain ⟨b1,cap1,rfl⟩:=Qcc hown1 (by omega);obtain ⟨hva,hvb,hrb,hbb⟩:=OutIs.appended hv hrow hbw hg hown1 hgrow1;have hca:=hva.cell;have hfa:=hva.frozen;have hcb:=hvb.cell;have hszb:=Nat.le_trans hbw hbb.size;have hn2:n1≤70368744177665:=(by omega);have hn3:0<n1:=(by omega);clear hn1)
        | (at_builtin;(refine Qbu rfl (.tmp 30) (.tmp 32) rfl base _ n1 (xs ++ [92]) [c] 1 rfl w1.heap.size (by simp) rfl hrb (show n1+1≤140737488355328 by omega) hszb ?_);intro v2 n2 w2 hn4 hown2 hgrow2;replace hn4:n2=n1+1:=hn4;obtain ⟨b2,cap2,rfl⟩:=Qcc hown2 (by omega);obtain ⟨hvc,hvd,hrd,hbd⟩:=OutIs.appended hvb hrb hszb hg hown2 hgrow2;have hcc:=hvc.cell;have hfc:=hvc.frozen;clear hn4))
       go_end0
       refine ⟨rfl,?_,(hB.trans hbb).trans hbd⟩
       rw [he.out]
       have:=OutIs.of hvd hrd hg
       rw [List.append_assoc] at this
       exact this
    · have t1:(c == 34)=false:=by simp;omega
      have t2:(c == 92)=false:=by simp;omega
      by_cases h32:32≤c
      · have he:Hid (escB c=[c]):=by show escB c=_;unfold escB;rw [hf.out,if_neg (by decide),if_neg hq,if_pos h32]
        clear hq
        go_wp2_with (at_builtin;(refine Qbu rfl (.tmp 30) (.tmp 32) rfl base _ n xs [c] 1 rfl wr.heap.size rfl rfl hrow (show n+1≤140737488355328 by omega) hbw ?_);intro v1 n1 w1 hn1 hown1 hgrow1;replace hn1:n1=n+1:=hn1;obtain ⟨b1,cap1,rfl⟩:=Qcc hown1 (by omega);obtain ⟨hva,hvb,hrb,hbb⟩:=OutIs.appended hv hrow hbw hg hown1 hgrow1;have hca:=hva.cell;have hfa:=hva.frozen;clear hn1)
        go_end0
        refine ⟨rfl,?_,hB.trans hbb⟩
        rw [he.out]
        exact OutIs.of hvb hrb hg
      · have he:Hid (escB c=[92,117,48,48,hexd (c / 16),hexd (c % 16)]):=by show escB c=_;unfold escB;rw [hf.out,if_neg (by decide),if_neg hq,if_neg h32]
        clear hq
        have h32':c<32:=by omega
        have x1:=index_hex (c / 16) (by omega) (by omega)
        have x2:=index_hex (c % 16) (by omega) (by omega)
        have x3:bits .and .u8 c 15=c % 16:=u8_and15 c h0 (by omega)
        have hrE:((wr.alloc (.cells (List.map (Value.int .u8) [92,117,48,48,hexd (c / 16),hexd (c % 16)]).toArray 5)).drew).ownsRow base 5 1 (.slice (some ⟨b,0,none⟩) n cap) n (xs.map (Value.int .u8)):=(hrow.alloc _).drew
        have hne:∀ j u,(List.map (Value.int .u8) [92,117,48,48,hexd (c / 16),hexd (c % 16)])[j]? = some u→((wr.alloc (.cells (List.map (Value.int .u8) [92,117,48,48,hexd (c / 16),hexd (c % 16)]).toArray 5)).drew).cell? ((⟨wr.heap.size,0,none⟩:Addr).add j)=some u :=
         World.news_of_block (heap_alloc_new wr _)
        have hbE:base≤((wr.alloc (.cells (List.map (Value.int .u8) [92,117,48,48,hexd (c / 16),hexd (c % 16)]).toArray 5)).drew).heap.size:=Nat.le_trans hbw (by simp)
        have HR:=Lib.hid hrE
        have HN:=Lib.hid hne
        have HB:=Lib.hid hbE
        have hcF:∀ ob,(wr.alloc ob).cell? ⟨g,0,none⟩=some (.slice (some ⟨b,0,none⟩) n cap):=fun ob=>(hv.alloc ob).cell
        clear hrE hne hbE
        go_wp2_with (fail)
        go_region_law (refine step_append_lies _ rfl (.tmp 34) (.tmp 41) 26 rfl base 5 i0 (.int .u8 0) 1 1 Tryz.underlying26 hi hz0 hz1 hz2 rfl (by decide) (.slice (some ⟨b,0,none⟩) n cap) n (xs.map (Value.int .u8)) (by simp [Act.eval]) HR.out ⟨wr.heap.size,0,none⟩ 6 6 (List.map (Value.int .u8) [92,117,48,48,hexd (c / 16),hexd (c % 16)]) (by simp [Act.eval]) rfl HN.out (one_u8q _) (by decide) (by unfold maxLen;omega) (by omega) HB.out _ rfl ?_;intro g2 cap2 w2 hown2 hgrow2 _ _;obtain ⟨hva,hvb,hrb,hbb⟩:=OutIs.appended (W:=wr.drew) (ys:=[92,117,48,48,hexd (c / 16),hexd (c % 16)]) hv hrow.drew hbw hg (by rw [List.map_append];exact hown2) hgrow2;have hca:=hva.cell;have hfa:=hva.frozen)
        all_goals
         go_wp2
         go_end0
         refine ⟨rfl,?_,hB.trans ((Below.refl base wr).drew.trans hbb)⟩
         rw [he.out]
         exact OutIs.of hvb hrb hg
def quoteL:List UInt8→List Int
 | []=>[]
 | c :: t=>escB c.toNat ++ quoteL t
theorem quoteL_append (a b:List UInt8):quoteL (a ++ b)=quoteL a ++ quoteL b:=by
 induction a with
 | nil=>rfl
 | cons c t ih=>simp [quoteL,ih]
theorem escB_len (c:Int):1≤(escB c).length∧(escB c).length≤6:=by
 unfold escB;split
 · simp
 · split
   · simp
   · split <;> simp
theorem quoteL_len (s:List UInt8):s.length≤(quoteL s).length∧(quoteL s).length≤6*s.length:=by
 induction s with
 | nil=>simp [quoteL]
 | cons c t ih =>
   have:=escB_len c.toNat
   simp only [quoteL,List.length_append,List.length_cons]
   omega
theorem quoteL_take (s:ByteArray) (k:Nat) (h:k<s.size):quoteL (s.data.toList.take (k+1))=quoteL (s.data.toList.take k) ++ escB s[k].toNat:=by
 have:s.data.toList.take (k+1)=s.data.toList.take k ++ [s[k]]:=by
  rw [List.take_succ_eq_append_getElem (by simpa using h)];rfl
 rw [this,quoteL_append]
 simp [quoteL]
def quo (s:ByteArray):ByteArray:=strOfNums ([34] ++ quoteL s.data.toList ++ [34])
def StrErr (s:ByteArray) (e:Int) (w:World) (en:Ending) (w':World):Prop:=en=.returned (.tuple #[.string s,.int .i64 e])∧Below w.heap.size w w'
theorem conv_own {W:World} {base n b cap:Nat} {xs:List Int} (h:W.ownsRow base 5 1 (.slice (some ⟨b,0,none⟩) n cap) n (xs.map (Value.int .u8))) :
 (convert 26 9 (.slice (some ⟨b,0,none⟩) n cap)).run Tryz.prog W=.ok (.string (strOfNums xs)) W:=by
 have hl:=ownsRow_len h
 refine run_convert_bytes_arg W 26 5 Tryz.underlying26 Tryz.underlying5 b 0 n cap xs hl.symm (fun i hi=>?_) 9 Tryz.underlying9
 have:=h.cellAt i (by omega)
 rw [Nat.zero_add,this,List.getElem?_map,List.getElem?_eq_getElem (by omega),List.getD_eq_getElem?_getD,List.getElem?_eq_getElem (by omega)]
 rfl
set_option maxHeartbeats 4000000 in
set_option maxRecDepth 100000 in
theorem quote_ok (s:ByteArray) (w:World) (hs:s.size≤8796093022208) (h:(chk s).2=0) :
 Calls Tryz.prog 142 #[.string s] w (StrErr (quo s) 0 w):=by
 obtain ⟨n,e,hc⟩:∃ n e,chk s=(n,e):=⟨_,_,rfl⟩
 rw [hc] at h
 obtain rfl:e=0:=h
 have HC:=Lib.hid hc
 clear hc
 obtain ⟨i0,hi,hz0,hz1,hz2⟩:=info_parts info5q
 obtain ⟨A,hA⟩:∃ A,A=madeCells #[.int .u8 0] (s.size+2):=⟨_,rfl⟩
 have hmk:∀ W,(Instr.makeSlice 26 (.int .i64 1) (.int .i64 ((s.size:Int)+2))).run Tryz.prog W=.ok (.slice (some ⟨W.heap.size,0,none⟩) 1 (s.size+2)) (W.alloc (.cells A 5)):=by
  intro W
  have:=run_make (P:=Tryz.prog) W 26 5 i0 (.int .u8 0) Tryz.underlying26 hi hz0 .i64 .i64 1 ((s.size:Int)+2) (by decide) (by omega) (by rw [hz2];omega) (by omega)
  rw [this,hz1]
  have e1:((s.size:Int)+2).toNat=s.size+2:=by omega
  rw [e1,Nat.mul_one,hA]
  rfl
 have hAs:A.size=s.size+2:=by rw [hA];exact size_madeCells _ _
 have hAl:A.toList=List.replicate (s.size+2) (.int .u8 0):=by rw [hA];exact toList_madeCells_one _ _
 have hA0:A[0]? = some (.int .u8 0):=by
  rw [← Array.getElem?_toList,hAl];simp
 have hAS:Hid (A.size=s.size+2):=hAs
 have hAL:Hid (A.toList=List.replicate (s.size+2) (.int .u8 0)):=hAl
 clear hA hAs hAl hi hz0 hz1 hz2
 go_enter Tryz.func142,Tryz.ntmps142
 go_wp2_with (go_at_call 63;refine (check_any s _ (by omega)).mono ?_;rintro en w1 ⟨rfl,hb1⟩;rw [HC.out];dsimp only)
 go_loopw [25] (fun i wr=>∃ k:Nat,k≤s.size∧i=.int .i64 k∧OutIs wr w.heap.size (w1.heap.size+1) ([34] ++ quoteL (s.data.toList.take k))∧Below w.heap.size w wr) (fun i _=>s.size - (intOf i).toNat)
 case atStart =>
  refine ⟨0,by omega,rfl,⟨.slice (some ⟨w1.heap.size,0,none⟩) 1 (s.size+2),?_,?_,?_⟩,?_⟩
  · have:=Boxed.new (w1.alloc (.cells (A.setIfInBounds 0 (.int .u8 34)) 5)) 26 (.slice (some ⟨w1.heap.size,0,none⟩) 1 (s.size+2))
    rw [World.size_alloc] at this
    exact this
  · refine ⟨rfl,.inr ⟨w1.heap.size,s.size+2,A.setIfInBounds 0 (.int .u8 34),rfl,hb1.size,?_,(show 1≤s.size+2 by omega),by unfold maxLen;omega,by simp;exact hAS.out,?_⟩⟩
    · exact (Below.heap_alloc _ _ _ (by simp)).trans (heap_alloc_new _ _)
    · rw [Array.toList_setIfInBounds,hAL.out]
      simp [List.replicate_succ]
      rfl
  · have:=hb1.size;omega
  · exact (hb1.alloc hb1.size _).alloc (by have:=hb1.size;simp;omega) _
 case round =>
  obtain ⟨k,hk,rfl,ho,hb⟩:=hrel
  have hq:=quoteL_len (s.data.toList.take k)
  have hbs:=hb.size
  by_cases hlt:k<s.size
  · have hu:=s[k].toNat_lt
    have hlen:([34] ++ quoteL (s.data.toList.take k)).length≤70368744177664:=by
     have:(s.data.toList.take k).length≤k:=List.length_take_le _ _
     simp only [List.length_append,List.length_cons,List.length_nil]
     omega
    have hpos:0<([34] ++ quoteL (s.data.toList.take k)).length:=by simp
    have HL:=Lib.hid hlen
    clear hlen hq
    go_wp2_with (go_at_call 169; refine (qput_any s[k].toNat (by omega) (by omega) w.heap.size (w1.heap.size + 1) ([34] ++ quoteL (s.data.toList.take k)) _ hbs ho hpos HL.out).mono ?_; rintro en w' ⟨rfl, ho', hb'⟩)
    go_roundw
    case rel => exact ⟨k + 1, by omega, by go_num, by rw [quoteL_take s k hlt, ← List.append_assoc]; exact ho', hb.trans hb'⟩
    case measure=>simp [intOf];omega
  · obtain rfl:k=s.size:=by omega
    rw [List.take_of_length_le (by rw [data_length];omega)] at ho hq
    obtain ⟨v,hv,hrow,hg⟩:=ho
    have hlen:([34] ++ quoteL s.data.toList).length≤70368744177664:=by
     have:s.data.toList.length=s.size:=data_length s
     simp only [List.length_append,List.length_cons,List.length_nil]
     omega
    obtain ⟨n1,hn1⟩:∃ n1,n1=([34] ++ quoteL s.data.toList).length:=⟨_,rfl⟩
    rw [← hn1] at hrow hlen
    obtain ⟨b,cap,rfl⟩:=Qcc hrow (by rw [hn1];simp)
    have hcv:=hv.cell
    clear hn1 hq
    go_wp2_with (at_builtin;(refine Qbu rfl (.tmp 34) (.tmp 35) rfl w.heap.size _ n1 ([34] ++ quoteL s.data.toList) [34] 1 rfl wr.heap.size rfl rfl hrow (show n1+1≤140737488355328 by omega) hbs ?_);intro v2 n2 w2 hn2 hown2 hgrow2;replace hn2:n2=n1+1:=hn2;obtain ⟨b2,cap2,rfl⟩:=Qcc hown2 (by omega);have hcon:=conv_own hown2;clear hn2)
    go_ret2
    refine ⟨rfl,?_⟩
    refine ((hb.alloc hbs _).grown hgrow2 (by simp;omega) fun j ej=>?_)
    have:=(hrow.lt j ej).1
    exact this
def hexL:ByteArray:=⟨#[48,49,50,51,52,53,54,55,56,57,97,98,99,100,101,102]⟩
def b64L:ByteArray:=⟨#[65,66,67,68,69,70,71,72,73,74,75,76,77,78,79,80,81,82,83,84,85,86,87,88,89,90,97,98,99,100,101,102,103,104,105,106,107,108,109,110,111,112,113,114,115,116,117,118,119,120,121,122,48,49,50,51,52,53,54,55,56,57,43,47]⟩
def u64L:ByteArray:=⟨#[65,66,67,68,69,70,71,72,73,74,75,76,77,78,79,80,81,82,83,84,85,86,87,88,89,90,97,98,99,100,101,102,103,104,105,106,107,108,109,110,111,112,113,114,115,116,117,118,119,120,121,122,48,49,50,51,52,53,54,55,56,57,45,95]⟩
def b32L:ByteArray:=⟨#[65,66,67,68,69,70,71,72,73,74,75,76,77,78,79,80,81,82,83,84,85,86,87,88,89,90,50,51,52,53,54,55]⟩
def alphCells:Array Value:=#[.string hexL,.int .i64 4,.int .i64 1,.string b64L,.int .i64 6,.int .i64 4,.string u64L,.int .i64 6,.int .i64 1,.string b32L,.int .i64 5,.int .i64 8]
set_option maxHeartbeats 400000 in
set_option maxRecDepth 100000 in
theorem alph_any (w:World):Calls Tryz.prog 135 #[] w (Ret (.agg alphCells) w):=by
 go_enter Tryz.func135,Tryz.ntmps135
 go_wp2_with (refine wpList_store_row rfl 239 (.tmp 0) (.tmp 5) rfl w.heap.size alphCells rfl rfl 239 _ (heap_alloc_new w _) (by kernel_rfl) (by kernel_rfl) (by kernel_rfl) ?_)
 rw [World.setRow_alloc_new]
 exact bodyPost_ret (v:=.agg alphCells) (results_cell_row (p:=0) (ty:=239) rfl _ _ w.heap.size 239 alphCells (0,0) _ rfl (heap_alloc_new w _) Tryz.underlying239 rfl (by kernel_rfl)) rfl ⟨rfl,(Below.refl _ _).alloc (Nat.le_refl _) _⟩
theorem index_alph0 (W:World):(Instr.index 239 (.agg alphCells) (.int .i64 0)).run Tryz.prog W=.ok (.agg #[.string hexL,.int .i64 4,.int .i64 1]) W:=by kernel_rfl
theorem index_alph2 (W:World):(Instr.index 239 (.agg alphCells) (.int .i64 2)).run Tryz.prog W=.ok (.agg #[.string u64L,.int .i64 6,.int .i64 1]) W:=by kernel_rfl
theorem info158:(Tryz.prog.info? 158).map (·.size)=some 3:=by kernel_rfl
def Kind (k:Int) (L:ByteArray) (b:Nat):Prop:=(k=0∧L=hexL∧b=4) ∨ (k=2∧L=u64L∧b=6)
theorem Kind.index {k:Int} {L:ByteArray} {b:Nat} (h:Kind k L b) (W:World):(Instr.index 239 (.agg alphCells) (.int .i64 k)).run Tryz.prog W=.ok (.agg #[.string L,.int .i64 b,.int .i64 1]) W:=by
 rcases h with ⟨rfl,rfl,rfl⟩ | ⟨rfl,rfl,rfl⟩
 · exact index_alph0 W
 · exact index_alph2 W
set_option maxHeartbeats 2000000 in
set_option maxRecDepth 100000 in
theorem bof_any {k:Int} {L:ByteArray} {b:Nat} (h:Kind k L b) (w:World):Calls Tryz.prog 88 #[.int .i64 k] w (Ret (.tuple #[.agg #[.string L,.int .i64 b,.int .i64 1],.bool true]) w):=by
 have hi:=h.index
 have h0:¬ k<0:=by rcases h with ⟨rfl,_⟩ | ⟨rfl,_⟩ <;> omega
 have h3:¬ 3<k:=by rcases h with ⟨rfl,_⟩ | ⟨rfl,_⟩ <;> omega
 clear h
 go_enter Tryz.func88,Tryz.ntmps88
 have R:=Row3.new w 158 (.string ⟨#[]⟩) (.int .i64 0) (.int .i64 0)
 have hb0:=(Below.refl w.heap.size w).alloc (Nat.le_refl _) (.cells #[.string ⟨#[]⟩,.int .i64 0,.int .i64 0] 158)
 obtain ⟨q,hq⟩:∃ q,w.heap.size=q:=⟨_,rfl⟩
 rw [hq] at R hb0
 go_wp2_with (go_at_call 135;refine (alph_any _).mono ?_;rintro e w1 ⟨he,hb1⟩;subst he;have R1:=R.below hb1;have r0:=R1.c0;have r1:=fun v=>(R1.s0 v).c1;have r2:=fun v u=>((R1.s0 v).s1 u).c2;have f0:=R1.fz 0;have f1:=fun v=>(R1.s0 v).fz 1;have f2:=fun v u=>((R1.s0 v).s1 u).fz 2;have hB1:=hb0.trans (hb1.mono (by have:=R.lt;omega)))
 exact bodyPost_ret (results_ct (p:=2) (u:=3) (ty:=158) rfl _ _ q 158 #[.string L,.int .i64 b,.int .i64 1] (0,0) _ rfl (((R1.s0 _).s1 _).s2 _) Tryz.underlying158 rfl info158) rfl ⟨rfl,by rw [hq];exact Qce hB1 (Nat.le_refl _) _ _ _⟩
set_option maxHeartbeats 2000000 in
set_option maxRecDepth 100000 in
theorem blen_any {k:Int} {L:ByteArray} {b:Nat} (h:Kind k L b) (n:Nat) (hn:n≤1048576) (w:World):Calls Tryz.prog 89 #[.int .i64 k,.int .i64 n] w (fun e w'=>∃ c:Nat,e=.returned (.int .i64 c)∧c≤3000000∧Below w.heap.size w w'):=by
 have hO:=Lib.hid (bof_any h w)
 have hb:4≤b∧b≤6:=by rcases h with ⟨_,_,rfl⟩ | ⟨_,_,rfl⟩ <;> omega
 clear h
 obtain ⟨m,hm⟩:∃ m,8*n+b - 1=m:=⟨_,rfl⟩
 obtain ⟨c,hc⟩:∃ c,m / b=c:=⟨_,rfl⟩
 have e1:IntKind.i64.wrap (8*(n:Int))=8*(n:Int):=by rw [IntKind.wrap_i64];omega
 have e2:IntKind.i64.wrap (8*(n:Int)+(b:Int))=8*(n:Int)+(b:Int):=by rw [IntKind.wrap_i64];omega
 have e3:IntKind.i64.wrap (8*(n:Int)+(b:Int) - 1)=(m:Int):=by rw [IntKind.wrap_i64];omega
 have hcm:c≤m:=by rw [← hc];exact Nat.div_le_self ..
 have hc3:c≤3000000:=by
  rw [← hc]
  have h1:m / b≤m / 4:=Nat.div_le_div_left hb.1 (by decide)
  omega
 have e4:(m:Int).tdiv (b:Int)=(c:Int):=by rw [Int.tdiv_eq_ediv_of_nonneg (by omega),← hc];rfl
 have e4':(m:Int) / (b:Int)=(c:Int):=by rw [← hc];rfl
 have e5:IntKind.i64.wrap (c:Int)=(c:Int):=by rw [IntKind.wrap_i64];omega
 have e6:IntKind.i64.wrap ((c:Int)+1)=(c:Int)+1:=by rw [IntKind.wrap_i64];omega
 have b0:¬ (b:Int)=0:=by omega
 have b1:((b:Int) == 0)=false:=by rw [beq_eq_false_iff_ne];omega
 have hn0:¬ (n:Int)<0:=by omega
 have hn1:¬ (1048576:Int)<(n:Int):=by omega
 go_enter Tryz.func89,Tryz.ntmps89
 go_wp2_with (go_at_call 88;refine hO.out.mono ?_;rintro e w1 ⟨he,hb1⟩;subst he;have hb2:=hb1.alloc hb1.size (.cells #[.string L,.int .i64 b,.int .i64 1] 158);have R:=Row3.new w1 158 (.string L) (.int .i64 b) (.int .i64 1);have HB2:=Lib.hid hb2;have HR:=Lib.hid R;clear hb1 hb2 R)
 go_quiet (fail)
 go_wp2
 exact bodyPost_ret (v:=.int .i64 c) (by simp [results,Tryz.results89,go_sem]) rfl ⟨c,rfl,hc3,Below.drewN' HB2.out nq⟩
end Go.Proofs.YtfmceonbejlhlaaGreatDoor
