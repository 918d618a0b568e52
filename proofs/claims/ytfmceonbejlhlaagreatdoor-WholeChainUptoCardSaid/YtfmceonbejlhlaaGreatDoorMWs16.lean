import Derived.RangeFuncBox
import Derived.Lib.AppendStr
import Derived.Deep.RegionLaw
import Derived.Deep.AppendLies
import Derived.RegionTactic
import Derived.Test.YtfmceonbejlhlaaGreatDoorMWs7
namespace Go.Proofs.YtfmceonbejlhlaaGreatDoor
open Go.RowKit Go.Proofs.YtfmceonbejlhlaaGreatDoorW.PrintWords Go.Proofs.YtfmceonbejlhlaaGreatDoorW.PrintLast Go.Proofs.YtfmceonbejlhlaaGreatDoorW.PrintMore
set_option linter.unusedVariables false
def Wb (W:World) (p:Nat) (v:Value) (op:Bool):Prop:=W.heap[p]? = some (.cells #[v,.bool op,.int .i64 0,.bool false] 52 (0,0))
section
variable {W:World} {p:Nat} {v:Value} {op:Bool} (h:Wb W p v op)
include h
theorem Wb.c0:W.cell? ⟨p,0,none⟩=some v:=cell_of_row W p 0 _ _ _ h
theorem Wb.c1:W.cell? ⟨p,1,none⟩=some (.bool op):=cell_of_row W p 1 _ _ _ h
theorem Wb.fz (j:Nat):W.frozen? ⟨p,j,none⟩=false:=frozen_of_row W p j _ _ h
theorem Wb.lt:p<W.heap.size:=block_lt_of_cell h.c0
theorem Wb.below {W1:World} (hb:Below W.heap.size W W1):Wb W1 p v op:=(hb.block p h.lt).trans h
theorem Wb.alloc (o:Obj):Wb (W.alloc o) p v op:=(Below.heap_alloc W o p h.lt).trans h
theorem Wb.set (u:Value):Wb (W.setCell ⟨p,0,none⟩ u) p u op:=by
 rw [setCell_eq_setRow W p 0 _ _ _ u h];exact setRow_heap _ _ _ _ _ _ h
theorem Wb.not_row {base e size n:Nat} {u:Value} {xs:List Value} (hte:52 ≠ e) (hrow:W.ownsRow base e size u n xs):some p ≠ u.ownBlock:=by
 intro hp
 obtain ⟨cells,hc⟩:=Qba hrow p hp.symm
 rw [show W.heap[p]? = _ from h] at hc
 injection hc with hc
 injection hc with _ hc
 exact hte hc
theorem Wb.kept {W1:World} {row:Option Nat} (hg:W.grownBy W1 row) (hne:some p ≠ row):Wb W1 p v op:=(hg.block p h.lt hne).trans h
end
def WrIs (W:World) (base p:Nat) (op:Bool) (xs:List Int):Prop:=∃ v,Wb W p v op∧W.ownsRow base 5 1 v xs.length (xs.map (Value.int .u8))∧base≤p
theorem info5:(Tryz.prog.info? 5).map (fun i=>(i.zero,i.size,i.bytes))=some (some (.int .u8 0),1,1):=by kernel_rfl
theorem one_u8 (xs:List Int):∀ u ∈ xs.map (Value.int .u8),u.oneCell'=true:=by
 intro u hu
 obtain ⟨n,_,rfl⟩:=List.mem_map.1 hu
 rfl
def Wrote (base p:Nat) (w w':World):Prop:=Below base w w'∧∀ (g:Nat) (cs:Array Value) (t:TypeId) (fr:Nat × Nat),w.heap[g]? = some (.cells cs t fr)→t ≠ 5→g ≠ p→w'.heap[g]? = some (.cells cs t fr)
theorem Wrote.refl (base p:Nat) (w:World):Wrote base p w w:=⟨Below.refl _ _,fun _ _ _ _ h _ _=>h⟩
theorem Wrote.size {base p:Nat} {w w':World} (h:Wrote base p w w'):w.heap.size≤w'.heap.size:=h.1.size
theorem Wrote.trans {base p:Nat} {a b c:World} (h:Wrote base p a b) (k:Wrote base p b c):Wrote base p a c:=⟨h.1.trans k.1,fun g cs t fr hg ht hp=>k.2 g cs t fr (h.2 g cs t fr hg ht hp) ht hp⟩
theorem Wrote.of_below {base p:Nat} {w w':World} (h:Below w.heap.size w w') (hb:base≤w.heap.size):Wrote base p w w':=⟨h.mono hb,fun g cs t fr hg _ _=>by
 have hlt:g<w.heap.size:=(Array.getElem?_eq_some_iff.1 hg).1
 exact (h.block g hlt).trans hg⟩
theorem Wrote.alloc {base p:Nat} {w w':World} (h:Wrote base p w w') (hb:base≤w'.heap.size) (o:Obj):Wrote base p w (w'.alloc o):=h.trans (Wrote.of_below ((Below.refl _ _).alloc (Nat.le_refl _) o) hb)
theorem Wrote.drew {base p:Nat} {w w':World} (h:Wrote base p w w'):Wrote base p w w'.drew:=⟨h.1.drew,h.2⟩
theorem Wrote.cell {base p:Nat} {w w':World} (h:Wrote base p w w') {g:Nat} {cs:Array Value} {t:TypeId} {fr:Nat × Nat} (hg:w.heap[g]? = some (.cells cs t fr)) (ht:t ≠ 5) (hp:g ≠ p):w'.heap[g]? = some (.cells cs t fr):=h.2 g cs t fr hg ht hp
theorem Wb.appended {W W0 w1:World} {base p n n':Nat} {v v':Value} {op:Bool} {xs ys:List Int} (hv:Wb W0 p v op) (hB0:Wrote base p W W0) (hrow:W0.ownsRow base 5 1 v n (xs.map (Value.int .u8))) (hb:base≤W0.heap.size) (hg:base≤p)
 (hown':w1.ownsRow base 5 1 v' n' ((xs ++ ys).map (Value.int .u8))) (hgrow:W0.grownBy w1 v.ownBlock) :
 Wb w1 p v op∧WrIs (w1.setCell ⟨p,0,none⟩ v') base p op (xs ++ ys)∧Wrote base p W (w1.setCell ⟨p,0,none⟩ v'):=by
 have hv1:=hv.kept hgrow (hv.not_row (by decide) hrow)
 have hn':n'=(xs ++ ys).length:=by have:=hown'.1;rw [List.length_map] at this;omega
 subst hn'
 refine ⟨hv1, ⟨v', hv1.set v', Qbl hown' (fun k hk => Below.heap_setCell _ _ _ k (fun e => hv1.not_row (by decide) hown' (by rw [hk, e]))), hg⟩, ?_⟩
 refine hB0.trans ⟨((Below.refl base W0).grown hgrow hb fun j ej => Qb5 hrow j ej).setCell (p := ⟨p, 0, none⟩) hg v', fun g cs t fr h ht hp => ?_⟩
 have h1:w1.heap[g]? = some (.cells cs t fr):=by
  refine (hgrow.block g (Array.getElem?_eq_some_iff.1 h).1 fun e=>?_).trans h
  obtain ⟨cells,hc⟩:=Qba hrow g e.symm
  rw [h] at hc
  injection hc with hc
  injection hc with _ hc
  exact ht hc
 exact (Below.heap_setCell w1 _ _ g (fun e=>hp e)).trans h1
theorem Qbk {ops:Array Oper} {rest:List Oper} {o:Oper} {a:Act} {Q:Exit→Act→World→Prop} {W:World} (hgd:o.guard=none) (s x:Operand)
 (ho:o.op=.call { callee:=.builtin .append,args:=#[s,x],argTypes:=#[26,26] }) (base:Nat) (v:Value) (n:Nat) (xs ys:List Int) (c:Nat) (hs:a.eval s=v) (q:Nat)
 (hx:a.eval x=.slice (some ⟨q,0,none⟩) ys.length c) (hcell:∀ j u,(ys.map (Value.int .u8))[j]? = some u→W.cell? ⟨q,j,none⟩=some u) (hown:W.ownsRow base 5 1 v n (xs.map (Value.int .u8))) (hlen:n+ys.length≤140737488355328) (hbase:base≤W.heap.size)
 (h : ∀ v' n' w', n' = n + ys.length → w'.ownsRow base 5 1 v' n' ((xs ++ ys).map (Value.int .u8)) → W.grownBy w' v.ownBlock → wpList Tryz.prog ops Q rest (a.put o.dst v') w') :
 wpList Tryz.prog ops Q (o :: rest) a W:=by
 obtain ⟨i0,hi,hz0,hz1,hz2⟩:=info_parts info5
 refine wpList_append_own _ hgd s x 26 ho base 5 i0 (.int .u8 0) 1 1 Tryz.underlying26 hi hz0 hz1 hz2 rfl (by decide) v n _ hs hown ⟨q,0,none⟩ ys.length c (ys.map (Value.int .u8)) hx (by simp) ?_ (one_u8 ys) (by unfold maxLen;omega) (by omega) hbase ?_
 · intro j u hj
   have e:(⟨q,0,none⟩:Addr).add j=⟨q,j,none⟩:=by unfold Addr.add;split <;> simp_all
   rw [e]
   exact hcell j u hj
 · intro v' w' hown' hgrow _
   refine h v' _ w' rfl ?_ hgrow
   rw [List.map_append]
   exact hown'
theorem cells_one (W:World) (b:Int):∀ (j:Nat) (u:Value),(([b]:List Int).map (Value.int .u8))[j]? = some u→(W.alloc (.cells #[.int .u8 b] 5)).cell? ⟨W.heap.size,j,none⟩=some u:=by
 intro j u hj
 rw [cell_of_row _ _ j _ _ _ (heap_alloc_new W _)]
 simpa using hj
theorem Qb0 {W:World} {base n:Nat} {v:Value} {xs:List Value} (h:W.ownsRow base 5 1 v n xs) (hn:0<n):∃ b cap,v=.slice (some ⟨b,0,none⟩) n cap:=by
 obtain ⟨k,rfl⟩:∃ k,n=k+1:=⟨n - 1,by omega⟩
 obtain ⟨b,cap,h⟩:=ownsRow_succ h
 exact ⟨b,cap,h⟩
def Qa4 (base p:Nat) (op:Bool) (xs:List Int) (w:World) (e:Ending) (w':World):Prop:=e=.returned (.tuple #[])∧WrIs w' base p op xs∧Wrote base p w w'
set_option maxHeartbeats 1000000 in
theorem end_any (base p:Nat) (op:Bool) (xs:List Int) (w:World) (h:WrIs w base p op xs) (hb:base≤w.heap.size) (hl:xs.length≤140737488355000) :
 Calls Tryz.prog 40 #[.pointer (some ⟨p,0,none⟩)] w (Qa4 base p op (xs ++ if op then [255] else []) w):=by
 obtain ⟨v,hv,hrow,hp⟩:=h
 have hc1:=hv.c1
 have hc0:=hv.c0
 go_enter Tryz.func40,Tryz.ntmps40
 cases op
 · go_wp2
   go_end0
   exact ⟨rfl,⟨v,hv,hrow,hp⟩,Wrote.refl _ _ _⟩
 · go_wp2_with (at_builtin;(refine Qbk rfl (.tmp 11) (.tmp 12) rfl base v _ xs [255] 1 rfl w.heap.size rfl (cells_one w 255) (hrow.alloc _) (show xs.length+1≤140737488355328 by omega) (by simp;omega) ?_);intro v' n' w' hn' hown' hgrow;obtain ⟨b1,cap1,rfl⟩:=Qb0 hown' (by rw [hn'];simp);have hA:=Wb.appended (hv.alloc _) ((Wrote.refl _ _ _).alloc hb _) (hrow.alloc _) (by simp;omega) hp hown' hgrow;have k0:=hA.1.c0;have kf:=hA.1.fz 0;clear hn')
   go_end0
   exact ⟨rfl,hA.2.1,hA.2.2⟩
open Go.RowKit Go.Proofs.YtfmceonbejlhlaaGreatDoorW.PrintWords Go.Proofs.YtfmceonbejlhlaaGreatDoorW.PrintLast Go.Proofs.YtfmceonbejlhlaaGreatDoorW.PrintMore
set_option linter.unusedVariables false
theorem putF_pos (m n:Int):0<(putF m n).length:=by unfold putF;(repeat (split <;> try simp))
theorem putF_len (m n:Int):(putF m n).length≤9:=by unfold putF;(repeat (split <;> try simp [numBytes]))
def FreshB (w w':World) (b:Nat) (cap:Nat) (xs:List Int):Prop:=∃ cur:Array Value,w.heap.size≤b∧w'.heap[b]? = some (.cells cur 5 (0,0))∧xs.length≤cap∧(∀ (j:Nat) (u:Value),(xs.map (Value.int .u8))[j]? = some u→cur[j]? = some u)
theorem put_any (m:Nat) (n:Int) (hm:m≤6) (h0:0≤n) (h1:n<18446744073709551616) (w:World) :
 Calls Tryz.prog 65 #[.int .i64 m,.int .u64 n] w fun e w'=>∃ b cap,e=.returned (.tuple #[.slice (some ⟨b,0,none⟩) (putF m n).length cap,.int .i64 0])∧FreshB w w' b cap (putF m n)∧Below w.heap.size w w':=by
 refine (P.head_Put.calls 20 m n _ _ w (put_f m n hm h0 h1)).mono ?_
 rintro e w' ⟨v,rfl,hR,hb⟩
 have ho:=Kd.own_of_R hR
 rcases ho.2 with ⟨_,h⟩ | ⟨g,cap,cur,rfl,hg,hh,hl,_,_,ht⟩
 · exact absurd h (by have:=putF_pos m n;omega)
 · refine ⟨g,cap,rfl,⟨cur,hg,hh,hl,fun j u hj=>?_⟩,hb⟩
   rw [Nat.mul_one] at ht
   have:(List.take (putF m n).length cur.toList)[j]? = some u:=by rw [ht];exact hj
   rw [List.getElem?_take] at this
   split at this
   · rw [← Array.getElem?_toList];exact this
   · cases this
theorem Wb.other {W:World} {p:Nat} {v:Value} {op:Bool} (h:Wb W p v op) {b:Nat} (hne:p ≠ b) (j:Nat) (u:Value):Wb (W.setCell ⟨b,j,none⟩ u) p v op :=
 (Below.heap_setCell W _ u p (fun e=>hne (by rw [e]))).trans h
theorem putF_or (m:Nat) (n:Int) (hm:m≤6) (h0:0≤n) {f:Int} {r:List Int} (hf:putF m n=f :: r):Go.bits .or .u8 f ((m:Int)*32)=f:=by
 have key:∀ (m:Fin 7) (x:Fin 32),Go.bits .or .u8 ((m.val:Int)*32+x.val) ((m.val:Int)*32)=(m.val:Int)*32+x.val:=by decide +kernel
 have:∃ x:Nat,x<32∧f=(m:Int)*32+x:=by
  unfold putF at hf
  repeat' split at hf
  all_goals (injection hf with hf _)
  · exact ⟨n.toNat,by omega,by omega⟩
  · exact ⟨24,by omega,by omega⟩
  · exact ⟨25,by omega,by omega⟩
  · exact ⟨26,by omega,by omega⟩
  · exact ⟨27,by omega,by omega⟩
 obtain ⟨x,hx,rfl⟩:=this
 exact key ⟨m,by omega⟩ ⟨x,hx⟩
theorem FreshB.set {w w':World} {b cap:Nat} {f:Int} {r:List Int} (h:FreshB w w' b cap (f :: r)) (g:Int):FreshB w (w'.setCell ⟨b,0,none⟩ (.int .u8 g)) b cap (g :: r):=by
 obtain ⟨cur,h1,h2,h3,h4⟩:=h
 refine ⟨cur.set! 0 (.int .u8 g),h1,?_,by simpa using h3,fun j u hj=>?_⟩
 · rw [setCell_eq_setRow _ b 0 _ _ _ _ h2];exact setRow_heap _ _ _ _ _ _ h2
 · cases j with
   | zero =>
     have h5:=h4 0 _ rfl
     have h6:=(Array.getElem?_eq_some_iff.1 h5).1
     simp only [List.map_cons,List.getElem?_cons_zero,Option.some.injEq] at hj
     subst hj
     simp [h6]
   | succ j =>
     have h5:=h4 (j+1) u (by simpa using hj)
     simpa using h5
set_option maxHeartbeats 1000000 in
theorem head_any (base p:Nat) (op:Bool) (xs:List Int) (m:Nat) (n:Int) (hm:m≤6) (h0:0≤n) (h1:n<18446744073709551616) (w:World) (h:WrIs w base p op xs) (hb:base≤w.heap.size) (hl:xs.length≤140737488355000) :
 Calls Tryz.prog 35 #[.pointer (some ⟨p,0,none⟩),.int .i64 m,.int .u64 n] w (Qa4 base p op (xs ++ putF m n) w):=by
 obtain ⟨v,hv,hrow,hp⟩:=h
 obtain ⟨f,r,hf⟩:∃ f r,putF m n=f :: r:=by
  cases hh:putF m n with
  | nil=>exact absurd (putF_pos m n) (by rw [hh];simp)
  | cons f r=>exact ⟨f,r,rfl⟩
 have hP:=put_any m n hm h0 h1 w
 rw [hf] at hP ⊢
 have hm7:((m:Int) == 7)=false:=by simp;omega
 have hlen:=putF_len m n
 rw [hf] at hlen
 obtain ⟨len,hlen'⟩:∃ k,(f :: r).length=k:=⟨_,rfl⟩
 rw [hlen'] at hP hlen
 have hpos:0<len:=by rw [← hlen'];simp
 go_enter Tryz.func35,Tryz.ntmps35
 have hor:=putF_or m n hm h0 hf
 go_wp2_with (first
  | (go_at_call 65;refine hP.mono ?_;rintro e w1 ⟨b,cap,rfl,hF,hbel⟩;have q0:w1.cell? ⟨b,0,none⟩=some (.int .u8 f):=(by obtain ⟨cur,hb1,hc,hcap,hcell⟩:=hF;exact (cell_of_row _ _ 0 _ _ _ hc).trans (hcell 0 _ rfl));have qf:w1.frozen? ⟨b,0,none⟩=false:=(by obtain ⟨cur,hb1,hc,hcap,hcell⟩:=hF;exact frozen_of_row _ _ 0 _ _ hc);have hne:p ≠ b:=(by have:=hF.choose_spec.1;have:=hv.lt;omega);have hv1:=(hv.below hbel).other hne 0 (.int .u8 f);have k0:=hv1.c0)
  | (at_builtin;have hF1:=hF.set f;have hbw:w.heap.size≤b:=hF.choose_spec.1;have hrow1:(w1.setCell ⟨b,0,none⟩ (.int .u8 f)).ownsRow base 5 1 v xs.length (xs.map (Value.int .u8)):=Qbl hrow (fun k hk=>(Below.heap_setCell _ _ _ k (fun e=>by have:=own_lt hrow k hk;rw [e] at this;exact absurd this (Nat.not_lt.2 hbw))).trans (hbel.block k (own_lt hrow k hk)));have hB1:Wrote base p w (w1.setCell ⟨b,0,none⟩ (.int .u8 f)):=Wrote.of_below (hbel.setCell (p:=⟨b,0,none⟩) hbw _) hb;have hb1:base≤(w1.setCell ⟨b,0,none⟩ (.int .u8 f)).heap.size:=Nat.le_trans hb hB1.size;subst hlen';(refine Qbk rfl (.tmp 30) (.tmp 31) rfl base v _ xs (f :: r) cap rfl b rfl (fun j u hj=>by obtain ⟨cur,_,hc,_,hcell⟩:=hF1;exact (cell_of_row _ _ j _ _ _ hc).trans (hcell j u hj)) hrow1 (show xs.length+(f :: r).length≤140737488355328 by omega) hb1 ?_);intro v' n' w' hn' hown' hgrow;obtain ⟨b1,cap1,rfl⟩:=Qb0 hown' (by rw [hn'];simp;omega);have hA:=Wb.appended hv1 hB1 hrow1 hb1 hp hown' hgrow;have k1:=hA.1.c0;have kf:=hA.1.fz 0;clear hn'))
 go_end0
 exact ⟨rfl,hA.2.1,hA.2.2⟩
theorem putF_7 (n:Int) (h0:0≤n) {f:Int} {r:List Int} (hf:putF 0 n=f :: r):putF 7 n=(f+224) :: r∧Go.bits .or .u8 f 224=f+224:=by
 have key:∀ (x:Fin 32),Go.bits .or .u8 (x.val:Int) 224=(x.val:Int)+224:=by decide +kernel
 have:putF 7 n=(f+224) :: r∧∃ x:Nat,x<32∧f=(x:Int):=by
  unfold putF at hf ⊢
  repeat' split at hf
  all_goals (injection hf with hf hr;subst hr)
  · rw [if_pos (by assumption)];exact ⟨by rw [← hf];congr 1;omega,n.toNat,by omega,by omega⟩
  · rw [if_neg (by assumption),if_pos (by assumption)];exact ⟨by rw [← hf];congr 1,24,by omega,by omega⟩
  · rw [if_neg (by assumption),if_neg (by assumption),if_pos (by assumption)];exact ⟨by rw [← hf];congr 1,25,by omega,by omega⟩
  · rw [if_neg (by assumption),if_neg (by assumption),if_neg (by assumption),if_pos (by assumption)];exact ⟨by rw [← hf];congr 1,26,by omega,by omega⟩
  · rw [if_neg (by assumption),if_neg (by assumption),if_neg (by assumption),if_neg (by assumption)];exact ⟨by rw [← hf];congr 1,27,by omega,by omega⟩
 obtain ⟨h,x,hx,rfl⟩:=this
 exact ⟨h,key ⟨x,hx⟩⟩
set_option maxHeartbeats 1000000 in
theorem head7_any (base p:Nat) (op:Bool) (xs:List Int) (n:Int) (h0:0≤n) (h1:n<18446744073709551616) (w:World) (h:WrIs w base p op xs) (hb:base≤w.heap.size) (hl:xs.length≤140737488355000) :
 Calls Tryz.prog 35 #[.pointer (some ⟨p,0,none⟩),.int .i64 7,.int .u64 n] w (Qa4 base p op (xs ++ putF 7 n) w):=by
 obtain ⟨v,hv,hrow,hp⟩:=h
 obtain ⟨f,r,hf⟩:∃ f r,putF 0 n=f :: r:=by
  cases hh:putF 0 n with
  | nil=>exact absurd (putF_pos 0 n) (by rw [hh];simp)
  | cons f r=>exact ⟨f,r,rfl⟩
 have hP:=put_any 0 n (by omega) h0 h1 w
 have h7:=putF_7 n h0 hf
 rw [h7.1]
 rw [show ((0:Nat):Int)=0 from rfl,hf] at hP
 have hlen:=putF_len 0 n
 rw [hf] at hlen
 obtain ⟨len,hlen'⟩:∃ k,(f :: r).length=k:=⟨_,rfl⟩
 rw [hlen'] at hP hlen
 have hpos:0<len:=by rw [← hlen'];simp
 go_enter Tryz.func35,Tryz.ntmps35
 have hor:=h7.2
 obtain ⟨g,hg⟩:∃ g,f+224=g:=⟨_,rfl⟩
 rw [hg] at hor ⊢
 clear h7 hg
 go_wp2_with (first
  | (go_at_call 65;refine hP.mono ?_;rintro e w1 ⟨b,cap,rfl,hF,hbel⟩;have q0:w1.cell? ⟨b,0,none⟩=some (.int .u8 f):=(by obtain ⟨cur,hb1,hc,hcap,hcell⟩:=hF;exact (cell_of_row _ _ 0 _ _ _ hc).trans (hcell 0 _ rfl));have qf:w1.frozen? ⟨b,0,none⟩=false:=(by obtain ⟨cur,hb1,hc,hcap,hcell⟩:=hF;exact frozen_of_row _ _ 0 _ _ hc);have hne:p ≠ b:=(by have:=hF.choose_spec.1;have:=hv.lt;omega);have hv1:=(hv.below hbel).other hne 0 (.int .u8 g);have k0:=hv1.c0)
  | (at_builtin;have hF1:=hF.set g;have hbw:w.heap.size≤b:=hF.choose_spec.1;have hrow1:(w1.setCell ⟨b,0,none⟩ (.int .u8 g)).ownsRow base 5 1 v xs.length (xs.map (Value.int .u8)):=Qbl hrow (fun k hk=>(Below.heap_setCell _ _ _ k (fun e=>by have:=own_lt hrow k hk;rw [e] at this;exact absurd this (Nat.not_lt.2 hbw))).trans (hbel.block k (own_lt hrow k hk)));have hB1:Wrote base p w (w1.setCell ⟨b,0,none⟩ (.int .u8 g)):=Wrote.of_below (hbel.setCell (p:=⟨b,0,none⟩) hbw _) hb;have hb1:base≤(w1.setCell ⟨b,0,none⟩ (.int .u8 g)).heap.size:=Nat.le_trans hb hB1.size;have hlen'':(g :: r).length=len:=hlen';subst hlen'';(refine Qbk rfl (.tmp 30) (.tmp 31) rfl base v _ xs (g :: r) cap rfl b rfl (fun j u hj=>by obtain ⟨cur,_,hc,_,hcell⟩:=hF1;exact (cell_of_row _ _ j _ _ _ hc).trans (hcell j u hj)) hrow1 (show xs.length+(g :: r).length≤140737488355328 by omega) hb1 ?_);intro v' n' w' hn' hown' hgrow;obtain ⟨b1,cap1,rfl⟩:=Qb0 hown' (by rw [hn'];simp;omega);have hA:=Wb.appended hv1 hB1 hrow1 hb1 hp hown' hgrow;have k1:=hA.1.c0;have kf:=hA.1.fz 0;clear hn'))
 go_end0
 exact ⟨rfl,hA.2.1,hA.2.2⟩
theorem or_31 (m:Nat) (hm:m≤7):Go.bits .or .i64 ((m:Int)*32) 31=(m:Int)*32+31:=by
 have:∀ (m:Fin 8),Go.bits .or .i64 ((m.val:Int)*32) 31=(m.val:Int)*32+31:=by decide +kernel
 exact this ⟨m,by omega⟩
set_option maxHeartbeats 1000000 in
theorem begin_any (base p:Nat) (op:Bool) (xs:List Int) (m:Nat) (n:Nat) (hm:m≤6) (h1:n<9223372036854775807) (w:World) (h:WrIs w base p op xs) (hb:base≤w.heap.size) (hl:xs.length≤140737488355000) :
 Calls Tryz.prog 39 #[.pointer (some ⟨p,0,none⟩),.int .i64 m,.int .i64 n] w (Qa4 base p op (xs ++ if op then [(m:Int)*32+31] else putF m n) w):=by
 have hH:=head_any base p op xs m n hm (by omega) (by omega) w h hb hl
 obtain ⟨v,hv,hrow,hp⟩:=h
 have hc1:=hv.c1
 have hc0:=hv.c0
 have hor:=or_31 m (by omega)
 go_enter Tryz.func39,Tryz.ntmps39
 cases op
 · go_wp2_with (go_at_call 35;refine hH.mono ?_;rintro e w1 ⟨rfl,hw1,hb1⟩)
   go_end0
   exact ⟨rfl,hw1,hb1⟩
 · go_wp2_with (at_builtin;(refine Qbk rfl (.tmp 15) (.tmp 20) rfl base v _ xs [(m:Int)*32+31] 1 rfl w.heap.size rfl (cells_one w _) (hrow.alloc _) (show xs.length+1≤140737488355328 by omega) (by simp;omega) ?_);intro v' n' w' hn' hown' hgrow;obtain ⟨b1,cap1,rfl⟩:=Qb0 hown' (by rw [hn'];simp);have hA:=Wb.appended (hv.alloc _) ((Wrote.refl _ _ _).alloc hb _) (hrow.alloc _) (by simp;omega) hp hown' hgrow;have k0:=hA.1.c0;have kf:=hA.1.fz 0;clear hn')
   go_end0
   exact ⟨rfl,hA.2.1,hA.2.2⟩
def strB (s:ByteArray):List Int:=s.data.toList.map fun c=>(c.toNat:Int)
theorem strB_len (s:ByteArray):(strB s).length=s.size:=by unfold strB;rw [List.length_map,Array.length_toList];rfl
theorem strB_cells (s:ByteArray):(strB s).map (Value.int .u8)=Lib.strCells s:=by unfold strB Lib.strCells;rw [List.map_map];rfl
theorem wpList_append_text {ops:Array Oper} {rest:List Oper} {o:Oper} {a:Act} {Q:Exit→Act→World→Prop} {W:World} (hgd:o.guard=none) (sl x:Operand)
 (ho:o.op=.call { callee:=.builtin .append,args:=#[sl,x],argTypes:=#[26,9] }) (base:Nat) (v:Value) (n:Nat) (xs:List Int) (s:ByteArray) (hs:a.eval sl=v) (hx:a.eval x=.string s)
 (hown:W.ownsRow base 5 1 v n (xs.map (Value.int .u8))) (hlen:n+s.size≤140737488355328) (hbase:base≤W.heap.size)
 (h : ∀ v' n' w', n' = n + s.size → w'.ownsRow base 5 1 v' n' ((xs ++ strB s).map (Value.int .u8)) → W.grownBy w' v.ownBlock → wpList Tryz.prog ops Q rest (a.put o.dst v') w') :
 wpList Tryz.prog ops Q (o :: rest) a W:=by
 obtain ⟨i0,hi,hz0,hz1,hz2⟩:=info_parts info5
 refine Lib.wpList_append_own_string W hgd sl x 26 9 ho base 5 i0 Tryz.underlying26 Tryz.underlying9 hi hz0 hz1 hz2 v n _ hs hown s hx (by unfold maxLen;omega) (by omega) hbase ?_
 intro v' w' h2 h3 _
 refine h v' _ w' rfl ?_ h3
 rw [List.map_append,strB_cells]
 exact h2
def textF (op:Bool) (m:Nat) (s:ByteArray):List Int :=
 (if op then [(m:Int)*32+31] else putF m s.size) ++ ((if op=true∧s ≠ ⟨#[]⟩ then putF m s.size else []) ++ (strB s ++ if op then [255] else []))
theorem own_slice {W:World} {base e size n:Nat} {v:Value} {xs:List Value} (h:W.ownsRow base e size v n xs):∃ a l c,v=.slice a l c:=by
 rcases h.2 with ⟨h,_⟩ | ⟨_,_,_,h,_⟩ <;> exact ⟨_,_,_,h⟩
set_option maxRecDepth 100000 in
set_option maxHeartbeats 1000000 in
theorem text_closed (base p:Nat) (xs:List Int) (m:Nat) (s:ByteArray) (hm:m≤6) (w:World) (h:WrIs w base p false xs) (hb:base≤w.heap.size) (hl:xs.length+s.size≤140737488350000) :
 Calls Tryz.prog 38 #[.pointer (some ⟨p,0,none⟩),.int .i64 m,.string s] w (Qa4 base p false (xs ++ textF false m s) w):=by
 have hB:=begin_any base p false xs m s.size hm (by omega) w h hb (by omega)
 have hpl:=putF_len m s.size
 go_enter Tryz.func38,Tryz.ntmps38
 rw [if_neg (by decide)] at hB
 obtain ⟨ys,hys⟩:∃ ys,xs ++ putF m s.size=ys:=⟨_,rfl⟩
 have hyl:ys.length≤xs.length+9:=by rw [← hys,List.length_append];omega
 rw [hys] at hB
 go_wp2_with (first
  | (go_at_call 39;refine hB.mono ?_;rintro e w1 ⟨rfl,⟨v,hv,hrow,hp⟩,hb1⟩;have hc1:=hv.c1;have hc0:=hv.c0;have hbw:=Nat.le_trans hb hb1.size)
  | (at_builtin;(refine wpList_append_text rfl (.tmp 30) (.tmp 31) rfl base v _ ys s rfl rfl hrow (show ys.length+s.size≤140737488355328 by omega) hbw ?_);intro v' n' w' hn' hown' hgrow;have hsl:=own_slice hown';obtain ⟨sa,sn,sc,rfl⟩:=hsl;have hA:=Wb.appended hv hb1 hrow hbw hp hown' hgrow;have k0:=hA.1.c0;have kf:=hA.1.fz 0;clear hn')
  | (go_at_call 40;refine (end_any base p false _ _ hA.2.1 (Nat.le_trans hb hA.2.2.size) (by rw [List.length_append,strB_len];omega)).mono ?_;rintro e w3 ⟨rfl,hw3,hb3⟩))
 go_end0
 refine ⟨rfl,?_,hA.2.2.trans hb3⟩
 have e:xs ++ textF false m s=ys ++ strB s ++ (if false=true then [255] else []):=by rw [← hys];simp [textF]
 rw [e];exact hw3
set_option maxRecDepth 100000 in
set_option maxHeartbeats 1000000 in
theorem text_open (base p:Nat) (xs:List Int) (m:Nat) (s:ByteArray) (hm:m≤6) (w:World) (h:WrIs w base p true xs) (hb:base≤w.heap.size) (hl:xs.length+s.size≤140737488350000) :
 Calls Tryz.prog 38 #[.pointer (some ⟨p,0,none⟩),.int .i64 m,.string s] w (Qa4 base p true (xs ++ textF true m s) w):=by
 have hB:=begin_any base p true xs m s.size hm (by omega) w h hb (by omega)
 have hpl:=putF_len m s.size
 go_enter Tryz.func38,Tryz.ntmps38
 rw [if_pos rfl] at hB
 obtain ⟨ys,hys⟩:∃ ys,xs ++ [(m:Int)*32+31]=ys:=⟨_,rfl⟩
 have hyl:ys.length≤xs.length+9:=by rw [← hys,List.length_append];simp
 rw [hys] at hB
 by_cases hs0:s=⟨#[]⟩
 · subst hs0
   have z0:(⟨#[]⟩:ByteArray).size=0:=rfl
   rw [z0] at hB
   clear z0
   go_wp2_with (first
   | (go_at_call 39;refine hB.mono ?_;rintro e w1 ⟨rfl,⟨v,hv,hrow,hp⟩,hb1⟩;have hc1:=hv.c1;have hc0:=hv.c0;have hbw:=Nat.le_trans hb hb1.size)
   | (at_builtin;(refine wpList_append_text rfl (.tmp 30) (.tmp 31) rfl base v _ ys ⟨#[]⟩ rfl rfl hrow (show ys.length+0≤140737488355328 by omega) hbw ?_);intro v' n' w' hn' hown' hgrow;have hsl:=own_slice hown';obtain ⟨sa,sn,sc,rfl⟩:=hsl;have hA:=Wb.appended hv hb1 hrow hbw hp hown' hgrow;have k0:=hA.1.c0;have kf:=hA.1.fz 0;clear hn')
   | (go_at_call 40;refine (end_any base p true _ _ hA.2.1 (Nat.le_trans hb hA.2.2.size) (by rw [List.length_append,strB_len];omega)).mono ?_;rintro e w3 ⟨rfl,hw3,hb3⟩))
   go_end0
   refine ⟨rfl,?_,hA.2.2.trans hb3⟩
   have e:xs ++ textF true m ⟨#[]⟩=ys ++ strB ⟨#[]⟩ ++ (if true=true then [255] else []):=by rw [← hys];simp [textF]
   rw [e];exact hw3
 · have hs1:(!s.toList.isEmpty)=true:=by
    rw [Bool.not_eq_true', List.isEmpty_eq_false_iff, ByteArray.toList_eq]
    intro h
    exact hs0 (by cases s with | mk a=>cases a with | mk l=>cases h;rfl)
   go_wp2_with (first
   | (go_at_call 39;refine hB.mono ?_;rintro e w1 ⟨rfl,hw1,hb1⟩;have hb2:=Nat.le_trans hb hb1.size;have hH:=head_any base p true ys m s.size hm (by omega) (by omega) w1 hw1 hb2 (by omega);(obtain ⟨v1,hv1,hrow1,hp1⟩:=hw1);have hc1:=hv1.c1)
   | (go_at_call 35;refine hH.mono ?_;rintro e w2 ⟨rfl,⟨v,hv,hrow,hp⟩,hb3⟩;have hc1:=hv.c1;have hc0:=hv.c0;have hbw:=Nat.le_trans hb2 hb3.size;have hb13:=hb1.trans hb3;have hyl2:(ys ++ putF m s.size).length≤ys.length+9:=(by rw [List.length_append];omega))
   | (at_builtin;(refine wpList_append_text rfl (.tmp 30) (.tmp 31) rfl base v _ (ys ++ putF m s.size) s rfl rfl hrow (show (ys ++ putF m s.size).length+s.size≤140737488355328 by omega) hbw ?_);intro v' n' w' hn' hown' hgrow;have hsl:=own_slice hown';obtain ⟨sa,sn,sc,rfl⟩:=hsl;have hA:=Wb.appended hv hb13 hrow hbw hp hown' hgrow;have k0:=hA.1.c0;have kf:=hA.1.fz 0;clear hn')
   | (go_at_call 40;refine (end_any base p true _ _ hA.2.1 (Nat.le_trans hb hA.2.2.size) (by rw [List.length_append,strB_len];omega)).mono ?_;rintro e w3 ⟨rfl,hw3,hb3⟩))
   go_end0
   refine ⟨rfl,?_,hA.2.2.trans hb3⟩
   have e:xs ++ textF true m s=ys ++ putF m s.size ++ strB s ++ (if true=true then [255] else []):=by rw [← hys];simp [textF,hs0]
   rw [e];exact hw3
theorem text_any (base p:Nat) (op:Bool) (xs:List Int) (m:Nat) (s:ByteArray) (hm:m≤6) (w:World) (h:WrIs w base p op xs) (hb:base≤w.heap.size) (hl:xs.length+s.size≤140737488350000) :
 Calls Tryz.prog 38 #[.pointer (some ⟨p,0,none⟩),.int .i64 m,.string s] w (Qa4 base p op (xs ++ textF op m s) w):=by
 cases op
 · exact text_closed base p xs m s hm w h hb hl
 · exact text_open base p xs m s hm w h hb hl
theorem u8_wrap (x:Int):IntKind.u8.wrap x=x % 256:=by
 unfold IntKind.wrap;simp [IntKind.bits,IntKind.signed]
theorem Wb.drew' {W:World} {p:Nat} {v:Value} {op:Bool} (h:Wb W p v op):Wb W.drew p v op:=h
set_option maxRecDepth 100000 in
set_option maxHeartbeats 4000000 in
theorem bits25 (base p:Nat) (op:Bool) (xs:List Int) (n:Int) (h0:0≤n) (h1:n<18446744073709551616) (w:World) (h:WrIs w base p op xs) (hb:base≤w.heap.size) (hl:xs.length≤140737488350000) :
 Calls Tryz.prog 37 #[.pointer (some ⟨p,0,none⟩),.int .u8 25,.int .u64 n] w (Qa4 base p op (xs ++ 249 :: numBytes 2 n) w):=by
 obtain ⟨v,hv,hrow,hp⟩:=h
 have hc0:=hv.c0
 have o1:Go.bits .or .u8 224 25=249:=by decide +kernel
 obtain ⟨zs,hzs⟩:∃ zs,xs ++ 249 :: numBytes 2 n=zs:=⟨_,rfl⟩
 rw [hzs]
 have HZ:=Lib.hid hzs
 clear hzs
 go_enter Tryz.func37,Tryz.ntmps37
 go_wp2_with (at_builtin;(refine Qbk rfl (.tmp 11) (.tmp 14) rfl base v _ xs [249] 1 rfl w.heap.size rfl (cells_one w _) (hrow.alloc _) (show xs.length+1≤140737488355328 by omega) (by simp;omega) ?_);intro v' n' w' hn' hown' hgrow;obtain ⟨b1,cap1,rfl⟩:=Qb0 hown' (by rw [hn'];simp);have hA:=Wb.appended (hv.alloc _) ((Wrote.refl _ _ _).alloc hb _) (hrow.alloc _) (by simp;omega) hp hown' hgrow;have k0:=hA.1.c0;have kf:=hA.1.fz 0;subst hn')
 obtain ⟨W1,hW1⟩:∃ W1,w'.setCell ⟨p,0,none⟩ (.slice (some ⟨b1,0,none⟩) (xs.length+1) cap1)=W1:=⟨_,rfl⟩
 simp only [List.length_cons,List.length_nil,Nat.zero_add] at hA
 rw [hW1] at hA ⊢
 clear hW1 k0 kf hown' hgrow hc0 hv hrow o1
 obtain ⟨_,hA1,hA2⟩:=hA
 go_loopw [6] (fun i wr=>∃ (k:Nat) (ys:List Int),i=.int .i64 (8*(k:Int) - 8)∧k≤2∧Hid (ys ++ numBytes k n=zs)∧0<ys.length∧ys.length+k≤xs.length+9∧WrIs wr base p op ys∧Wrote base p w wr) (fun i _=>(intOf i+8).toNat)
 case atStart=>exact ⟨2,xs ++ [249],rfl,by omega,Lib.hid (by rw [List.append_assoc];exact HZ.out),by simp,by simp,hA1,hA2⟩
 case round =>
  obtain ⟨k,ys,rfl,hk,hys,hpos,hyl,hW,hB⟩:=hrel
  by_cases hk0:k=0
  · subst hk0
    go_wp2
    go_end0
    refine ⟨rfl,?_,hB⟩
    have:=hys.out
    rw [show numBytes 0 n=[] from rfl,List.append_nil] at this
    rw [← this];exact hW
  · obtain ⟨k,rfl⟩:∃ j,k=j+1:=⟨k - 1,by omega⟩
    rw [show (8*((k+1:Nat):Int) - 8)=8*(k:Int) by omega]
    obtain ⟨v,hv,hrow,hp⟩:=hW
    obtain ⟨b,cap,rfl⟩:=Qb0 hrow hpos
    have hc0:=hv.c0
    have hk8:(k:Int)≤7:=by omega
    obtain ⟨bv,hbv⟩:∃ bv,n / 256 ^ k % 256=bv:=⟨_,rfl⟩
    have hwr:IntKind.u8.wrap (n / 2 ^ (8*(k:Int)).toNat)=bv:=by
     rw [← hbv,show (8*(k:Int)).toNat=8*k by omega,Int.pow_mul]
     exact u8_wrap _
    have hys2:ys ++ [bv] ++ numBytes k n=ys ++ numBytes (k+1) n:=by
     rw [List.append_assoc,← hbv];rfl
    have HX:=Lib.hid (hys2.trans hys.out)
    have HR:=Lib.hid (hrow.alloc (.cells #[.int .u8 bv] 5)).drew
    have HN:=Lib.hid (fun j u hj=>(cells_one wr bv j u hj))
    have HB:=Lib.hid (Nat.le_trans hb hB.size)
    clear hys hys2 hbv hrow
    have hcF:∀ ob,(wr.alloc ob).cell? ⟨p,0,none⟩=some (.slice (some ⟨b,0,none⟩) ys.length cap):=fun ob=>(hv.alloc ob).c0
    obtain ⟨i0,hi,hz0,hz1,hz2⟩:=info_parts info5
    go_wp2_with fail
    go_region_law (refine step_append_lies _ rfl (.tmp 30) (.tmp 35) 26 rfl base 5 i0 (.int .u8 0) 1 1 Tryz.underlying26 hi hz0 hz1 hz2 rfl (by decide) (.slice (some ⟨b,0,none⟩) ys.length cap) ys.length (ys.map (Value.int .u8)) (by simp [Act.eval]) HR.out ⟨wr.heap.size,0,none⟩ 1 1 (List.map (Value.int .u8) [bv]) (by simp [Act.eval]) rfl (by intro j u hj;have e:(⟨wr.heap.size,0,none⟩:Addr).add j=⟨wr.heap.size,j,none⟩:=(by unfold Addr.add;split <;> simp_all);rw [e];exact HN.out j u hj) (one_u8 _) (by decide) (by unfold maxLen;omega) (by omega) (by have:=HB.out;simp;omega) _ rfl ?_;intro g2 cap2 w2 hown2 hgrow2 _ _;have hA:=Wb.appended (ys:=[bv]) (hv.alloc _).drew' (((Wrote.refl base p wr).alloc HB.out _).drew) HR.out (by have:=HB.out;simp;omega) hp (by rw [List.map_append];exact hown2) hgrow2;have hca:=hA.1.c0;have hfa:=hA.1.fz 0)
    all_goals
     go_wp2
     go_roundw
     case rel=>exact ⟨k,ys ++ [bv],rfl,by omega,HX,by simp,by rw [List.length_append];simp;omega,hA.2.1,hB.trans hA.2.2⟩
     case measure=>simp [intOf];omega
set_option maxRecDepth 100000 in
set_option maxHeartbeats 4000000 in
theorem bits26 (base p:Nat) (op:Bool) (xs:List Int) (n:Int) (h0:0≤n) (h1:n<18446744073709551616) (w:World) (h:WrIs w base p op xs) (hb:base≤w.heap.size) (hl:xs.length≤140737488350000) :
 Calls Tryz.prog 37 #[.pointer (some ⟨p,0,none⟩),.int .u8 26,.int .u64 n] w (Qa4 base p op (xs ++ 250 :: numBytes 4 n) w):=by
 obtain ⟨v,hv,hrow,hp⟩:=h
 have hc0:=hv.c0
 have o1:Go.bits .or .u8 224 26=250:=by decide +kernel
 obtain ⟨zs,hzs⟩:∃ zs,xs ++ 250 :: numBytes 4 n=zs:=⟨_,rfl⟩
 rw [hzs]
 have HZ:=Lib.hid hzs
 clear hzs
 go_enter Tryz.func37,Tryz.ntmps37
 go_wp2_with (at_builtin;(refine Qbk rfl (.tmp 11) (.tmp 14) rfl base v _ xs [250] 1 rfl w.heap.size rfl (cells_one w _) (hrow.alloc _) (show xs.length+1≤140737488355328 by omega) (by simp;omega) ?_);intro v' n' w' hn' hown' hgrow;obtain ⟨b1,cap1,rfl⟩:=Qb0 hown' (by rw [hn'];simp);have hA:=Wb.appended (hv.alloc _) ((Wrote.refl _ _ _).alloc hb _) (hrow.alloc _) (by simp;omega) hp hown' hgrow;have k0:=hA.1.c0;have kf:=hA.1.fz 0;subst hn')
 obtain ⟨W1,hW1⟩:∃ W1,w'.setCell ⟨p,0,none⟩ (.slice (some ⟨b1,0,none⟩) (xs.length+1) cap1)=W1:=⟨_,rfl⟩
 simp only [List.length_cons,List.length_nil,Nat.zero_add] at hA
 rw [hW1] at hA ⊢
 clear hW1 k0 kf hown' hgrow hc0 hv hrow o1
 obtain ⟨_,hA1,hA2⟩:=hA
 go_loopw [6] (fun i wr=>∃ (k:Nat) (ys:List Int),i=.int .i64 (8*(k:Int) - 8)∧k≤4∧Hid (ys ++ numBytes k n=zs)∧0<ys.length∧ys.length+k≤xs.length+9∧WrIs wr base p op ys∧Wrote base p w wr) (fun i _=>(intOf i+8).toNat)
 case atStart=>exact ⟨4,xs ++ [250],rfl,by omega,Lib.hid (by rw [List.append_assoc];exact HZ.out),by simp,by simp,hA1,hA2⟩
 case round =>
  obtain ⟨k,ys,rfl,hk,hys,hpos,hyl,hW,hB⟩:=hrel
  by_cases hk0:k=0
  · subst hk0
    go_wp2
    go_end0
    refine ⟨rfl,?_,hB⟩
    have:=hys.out
    rw [show numBytes 0 n=[] from rfl,List.append_nil] at this
    rw [← this];exact hW
  · obtain ⟨k,rfl⟩:∃ j,k=j+1:=⟨k - 1,by omega⟩
    rw [show (8*((k+1:Nat):Int) - 8)=8*(k:Int) by omega]
    obtain ⟨v,hv,hrow,hp⟩:=hW
    obtain ⟨b,cap,rfl⟩:=Qb0 hrow hpos
    have hc0:=hv.c0
    have hk8:(k:Int)≤7:=by omega
    obtain ⟨bv,hbv⟩:∃ bv,n / 256 ^ k % 256=bv:=⟨_,rfl⟩
    have hwr:IntKind.u8.wrap (n / 2 ^ (8*(k:Int)).toNat)=bv:=by
     rw [← hbv,show (8*(k:Int)).toNat=8*k by omega,Int.pow_mul]
     exact u8_wrap _
    have hys2:ys ++ [bv] ++ numBytes k n=ys ++ numBytes (k+1) n:=by
     rw [List.append_assoc,← hbv];rfl
    have HX:=Lib.hid (hys2.trans hys.out)
    have HR:=Lib.hid (hrow.alloc (.cells #[.int .u8 bv] 5)).drew
    have HN:=Lib.hid (fun j u hj=>(cells_one wr bv j u hj))
    have HB:=Lib.hid (Nat.le_trans hb hB.size)
    clear hys hys2 hbv hrow
    have hcF:∀ ob,(wr.alloc ob).cell? ⟨p,0,none⟩=some (.slice (some ⟨b,0,none⟩) ys.length cap):=fun ob=>(hv.alloc ob).c0
    obtain ⟨i0,hi,hz0,hz1,hz2⟩:=info_parts info5
    go_wp2_with fail
    go_region_law (refine step_append_lies _ rfl (.tmp 30) (.tmp 35) 26 rfl base 5 i0 (.int .u8 0) 1 1 Tryz.underlying26 hi hz0 hz1 hz2 rfl (by decide) (.slice (some ⟨b,0,none⟩) ys.length cap) ys.length (ys.map (Value.int .u8)) (by simp [Act.eval]) HR.out ⟨wr.heap.size,0,none⟩ 1 1 (List.map (Value.int .u8) [bv]) (by simp [Act.eval]) rfl (by intro j u hj;have e:(⟨wr.heap.size,0,none⟩:Addr).add j=⟨wr.heap.size,j,none⟩:=(by unfold Addr.add;split <;> simp_all);rw [e];exact HN.out j u hj) (one_u8 _) (by decide) (by unfold maxLen;omega) (by omega) (by have:=HB.out;simp;omega) _ rfl ?_;intro g2 cap2 w2 hown2 hgrow2 _ _;have hA:=Wb.appended (ys:=[bv]) (hv.alloc _).drew' (((Wrote.refl base p wr).alloc HB.out _).drew) HR.out (by have:=HB.out;simp;omega) hp (by rw [List.map_append];exact hown2) hgrow2;have hca:=hA.1.c0;have hfa:=hA.1.fz 0)
    all_goals
     go_wp2
     go_roundw
     case rel=>exact ⟨k,ys ++ [bv],rfl,by omega,HX,by simp,by rw [List.length_append];simp;omega,hA.2.1,hB.trans hA.2.2⟩
     case measure=>simp [intOf];omega
set_option maxRecDepth 100000 in
set_option maxHeartbeats 4000000 in
theorem bits27 (base p:Nat) (op:Bool) (xs:List Int) (n:Int) (h0:0≤n) (h1:n<18446744073709551616) (w:World) (h:WrIs w base p op xs) (hb:base≤w.heap.size) (hl:xs.length≤140737488350000) :
 Calls Tryz.prog 37 #[.pointer (some ⟨p,0,none⟩),.int .u8 27,.int .u64 n] w (Qa4 base p op (xs ++ 251 :: numBytes 8 n) w):=by
 obtain ⟨v,hv,hrow,hp⟩:=h
 have hc0:=hv.c0
 have o1:Go.bits .or .u8 224 27=251:=by decide +kernel
 obtain ⟨zs,hzs⟩:∃ zs,xs ++ 251 :: numBytes 8 n=zs:=⟨_,rfl⟩
 rw [hzs]
 have HZ:=Lib.hid hzs
 clear hzs
 go_enter Tryz.func37,Tryz.ntmps37
 go_wp2_with (at_builtin;(refine Qbk rfl (.tmp 11) (.tmp 14) rfl base v _ xs [251] 1 rfl w.heap.size rfl (cells_one w _) (hrow.alloc _) (show xs.length+1≤140737488355328 by omega) (by simp;omega) ?_);intro v' n' w' hn' hown' hgrow;obtain ⟨b1,cap1,rfl⟩:=Qb0 hown' (by rw [hn'];simp);have hA:=Wb.appended (hv.alloc _) ((Wrote.refl _ _ _).alloc hb _) (hrow.alloc _) (by simp;omega) hp hown' hgrow;have k0:=hA.1.c0;have kf:=hA.1.fz 0;subst hn')
 obtain ⟨W1,hW1⟩:∃ W1,w'.setCell ⟨p,0,none⟩ (.slice (some ⟨b1,0,none⟩) (xs.length+1) cap1)=W1:=⟨_,rfl⟩
 simp only [List.length_cons,List.length_nil,Nat.zero_add] at hA
 rw [hW1] at hA ⊢
 clear hW1 k0 kf hown' hgrow hc0 hv hrow o1
 obtain ⟨_,hA1,hA2⟩:=hA
 go_loopw [6] (fun i wr=>∃ (k:Nat) (ys:List Int),i=.int .i64 (8*(k:Int) - 8)∧k≤8∧Hid (ys ++ numBytes k n=zs)∧0<ys.length∧ys.length+k≤xs.length+9∧WrIs wr base p op ys∧Wrote base p w wr) (fun i _=>(intOf i+8).toNat)
 case atStart=>exact ⟨8,xs ++ [251],rfl,by omega,Lib.hid (by rw [List.append_assoc];exact HZ.out),by simp,by simp,hA1,hA2⟩
 case round =>
  obtain ⟨k,ys,rfl,hk,hys,hpos,hyl,hW,hB⟩:=hrel
  by_cases hk0:k=0
  · subst hk0
    go_wp2
    go_end0
    refine ⟨rfl,?_,hB⟩
    have:=hys.out
    rw [show numBytes 0 n=[] from rfl,List.append_nil] at this
    rw [← this];exact hW
  · obtain ⟨k,rfl⟩:∃ j,k=j+1:=⟨k - 1,by omega⟩
    rw [show (8*((k+1:Nat):Int) - 8)=8*(k:Int) by omega]
    obtain ⟨v,hv,hrow,hp⟩:=hW
    obtain ⟨b,cap,rfl⟩:=Qb0 hrow hpos
    have hc0:=hv.c0
    have hk8:(k:Int)≤7:=by omega
    obtain ⟨bv,hbv⟩:∃ bv,n / 256 ^ k % 256=bv:=⟨_,rfl⟩
    have hwr:IntKind.u8.wrap (n / 2 ^ (8*(k:Int)).toNat)=bv:=by
     rw [← hbv,show (8*(k:Int)).toNat=8*k by omega,Int.pow_mul]
     exact u8_wrap _
    have hys2:ys ++ [bv] ++ numBytes k n=ys ++ numBytes (k+1) n:=by
     rw [List.append_assoc,← hbv];rfl
    have HX:=Lib.hid (hys2.trans hys.out)
    have HR:=Lib.hid (hrow.alloc (.cells #[.int .u8 bv] 5)).drew
    have HN:=Lib.hid (fun j u hj=>(cells_one wr bv j u hj))
    have HB:=Lib.hid (Nat.le_trans hb hB.size)
    clear hys hys2 hbv hrow
    have hcF:∀ ob,(wr.alloc ob).cell? ⟨p,0,none⟩=some (.slice (some ⟨b,0,none⟩) ys.length cap):=fun ob=>(hv.alloc ob).c0
    obtain ⟨i0,hi,hz0,hz1,hz2⟩:=info_parts info5
    go_wp2_with fail
    go_region_law (refine step_append_lies _ rfl (.tmp 30) (.tmp 35) 26 rfl base 5 i0 (.int .u8 0) 1 1 Tryz.underlying26 hi hz0 hz1 hz2 rfl (by decide) (.slice (some ⟨b,0,none⟩) ys.length cap) ys.length (ys.map (Value.int .u8)) (by simp [Act.eval]) HR.out ⟨wr.heap.size,0,none⟩ 1 1 (List.map (Value.int .u8) [bv]) (by simp [Act.eval]) rfl (by intro j u hj;have e:(⟨wr.heap.size,0,none⟩:Addr).add j=⟨wr.heap.size,j,none⟩:=(by unfold Addr.add;split <;> simp_all);rw [e];exact HN.out j u hj) (one_u8 _) (by decide) (by unfold maxLen;omega) (by omega) (by have:=HB.out;simp;omega) _ rfl ?_;intro g2 cap2 w2 hown2 hgrow2 _ _;have hA:=Wb.appended (ys:=[bv]) (hv.alloc _).drew' (((Wrote.refl base p wr).alloc HB.out _).drew) HR.out (by have:=HB.out;simp;omega) hp (by rw [List.map_append];exact hown2) hgrow2;have hca:=hA.1.c0;have hfa:=hA.1.fz 0)
    all_goals
     go_wp2
     go_roundw
     case rel=>exact ⟨k,ys ++ [bv],rfl,by omega,HX,by simp,by rw [List.length_append];simp;omega,hA.2.1,hB.trans hA.2.2⟩
     case measure=>simp [intOf];omega
mutual
def Rt:T→Prop | ⟨k,neg,n,s,l⟩=>(oneF k neg n s l=true∧(leafF k=true→l=[]))∧RtL l
def RtL:List T→Prop | []=>True | t :: r=>Rt t∧RtL r
end
theorem rtL_mem:∀ {l:List T} {t:T},RtL l→t ∈ l→Rt t
 | x :: r,t,hw,h=>by
   rcases List.mem_cons.1 h with rfl | h
   · exact hw.1
   · exact rtL_mem hw.2 h
def openF (op:Bool) (m:Int) (n:Int):List Int:=if op then [m*32+31] else putF m n
mutual
def itemF (op:Bool):T→List Int
 | ⟨k,neg,n,s,l⟩ =>
   if k=0 then putF 7 22
   else if k=1 then putF 7 (n+20)
   else if k=2 then putF 7 23
   else if k=3 then putF 7 n
   else if k=4 then putF (if neg then 1 else 0) n
   else if k=5 then putF 6 (2+if neg then 1 else 0) ++ textF op 2 s
   else if k=6 then 249 :: numBytes 2 n
   else if k=7 then 250 :: numBytes 4 n
   else if k=8 then 251 :: numBytes 8 n
   else if k=9 then textF op 2 s
   else if k=10 then textF op 3 s
   else if k=11 then openF op 4 l.length ++ (Qbf op l ++ if op then [255] else [])
   else if k=12 then openF op 5 (l.length / 2:Nat) ++ (Qbf op l ++ if op then [255] else [])
   else if k=13 then putF 6 n ++ Qbf op l
   else []
def Qbf (op:Bool):List T→List Int | []=>[] | t :: r=>itemF op t ++ Qbf op r
end
theorem numBytes_len (k:Nat) (n:Int):(numBytes k n).length=k:=by
 induction k with
 | zero=>rfl
 | succ k ih=>simp [numBytes,ih]
theorem textF_len (op:Bool) (m:Int) (m':Nat) (hm:m=m') (s:ByteArray):(textF op m' s).length≤s.size+19:=by
 unfold textF
 have h1:=putF_len m' s.size
 have h2:=strB_len s
 rw [List.length_append,List.length_append,List.length_append,h2]
 have h3:(if op=true then [(m':Int)*32+31] else putF m' s.size).length≤9:=by
  split
  · simp
  · exact h1
 have h4:(if op=true∧s ≠ ⟨#[]⟩ then putF m' s.size else []).length≤9:=by
  split
  · exact h1
  · simp
 have h5:(if op=true then [(255:Int)] else []).length≤1:=by split <;> simp
 omega
theorem openF_len (op:Bool) (m n:Int):(openF op m n).length≤9:=by
 unfold openF
 split
 · simp
 · exact putF_len m n
theorem itemF_len (op:Bool):∀ t:T,(itemF op t).length≤32*bulk t:=by
 intro t
 induction t using T.ind with
 | h k neg n s l ih =>
   have hl:(Qbf op l).length≤32*bulkL l:=by
    clear neg n s
    induction l with
    | nil=>simp [Qbf,bulkL]
    | cons t r ih2 =>
      have h1:=ih t (List.mem_cons_self ..)
      have h2:=ih2 fun u hu=>ih u (List.mem_cons_of_mem _ hu)
      simp only [Qbf,bulkL,List.length_append];omega
   have h1:=fun m n=>putF_len m n
   have h5:(if op=true then [(255:Int)] else []).length≤1:=by split <;> simp
   have h2:=textF_len op 2 2 rfl s
   have h3:=textF_len op 3 3 rfl s
   have h4:=fun m n=>openF_len op m n
   rw [itemF]
   simp only [bulk]
   by_cases h20:k=0
   · rw [if_pos h20];have:=h1 7 22;omega
   rw [if_neg h20];clear h20
   by_cases h21:k=1
   · rw [if_pos h21];have:=h1 7 (n+20);omega
   rw [if_neg h21];clear h21
   by_cases h22:k=2
   · rw [if_pos h22];have:=h1 7 23;omega
   rw [if_neg h22];clear h22
   by_cases h23:k=3
   · rw [if_pos h23];have:=h1 7 n;omega
   rw [if_neg h23];clear h23
   by_cases h24:k=4
   · rw [if_pos h24];have:=h1 (if neg=true then 1 else 0) n;omega
   rw [if_neg h24];clear h24
   by_cases h25:k=5
   · rw [if_pos h25];have:=h1 6 (2+if neg=true then 1 else 0);rw [List.length_append];omega
   rw [if_neg h25];clear h25
   by_cases h26:k=6
   · rw [if_pos h26];rw [List.length_cons,numBytes_len];omega
   rw [if_neg h26];clear h26
   by_cases h27:k=7
   · rw [if_pos h27];rw [List.length_cons,numBytes_len];omega
   rw [if_neg h27];clear h27
   by_cases h28:k=8
   · rw [if_pos h28];rw [List.length_cons,numBytes_len];omega
   rw [if_neg h28];clear h28
   by_cases h29:k=9
   · rw [if_pos h29];omega
   rw [if_neg h29];clear h29
   by_cases h30:k=10
   · rw [if_pos h30];omega
   rw [if_neg h30];clear h30
   by_cases h31:k=11
   · rw [if_pos h31];have:=h4 4 l.length;rw [List.length_append,List.length_append];omega
   rw [if_neg h31];clear h31
   by_cases h32:k=12
   · rw [if_pos h32];have:=h4 5 (l.length / 2:Nat);rw [List.length_append,List.length_append];omega
   rw [if_neg h32];clear h32
   by_cases h33:k=13
   · rw [if_pos h33];have:=h1 6 n;rw [List.length_append];omega
   rw [if_neg h33];clear h33
   simp
theorem itemsF_take {op:Bool} {l:List T} {i:Nat} {t:T} (h:l[i]? = some t):Qbf op (l.take (i+1))=Qbf op (l.take i) ++ itemF op t:=by
 have snoc:∀ (r:List T),Qbf op (r ++ [t])=Qbf op r ++ itemF op t:=by
  intro r
  induction r with
  | nil=>simp [Qbf]
  | cons a r ih=>simp only [List.cons_append,Qbf,ih,List.append_assoc]
 rw [List.take_add_one,h,Option.toList_some,snoc]
theorem itemsF_len (op:Bool):∀ l:List T,(Qbf op l).length≤32*bulkL l
 | []=>by simp [Qbf,bulkL]
 | t :: r=>by
   have h1:=itemF_len op t
   have h2:=itemsF_len op r
   simp only [Qbf,bulkL,List.length_append];omega
open Go.RowKit Go.Proofs.YtfmceonbejlhlaaGreatDoorW.PrintWords Go.Proofs.YtfmceonbejlhlaaGreatDoorW.PrintLast Go.Proofs.YtfmceonbejlhlaaGreatDoorW.PrintMore
set_option linter.unusedVariables false
theorem number_any (b:Bool) (w:World):Calls Tryz.prog 36 #[.bool b] w fun e w'=>e=.returned (.int .i64 (if b then 1 else 0))∧w'=w:=by
 go_enter Tryz.func36,Tryz.ntmps36
 cases b
 · go_wp2
   go_ret
   exact ⟨rfl,rfl⟩
 · go_wp2
   go_ret
   exact ⟨rfl,rfl⟩
theorem WrIs.alloc {W:World} {base p:Nat} {op:Bool} {xs:List Int} (h:WrIs W base p op xs) (o:Obj):WrIs (W.alloc o) base p op xs:=by
 obtain ⟨v,hv,hrow,hp⟩:=h
 exact ⟨v,hv.alloc o,hrow.alloc o,hp⟩
theorem WrIs.lt {W:World} {base p:Nat} {op:Bool} {xs:List Int} (h:WrIs W base p op xs):p<W.heap.size:=by
 obtain ⟨v,hv,_⟩:=h
 exact hv.lt
theorem Qa4.after {base p:Nat} {op:Bool} {xs:List Int} {w w1:World} {e:Ending} {w':World} (hb:Wrote base p w w1) (h:Qa4 base p op xs w1 e w'):Qa4 base p op xs w e w':=⟨h.1,h.2.1,hb.trans h.2.2⟩
set_option maxRecDepth 100000 in
set_option maxHeartbeats 4000000 in
theorem item_0 (op:Bool) (neg:Bool) (n:Int) (s:ByteArray) (av:Value) (base p:Nat) (xs:List Int) (w:World) (hbase:base≤w.heap.size) (hn0:0≤n) (hn1:n<18446744073709551616) (hlen:xs.length+s.size+32≤140737488340000) (hw:WrIs w base p op xs) :
 Calls Tryz.prog 18 #[.pointer (some ⟨p,0,none⟩),.agg #[.int .i64 0,.bool neg,.int .u64 n,.string s,av]] w (Qa4 base p op (xs ++ putF 7 22) w):=by
 have R:=Row5.new w (.int .i64 0) (.bool neg) (.int .u64 n) (.string s) av
 have hB:=(Wrote.refl base p w).alloc hbase (.cells #[.int .i64 0,.bool neg,.int .u64 n,.string s,av] 25)
 have hW1:=hw.alloc (.cells #[.int .i64 0,.bool neg,.int .u64 n,.string s,av] 25)
 have hb1:=Nat.le_trans hbase (hB.size)
 have hc0:=R.c0
 have hc1:=R.c1
 have hc2:=R.c2
 have hc3:=R.c3
 go_enter Tryz.func18,Tryz.ntmps18
 go_wp2_with (go_at_call 35;refine (head7_any base p op xs 22 (by omega) (by omega) _ hW1 hb1 (by omega)).mono ?_;rintro e w2 ⟨rfl,hw2,hb2⟩)
 go_end0
 exact ⟨rfl,hw2,hB.trans hb2⟩
set_option maxRecDepth 100000 in
set_option maxHeartbeats 4000000 in
theorem item_2 (op:Bool) (neg:Bool) (n:Int) (s:ByteArray) (av:Value) (base p:Nat) (xs:List Int) (w:World) (hbase:base≤w.heap.size) (hn0:0≤n) (hn1:n<18446744073709551616) (hlen:xs.length+s.size+32≤140737488340000) (hw:WrIs w base p op xs) :
 Calls Tryz.prog 18 #[.pointer (some ⟨p,0,none⟩),.agg #[.int .i64 2,.bool neg,.int .u64 n,.string s,av]] w (Qa4 base p op (xs ++ putF 7 23) w):=by
 have R:=Row5.new w (.int .i64 2) (.bool neg) (.int .u64 n) (.string s) av
 have hB:=(Wrote.refl base p w).alloc hbase (.cells #[.int .i64 2,.bool neg,.int .u64 n,.string s,av] 25)
 have hW1:=hw.alloc (.cells #[.int .i64 2,.bool neg,.int .u64 n,.string s,av] 25)
 have hb1:=Nat.le_trans hbase (hB.size)
 have hc0:=R.c0
 have hc1:=R.c1
 have hc2:=R.c2
 have hc3:=R.c3
 go_enter Tryz.func18,Tryz.ntmps18
 go_wp2_with (go_at_call 35;refine (head7_any base p op xs 23 (by omega) (by omega) _ hW1 hb1 (by omega)).mono ?_;rintro e w2 ⟨rfl,hw2,hb2⟩)
 go_end0
 exact ⟨rfl,hw2,hB.trans hb2⟩
set_option maxRecDepth 100000 in
set_option maxHeartbeats 4000000 in
theorem item_3 (op:Bool) (neg:Bool) (n:Int) (s:ByteArray) (av:Value) (base p:Nat) (xs:List Int) (w:World) (hbase:base≤w.heap.size) (hn0:0≤n) (hn1:n<18446744073709551616) (hlen:xs.length+s.size+32≤140737488340000) (hw:WrIs w base p op xs) :
 Calls Tryz.prog 18 #[.pointer (some ⟨p,0,none⟩),.agg #[.int .i64 3,.bool neg,.int .u64 n,.string s,av]] w (Qa4 base p op (xs ++ putF 7 n) w):=by
 have R:=Row5.new w (.int .i64 3) (.bool neg) (.int .u64 n) (.string s) av
 have hB:=(Wrote.refl base p w).alloc hbase (.cells #[.int .i64 3,.bool neg,.int .u64 n,.string s,av] 25)
 have hW1:=hw.alloc (.cells #[.int .i64 3,.bool neg,.int .u64 n,.string s,av] 25)
 have hb1:=Nat.le_trans hbase (hB.size)
 have hc0:=R.c0
 have hc1:=R.c1
 have hc2:=R.c2
 have hc3:=R.c3
 go_enter Tryz.func18,Tryz.ntmps18
 go_wp2_with (go_at_call 35;refine (head7_any base p op xs n (by omega) (by omega) _ hW1 hb1 (by omega)).mono ?_;rintro e w2 ⟨rfl,hw2,hb2⟩)
 go_end0
 exact ⟨rfl,hw2,hB.trans hb2⟩
set_option maxRecDepth 100000 in
set_option maxHeartbeats 4000000 in
theorem item_9 (op:Bool) (neg:Bool) (n:Int) (s:ByteArray) (av:Value) (base p:Nat) (xs:List Int) (w:World) (hbase:base≤w.heap.size) (hn0:0≤n) (hn1:n<18446744073709551616) (hlen:xs.length+s.size+32≤140737488340000) (hw:WrIs w base p op xs) :
 Calls Tryz.prog 18 #[.pointer (some ⟨p,0,none⟩),.agg #[.int .i64 9,.bool neg,.int .u64 n,.string s,av]] w (Qa4 base p op (xs ++ textF op 2 s) w):=by
 have R:=Row5.new w (.int .i64 9) (.bool neg) (.int .u64 n) (.string s) av
 have hB:=(Wrote.refl base p w).alloc hbase (.cells #[.int .i64 9,.bool neg,.int .u64 n,.string s,av] 25)
 have hW1:=hw.alloc (.cells #[.int .i64 9,.bool neg,.int .u64 n,.string s,av] 25)
 have hb1:=Nat.le_trans hbase (hB.size)
 have hc0:=R.c0
 have hc1:=R.c1
 have hc2:=R.c2
 have hc3:=R.c3
 go_enter Tryz.func18,Tryz.ntmps18
 go_wp2_with (go_at_call 38;refine (text_any base p op xs 2 s (by omega) _ hW1 hb1 (by omega)).mono ?_;rintro e w2 ⟨rfl,hw2,hb2⟩)
 go_end0
 exact ⟨rfl,hw2,hB.trans hb2⟩
set_option maxRecDepth 100000 in
set_option maxHeartbeats 4000000 in
theorem item_10 (op:Bool) (neg:Bool) (n:Int) (s:ByteArray) (av:Value) (base p:Nat) (xs:List Int) (w:World) (hbase:base≤w.heap.size) (hn0:0≤n) (hn1:n<18446744073709551616) (hlen:xs.length+s.size+32≤140737488340000) (hw:WrIs w base p op xs) :
 Calls Tryz.prog 18 #[.pointer (some ⟨p,0,none⟩),.agg #[.int .i64 10,.bool neg,.int .u64 n,.string s,av]] w (Qa4 base p op (xs ++ textF op 3 s) w):=by
 have R:=Row5.new w (.int .i64 10) (.bool neg) (.int .u64 n) (.string s) av
 have hB:=(Wrote.refl base p w).alloc hbase (.cells #[.int .i64 10,.bool neg,.int .u64 n,.string s,av] 25)
 have hW1:=hw.alloc (.cells #[.int .i64 10,.bool neg,.int .u64 n,.string s,av] 25)
 have hb1:=Nat.le_trans hbase (hB.size)
 have hc0:=R.c0
 have hc1:=R.c1
 have hc2:=R.c2
 have hc3:=R.c3
 go_enter Tryz.func18,Tryz.ntmps18
 go_wp2_with (go_at_call 38;refine (text_any base p op xs 3 s (by omega) _ hW1 hb1 (by omega)).mono ?_;rintro e w2 ⟨rfl,hw2,hb2⟩)
 go_end0
 exact ⟨rfl,hw2,hB.trans hb2⟩
set_option maxRecDepth 100000 in
set_option maxHeartbeats 4000000 in
theorem item_6 (op:Bool) (neg:Bool) (n:Int) (s:ByteArray) (av:Value) (base p:Nat) (xs:List Int) (w:World) (hbase:base≤w.heap.size) (hn0:0≤n) (hn1:n<18446744073709551616) (hlen:xs.length+s.size+32≤140737488340000) (hw:WrIs w base p op xs) :
 Calls Tryz.prog 18 #[.pointer (some ⟨p,0,none⟩),.agg #[.int .i64 6,.bool neg,.int .u64 n,.string s,av]] w (Qa4 base p op (xs ++ 249 :: numBytes 2 n) w):=by
 have R:=Row5.new w (.int .i64 6) (.bool neg) (.int .u64 n) (.string s) av
 have hB:=(Wrote.refl base p w).alloc hbase (.cells #[.int .i64 6,.bool neg,.int .u64 n,.string s,av] 25)
 have hW1:=hw.alloc (.cells #[.int .i64 6,.bool neg,.int .u64 n,.string s,av] 25)
 have hb1:=Nat.le_trans hbase (hB.size)
 have hc0:=R.c0
 have hc1:=R.c1
 have hc2:=R.c2
 have hc3:=R.c3
 go_enter Tryz.func18,Tryz.ntmps18
 go_wp2_with (go_at_call 37;refine (bits25 base p op xs n (by omega) (by omega) _ hW1 hb1 (by omega)).mono ?_;rintro e w2 ⟨rfl,hw2,hb2⟩)
 go_end0
 exact ⟨rfl,hw2,hB.trans hb2⟩
set_option maxRecDepth 100000 in
set_option maxHeartbeats 4000000 in
theorem item_7 (op:Bool) (neg:Bool) (n:Int) (s:ByteArray) (av:Value) (base p:Nat) (xs:List Int) (w:World) (hbase:base≤w.heap.size) (hn0:0≤n) (hn1:n<18446744073709551616) (hlen:xs.length+s.size+32≤140737488340000) (hw:WrIs w base p op xs) :
 Calls Tryz.prog 18 #[.pointer (some ⟨p,0,none⟩),.agg #[.int .i64 7,.bool neg,.int .u64 n,.string s,av]] w (Qa4 base p op (xs ++ 250 :: numBytes 4 n) w):=by
 have R:=Row5.new w (.int .i64 7) (.bool neg) (.int .u64 n) (.string s) av
 have hB:=(Wrote.refl base p w).alloc hbase (.cells #[.int .i64 7,.bool neg,.int .u64 n,.string s,av] 25)
 have hW1:=hw.alloc (.cells #[.int .i64 7,.bool neg,.int .u64 n,.string s,av] 25)
 have hb1:=Nat.le_trans hbase (hB.size)
 have hc0:=R.c0
 have hc1:=R.c1
 have hc2:=R.c2
 have hc3:=R.c3
 go_enter Tryz.func18,Tryz.ntmps18
 go_wp2_with (go_at_call 37;refine (bits26 base p op xs n (by omega) (by omega) _ hW1 hb1 (by omega)).mono ?_;rintro e w2 ⟨rfl,hw2,hb2⟩)
 go_end0
 exact ⟨rfl,hw2,hB.trans hb2⟩
set_option maxRecDepth 100000 in
set_option maxHeartbeats 4000000 in
theorem item_8 (op:Bool) (neg:Bool) (n:Int) (s:ByteArray) (av:Value) (base p:Nat) (xs:List Int) (w:World) (hbase:base≤w.heap.size) (hn0:0≤n) (hn1:n<18446744073709551616) (hlen:xs.length+s.size+32≤140737488340000) (hw:WrIs w base p op xs) :
 Calls Tryz.prog 18 #[.pointer (some ⟨p,0,none⟩),.agg #[.int .i64 8,.bool neg,.int .u64 n,.string s,av]] w (Qa4 base p op (xs ++ 251 :: numBytes 8 n) w):=by
 have R:=Row5.new w (.int .i64 8) (.bool neg) (.int .u64 n) (.string s) av
 have hB:=(Wrote.refl base p w).alloc hbase (.cells #[.int .i64 8,.bool neg,.int .u64 n,.string s,av] 25)
 have hW1:=hw.alloc (.cells #[.int .i64 8,.bool neg,.int .u64 n,.string s,av] 25)
 have hb1:=Nat.le_trans hbase (hB.size)
 have hc0:=R.c0
 have hc1:=R.c1
 have hc2:=R.c2
 have hc3:=R.c3
 go_enter Tryz.func18,Tryz.ntmps18
 go_wp2_with (go_at_call 37;refine (bits27 base p op xs n (by omega) (by omega) _ hW1 hb1 (by omega)).mono ?_;rintro e w2 ⟨rfl,hw2,hb2⟩)
 go_end0
 exact ⟨rfl,hw2,hB.trans hb2⟩
set_option maxRecDepth 100000 in
set_option maxHeartbeats 4000000 in
theorem item_14 (op:Bool) (neg:Bool) (n:Int) (s:ByteArray) (av:Value) (base p:Nat) (xs:List Int) (w:World) (hbase:base≤w.heap.size) (hn0:0≤n) (hn1:n<18446744073709551616) (hlen:xs.length+s.size+32≤140737488340000) (hw:WrIs w base p op xs) :
 Calls Tryz.prog 18 #[.pointer (some ⟨p,0,none⟩),.agg #[.int .i64 14,.bool neg,.int .u64 n,.string s,av]] w (Qa4 base p op (xs ++ []) w):=by
 have R:=Row5.new w (.int .i64 14) (.bool neg) (.int .u64 n) (.string s) av
 have hB:=(Wrote.refl base p w).alloc hbase (.cells #[.int .i64 14,.bool neg,.int .u64 n,.string s,av] 25)
 have hW1:=hw.alloc (.cells #[.int .i64 14,.bool neg,.int .u64 n,.string s,av] 25)
 have hb1:=Nat.le_trans hbase (hB.size)
 have hc0:=R.c0
 have hc1:=R.c1
 have hc2:=R.c2
 have hc3:=R.c3
 go_enter Tryz.func18,Tryz.ntmps18
 go_wp2
 go_end0
 rw [List.append_nil]
 exact ⟨rfl,hW1,hB⟩
end Go.Proofs.YtfmceonbejlhlaaGreatDoor
