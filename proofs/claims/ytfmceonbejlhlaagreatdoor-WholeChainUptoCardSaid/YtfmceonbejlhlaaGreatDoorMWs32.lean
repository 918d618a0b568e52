import Derived.Test.YtfmceonbejlhlaaGreatDoorMWs7
import Derived.Test.YtfmceonbejlhlaaGreatDoorMWs21
import Derived.Test.YtfmceonbejlhlaaGreatDoorMWs24
import Derived.Test.YtfmceonbejlhlaaGreatDoorMWs27
namespace Go.Proofs.YtfmceonbejlhlaaGreatDoor
open Go.RowKit
set_option linter.unusedVariables false
def clsN (n:Int):Int:=cls ((n / 4503599627370496) % 2048) (n % 4503599627370496)
def sayB (f k:Int) (neg:Bool) (n:Int):Bool :=
 if f=1 then k != 14
 else if f=2 then (if k=4 then (!neg || n / 9223372036854775808 == 0) else !(k == 2 || k == 3 || k == 5 || k == 6 || k == 13))
 else if f=0 then (if k=8 then decide (clsN n<3) else !(k == 2 || k == 3 || k == 6 || k == 7 || k == 9 || k == 13 || k == 14))
 else true
def keyB (f:Int) (key:Bool) (t:T):Bool:=!(key && f == 0 && t.f0 != 10)
def keyAt (k:Int) (i:Nat):Bool:=k == 12 && i % 2 == 0
mutual
def fitF (f:Int):T→Bool | ⟨k,neg,n,s,l⟩=>sayB f k neg n && fitL f k 0 l
def fitL (f k:Int):Nat→List T→Bool | _,[]=>true | i,t :: r=>(keyB f (keyAt k i) t && fitF f t) && fitL f k (i+1) r
end
mutual
def preK:Bool→T→List (Bool × T) | key,⟨k,neg,n,s,l⟩=>(key,⟨k,neg,n,s,l⟩) :: preKL k 0 l
def preKL (k:Int):Nat→List T→List (Bool × T) | _,[]=>[] | i,t :: r=>preK (keyAt k i) t ++ preKL k (i+1) r
end
def spotB (f:Int) (x:Bool × T):Bool:=sayB f x.2.f0 x.2.f1 x.2.f2 && keyB f x.1 x.2
theorem preK_all (f:Int):∀ (t:T) (key:Bool),(preK key t).all (spotB f)=(keyB f key t && fitF f t):=by
 intro t
 induction t using T.ind with
 | h k neg n s l ih =>
   intro key
   have hL:∀ (r:List T) (i:Nat),(∀ t ∈ r,∀ key,(preK key t).all (spotB f)=(keyB f key t && fitF f t))→(preKL k i r).all (spotB f)=fitL f k i r:=by
    intro r
    induction r with
    | nil=>intro i _;simp [preKL,fitL]
    | cons t r ih2 =>
      intro i h
      rw [preKL,List.all_append,h t (List.mem_cons_self ..),ih2 (i+1) fun u hu=>h u (List.mem_cons_of_mem _ hu),fitL]
   rw [preK,List.all_cons,hL l 0 ih,fitF]
   unfold spotB
   dsimp only
   cases sayB f k neg n <;> cases keyB f key ⟨k,neg,n,s,l⟩ <;> simp
theorem fitL_snoc (f k:Int) (x:T):∀ (l:List T) (i:Nat),fitL f k i (l ++ [x])=(fitL f k i l && (keyB f (keyAt k (i+l.length)) x && fitF f x))
 | [],i=>by simp [fitL]
 | t :: r,i=>by
   rw [List.cons_append,fitL,fitL,fitL_snoc f k x r (i+1),List.length_cons,show i+1+r.length=i+(r.length+1) by omega]
   simp only [Bool.and_assoc]
theorem preKL_map (k:Int):∀ (t:T) (key:Bool),(preK key t).map (·.2)=preF t:=by
 intro t
 induction t using T.ind with
 | h k neg n s l ih =>
   intro key
   have hL:∀ (r:List T) (i:Nat),(∀ t ∈ r,∀ key,(preK key t).map (·.2)=preF t)→(preKL k i r).map (·.2)=preL r:=by
    intro r
    induction r with
    | nil=>intro i _;simp [preKL,preL]
    | cons t r ih2 =>
      intro i h
      rw [preKL,List.map_append,h t (List.mem_cons_self ..),ih2 (i+1) fun u hu=>h u (List.mem_cons_of_mem _ hu),preL]
   rw [preK,List.map_cons,hL l 0 ih,preF]
def IsText (t:T) (m:Nat):Prop:=∃ S:ByteArray,t=⟨10,false,0,S,[]⟩∧Utf S∧S.size+1≤m
structure BecOk (f:Int) (t u:T) (m:Nat):Prop where
 wf:Wf u
 nb:(preF u).all nodeB=true
 fit:fitF f u=true
 dep:depthF u≤depthF t
 cnt:(preF u).length≤(preF t).length
 zero:m=0↔fitF f t=true
 same:m=0→u=t
 size:bulk u≤2048*bulk t
 txt:t.f0=10→u.f0=10
 byt:f=1→u.f0=9→t.f0=9∧u.f3=t.f3
def ElOk (f k:Int) (i:Nat) (x y:T) (m:Nat):Prop:=(keyB f (keyAt k i) x=true∧BecOk f x y m) ∨ (keyB f (keyAt k i) x=false∧m=1∧IsText y (2048*bulk x))
inductive LoOk (f k:Int):List T→List T→Nat→Prop
 | nil:LoOk f k [] [] 0
 | snoc {l u:List T} {m n:Nat} {x y:T}:LoOk f k l u m→ElOk f k l.length x y n→LoOk f k (l ++ [x]) (u ++ [y]) (m+n)
theorem wfL_app:∀ {a b:List T},WfL a→WfL b→WfL (a ++ b)
 | [],b,_,h=>h
 | t :: r,b,h1,h2=>⟨h1.1,wfL_app h1.2 h2⟩
theorem bulkL_app:∀ (a b:List T),bulkL (a ++ b)=bulkL a+bulkL b
 | [],b=>by simp [bulkL]
 | t :: r,b=>by simp only [List.cons_append,bulkL];rw [bulkL_app r b];omega
theorem wfT {k:Int} {neg:Bool} {n:Int} {s:ByteArray} {l:List T}:Wf ⟨k,neg,n,s,l⟩↔(Lit.int .i64 k).wf=true∧(Lit.int .u64 n).wf=true∧WfL l:=by rw [Wf]
theorem isText_ok {f:Int} {t:T} {m:Nat} (h:IsText t m):Wf t∧(preF t).all nodeB=true∧fitF f t=true∧depthF t=0∧(preF t).length=1∧bulk t≤m∧t.f0=10:=by
 obtain ⟨S,rfl,hu,hm⟩:=h
 have ho:oneF 10 false 0 S []=true:=by
  unfold oneF
  rw [if_neg (by decide),if_neg (by decide),if_pos rfl]
  have:(chk S).2=0:=hu
  rw [this];rfl
 refine ⟨?_,?_,?_,?_,?_,?_,rfl⟩
 · rw [wfT];exact ⟨by decide,by decide,trivial⟩
 · simp only [preF,preL,List.all_cons,List.all_nil,nodeB,ho];rfl
 · rw [fitF,fitL]
   have:sayB f 10 false 0=true:=by
    unfold sayB
    repeat' split
    all_goals first | rfl | (exfalso;revert ‹(10:Int)=_›;decide)
   rw [this];rfl
 · rw [depthF];rfl
 · simp [preF,preL]
 · simp only [bulk,bulkL];omega
theorem preL_len_pos (t:T):1≤(preF t).length:=by obtain ⟨_,_,_,_,_⟩:=t;simp [preF]
theorem bulk_pos (t:T):1≤bulk t:=by obtain ⟨_,_,_,_,_⟩:=t;simp [bulk]
theorem preL_all (p:T→Bool):∀ l:List T,(preL l).all p=l.all fun t=>(preF t).all p
 | []=>by simp [preL]
 | t :: r=>by rw [preL,List.all_append,preL_all p r,List.all_cons]
structure LoIs (f k:Int) (l u:List T) (m:Nat):Prop where
 len:u.length=l.length
 wf:WfL u
 nb:(preL u).all nodeB=true
 fit:fitL f k 0 u=true
 dep:depthL u≤depthL l
 cnt:(preL u).length≤(preL l).length
 zero:m=0↔fitL f k 0 l=true
 same:m=0→u=l
 size:bulkL u≤2048*bulkL l
 byt:f=1→∀ (i:Nat) (x y:T),l[i]? = some x→u[i]? = some y→y.f0=9→x.f0=9∧y.f3=x.f3
theorem LoOk.is {f k:Int} {l u:List T} {m:Nat} (h:LoOk f k l u m):LoIs f k l u m:=by
 induction h with
 | nil=>exact ⟨rfl,trivial,rfl,rfl,Nat.le_refl _,Nat.le_refl _,by simp [fitL],fun _=>rfl,Nat.zero_le _,fun _ i x y h=>by simp at h⟩
 | @snoc l u m n x y h he ih =>
   have hd1:=depthL_snoc x l
   have hd2:=depthL_snoc y u
   have hp1:=congrArg List.length (preL_snoc x l)
   have hp2:=congrArg List.length (preL_snoc y u)
   rw [List.length_append] at hp1 hp2
   have hb1:=bulkL_app l [x]
   have hb2:=bulkL_app u [y]
   simp only [bulkL] at hb1 hb2
   have hf1:=fitL_snoc f k x l 0
   have hf2:=fitL_snoc f k y u 0
   rw [Nat.zero_add] at hf1 hf2
   have i1:=ih.dep
   have i2:=ih.cnt
   have i3:=ih.size
   have hu:u.length=l.length:=ih.len
   have hnb:(preF y).all nodeB=true→(preL (u ++ [y])).all nodeB=true:=fun h=>by rw [preL_snoc,List.all_append,ih.nb,h];rfl
   have hby:(f=1→y.f0=9→x.f0=9∧y.f3=x.f3)→f=1→∀ (i:Nat) (a b:T),(l ++ [x])[i]? = some a→(u ++ [y])[i]? = some b→b.f0=9→a.f0=9∧b.f3=a.f3:=fun hl hf i a b ha hb h9=>by
    by_cases hi:i<l.length
    · rw [List.getElem?_append_left hi] at ha
      rw [List.getElem?_append_left (by omega)] at hb
      exact ih.byt hf i a b ha hb h9
    · have hi2:i=l.length:=by
       have:=(List.getElem?_eq_some_iff.1 ha).1
       simp at this;omega
      subst hi2
      rw [List.getElem?_append_right (by omega),Nat.sub_self] at ha
      rw [List.getElem?_append_right (by omega),hu,Nat.sub_self] at hb
      cases ha
      cases hb
      exact hl hf h9
   rcases he with ⟨hk,hB⟩ | ⟨hk,rfl,hT⟩
   · have j1:=hB.dep
     have j2:=hB.cnt
     have j3:=hB.size
     have hky:keyB f (keyAt k l.length) y=true:=by
      unfold keyB at hk ⊢
      by_cases hx:x.f0=10
      · rw [hB.txt hx];simp
      · have e1:(x.f0 != 10)=true:=by simpa using hx
        rw [e1] at hk
        cases h1:(keyAt k l.length && f == 0)
        · simp
        · rw [h1] at hk;simp at hk
     refine ⟨by simp [hu],wfL_app ih.wf ⟨hB.wf,trivial⟩,hnb hB.nb,by rw [hf2,ih.fit,hu,hky,hB.fit];rfl,by omega,by omega,?_,?_,by omega,hby hB.byt⟩
     · rw [hf1,hk,Bool.true_and,Bool.and_eq_true,← ih.zero,← hB.zero];omega
     · intro h0
       rw [ih.same (by omega),hB.same (by omega)]
   · obtain ⟨a1,a2,a3,a4,a5,a6,a7⟩:=isText_ok (f:=f) hT
     have hx1:=preL_len_pos x
     have hky:keyB f (keyAt k l.length) y=true:=by unfold keyB;rw [a7];simp
     refine ⟨by simp [hu],wfL_app ih.wf ⟨a1,trivial⟩,hnb a2,by rw [hf2,ih.fit,hu,hky,a3];rfl,by omega,by omega,?_,?_,by omega,hby fun _ h9=>by rw [a7] at h9;exact absurd h9 (by decide)⟩
     · rw [hf1,hk];simp
     · intro h0;omega
theorem sayB_10 (f n:Int) (neg:Bool):sayB f 10 neg n=true:=by
 unfold sayB
 repeat' split
 all_goals first | rfl | (exfalso;revert ‹(10:Int)=_›;decide)
theorem becOk_node {f k:Int} {neg:Bool} {n:Int} {s:ByteArray} {l u:List T} {m:Nat} (hf:f=0 ∨ f=1 ∨ f=2) (hs:sayB f k neg n=true) (hw:Wf ⟨k,neg,n,s,l⟩) (hn:nodeB ⟨k,neg,n,s,l⟩=true) (h:LoOk f k l u m) :
 BecOk f ⟨k,neg,n,s,l⟩ ⟨k,neg,n,s,u⟩ m:=by
 have hi:=h.is
 have hlen:=hi.len
 have i1:=hi.dep
 have i2:=hi.cnt
 have i3:=hi.size
 rw [wfT] at hw
 have h13:k=13→f=1:=fun e=>by
  subst e
  rcases hf with rfl | rfl | rfl
  · revert hs;unfold sayB;simp
  · rfl
  · revert hs;unfold sayB;simp
 refine ⟨wfT.2 ⟨hw.1,hw.2.1,hi.wf⟩,?_,by rw [fitF,hs,hi.fit];rfl,?_,by simp only [preF,List.length_cons];omega,?_,?_,by simp only [bulk];omega,fun h=>h,fun _ h=>⟨h,rfl⟩⟩
 · rw [preF,List.all_cons,hi.nb,Bool.and_true]
   unfold nodeB at hn ⊢
   dsimp only at hn ⊢
   rw [hlen]
   rw [Bool.and_eq_true] at hn ⊢
   refine ⟨?_,hn.2⟩
   have h1:=hn.1
   unfold oneF at h1 ⊢
   split at h1
   · cases h1
   rename_i g1
   rw [if_neg g1]
   split at h1
   · cases h1
   rename_i g2
   rw [if_neg g2]
   split at h1
   · rename_i g3;rw [if_pos g3];exact h1
   rename_i g3
   rw [if_neg g3]
   unfold tailF at h1 ⊢
   rw [hlen]
   split at h1
   · rename_i g4;rw [if_pos g4]
   rename_i g4
   rw [if_neg g4]
   split at h1
   · rename_i g5;rw [if_pos g5];exact h1
   rename_i g5
   rw [if_neg g5]
   split at h1
   · cases h1
   rename_i g6
   rw [if_neg g6]
   split at h1
   · cases h1
   rename_i g7
   rw [if_neg g7]
   split at h1
   · cases h1
   rename_i g8
   rw [if_neg ?_]
   · exact h1
   · rintro ⟨e13,hc⟩
     apply g8
     refine ⟨e13,?_⟩
     by_cases hl1:l.length ≠ 1
     · exact .inl hl1
     have hl1:l.length=1:=by omega
     rcases hc with hc | ⟨hc1,hc2,hc3⟩
     · exact absurd hl1 hc
     · refine .inr ⟨hc1,?_⟩
       have hu1:u.length=1:=by omega
       match l,u,hl1,hu1 with
       | [x],[y],_,_ =>
         have hby:=hi.byt (h13 e13) 0 x y rfl rfl
         have e1:P.Qbe [y] 0=y:=rfl
         have e2:P.Qbe [x] 0=x:=rfl
         rw [e1] at hc2 hc3
         rw [e2]
         obtain ⟨b1,b2⟩:=hby hc2
         exact ⟨b1,by rw [← b2];exact hc3⟩
 · rw [depthF,depthF]
   split
   · omega
   · omega
 · rw [fitF,hs,Bool.true_and];exact hi.zero
 · intro h0;rw [hi.same h0]
theorem becOk_tag {f:Int} {neg:Bool} {n:Int} {s:ByteArray} {x u:T} {m:Nat} (hf:f=0 ∨ f=2) (h:BecOk f x u m):BecOk f ⟨13,neg,n,s,[x]⟩ u (m+1):=by
 have i1:=h.dep
 have i2:=h.cnt
 have i3:=h.size
 have hs:sayB f 13 neg n=false:=by rcases hf with rfl | rfl <;> (unfold sayB;simp)
 refine ⟨h.wf,h.nb,h.fit,?_,?_,?_,fun h0=>by omega,?_,fun h10=>absurd h10 (by decide:¬ (13:Int)=10),fun h1=>by rcases hf with rfl | rfl <;> exact absurd h1 (by decide)⟩
 · rw [depthF]
   have:leafF 13=false:=rfl
   rw [if_neg (by rw [this];simp)]
   simp only [depthL];omega
 · simp only [preF,preL,List.length_cons,List.append_nil];omega
 · rw [fitF,hs];simp
 · simp only [bulk,bulkL];omega
theorem becOk_leaf {f:Int} {t u:T} (hs:sayB f t.f0 t.f1 t.f2=false) (hw:Wf u) (hl:u.f4=[]) (hn:nodeB u=true) (hu:sayB f u.f0 u.f1 u.f2=true) (h5:leafF u.f0=true∧u.f0 ≠ 5) (hb:bulk u≤2048*bulk t) (h9:f=1→u.f0 ≠ 9):BecOk f t u 1:=by
 obtain ⟨k,neg,n,s,l⟩:=u
 dsimp only at hl hu h5 h9
 subst hl
 have hp:=preL_len_pos t
 refine ⟨hw,by simp [preF,preL,hn],by rw [fitF,hu,fitL];rfl,?_,by simp [preF,preL];omega,?_,fun h=>by omega,hb,fun h10=>?_,fun h1 h=>absurd h (h9 h1)⟩
 · rw [depthF,if_pos h5.1,if_neg h5.2];omega
 · obtain ⟨k', neg', n', s', l'⟩ := t
   dsimp only at hs
   rw [fitF,hs];simp
 · rw [h10,sayB_10] at hs;cases hs
theorem check_of {t:T} (hn:(preF t).all nodeB=true) (hd:depthF t≤64) (hc:(preF t).length≤65536):Qaz t=0:=by
 unfold Qaz
 rw [if_neg (by omega),if_pos hn]
theorem check_is {t:T} (h:Qaz t=0):(preF t).all nodeB=true∧depthF t≤64∧(preF t).length≤65536:=by
 unfold Qaz at h
 split at h
 · exact absurd h (by decide)
 · rename_i g
   split at h
   · rename_i g2;exact ⟨g2,by omega,by omega⟩
   · exact absurd h (by decide)
theorem BecOk.check {f:Int} {t u:T} {m:Nat} (h:BecOk f t u m) (ht:Qaz t=0):Qaz u=0:=by
 obtain ⟨_,h1,h2⟩:=check_is ht
 have:=h.dep
 have:=h.cnt
 exact check_of h.nb (by omega) (by omega)
theorem nodes_kid {t x:T} (h:(preF t).all nodeB=true) {i:Nat} (hx:t.f4[i]? = some x):(preF x).all nodeB=true:=by
 obtain ⟨k,neg,n,s,l⟩:=t
 rw [preF,List.all_cons,Bool.and_eq_true,preL_all,List.all_eq_true] at h
 exact h.2 x (List.mem_of_getElem? hx)
theorem nodes_one {t:T} (h:(preF t).all nodeB=true):nodeB t=true:=by
 obtain ⟨k,neg,n,s,l⟩:=t
 rw [preF,List.all_cons,Bool.and_eq_true] at h
 exact h.1
open Go.RowKit Go.Proofs.YtfmceonbejlhlaaGreatDoorW.PrintWords Go.Proofs.YtfmceonbejlhlaaGreatDoorW.PrintLast Go.Proofs.YtfmceonbejlhlaaGreatDoorW.PrintMore
set_option linter.unusedVariables false
set_option maxHeartbeats 4000000 in
set_option maxRecDepth 100000 in
theorem class64_any (b:Int) (hb:U64 b):Det 55 #[.int .i64 64,.int .u64 b] (.tuple #[.int .i64 (clsN b),.int .i64 0]):=by
 have hS:=split_64 b hb
 obtain ⟨neg,hneg⟩:∃ neg,(b / 9223372036854775808 == 1)=neg:=⟨_,rfl⟩
 rw [hneg] at hS
 have hC:=class_64 neg ((b / 4503599627370496) % 2048) (b % 4503599627370496)
 have hcl:cls ((b / 4503599627370496) % 2048) (b % 4503599627370496)=clsN b:=rfl
 rw [hcl] at hC
 generalize clsN b=c at hC ⊢
 generalize (b / 4503599627370496) % 2048=x at hS hC
 generalize b % 4503599627370496=y at hS hC
 have HS:=Lib.hid hS
 have HC:=Lib.hid hC
 clear hS hC hneg hcl
 intro w
 go_enter Tryz.func55,Tryz.ntmps55
 go_wp2_with (go_at_call 92;refine (of64 b _).mono ?_;rintro ee w1 ⟨he,hb1⟩;subst he;have R1:=Row3.new w1 168 (.int .i64 64) (.int .i64 11) (.int .i64 52);have c0:=R1.c0;have c1:=R1.c1;have c2:=R1.c2;have hb1:=hb1.alloc hb1.size (.cells #[.int .i64 64,.int .i64 11,.int .i64 52] 168))
 generalize w1.alloc (.cells #[.int .i64 64,.int .i64 11,.int .i64 52] 168)=wr at *
 have l0:∀ p:Gb wr,p.wd.cell? ⟨w1.heap.size,0,none⟩=some (.int .i64 64):=fun p=>p.cell c0
 have l1:∀ p:Gb wr,p.wd.cell? ⟨w1.heap.size,1,none⟩=some (.int .i64 11):=fun p=>p.cell c1
 have l2:∀ p:Gb wr,p.wd.cell? ⟨w1.heap.size,2,none⟩=some (.int .i64 52):=fun p=>p.cell c2
 refine Qal (by kernel_rfl) (by kernel_rfl) ?_
 quiet_step (fail)
 quiet_step (fail)
 quiet_step (fail)
 quiet_step ((go_at_call 93;refine Calls.gb_of (HS.out _)))
 quiet_step ((go_at_call 94;refine Calls.gb_of (HC.out _)))
 repeat (quiet_step (fail))
 refine wpQuiet_nil ?_
 intro _ hw'
 obtain ⟨gq,hw''⟩:=hw'
 subst hw''
 have hB:=hb1.trans (gq.below.mono hb1.size)
 go_wp2
 exact bodyPost_ret (v:=.tuple #[.int .i64 c,.int .i64 0]) (by simp [results,Tryz.results55,go_sem]) rfl ⟨rfl,hB⟩
theorem right_any (f:Int) (hf:f=0 ∨ f=1 ∨ f=2) (w:World):Calls Tryz.prog 57 #[.int .i64 f] w (fun e w'=>e=.returned (.bool true)∧w'=w):=by
 rcases hf with rfl | rfl | rfl
 all_goals
  go_enter Tryz.func57,Tryz.ntmps57
  go_wp2
  go_ret
  exact ⟨rfl,rfl⟩
theorem say_1 (k:Int) (neg:Bool) (n:Int):sayB 1 k neg n=(k != 14):=by unfold sayB;rw [if_pos rfl]
theorem say_2 (k:Int) (neg:Bool) (n:Int):sayB 2 k neg n=(if k=4 then (!neg || n / 9223372036854775808 == 0) else !(k == 2 || k == 3 || k == 5 || k == 6 || k == 13)):=by unfold sayB;rw [if_neg (by decide),if_pos rfl]
theorem say_0 (k:Int) (neg:Bool) (n:Int):sayB 0 k neg n=(if k=8 then decide (clsN n<3) else !(k == 2 || k == 3 || k == 6 || k == 7 || k == 9 || k == 13 || k == 14)):=by unfold sayB;rw [if_neg (by decide),if_neg (by decide),if_pos rfl]
set_option maxHeartbeats 8000000 in
set_option maxRecDepth 100000 in
theorem fsays_any (f:Int) (hf:f=0 ∨ f=1 ∨ f=2) (k:Int) (neg:Bool) (n:Int) (hn:U64 n) (s lv:Value):Det 59 #[.int .i64 f,.agg #[.int .i64 k,.bool neg,.int .u64 n,s,lv]] (.bool (sayB f k neg n)):=by
 intro w
 have R:=Row5.new w (.int .i64 k) (.bool neg) (.int .u64 n) s lv
 have hb1:=(Below.refl w.heap.size w).alloc (Nat.le_refl _) (.cells #[.int .i64 k,.bool neg,.int .u64 n,s,lv] 25)
 have HB:=Lib.hid hb1
 have HN:=Lib.hid hn
 have c0:=R.c0
 have c1:=R.c1
 have c2:=R.c2
 have hn0:0≤n:=hn.1
 clear R hb1 hn
 rcases hf with rfl | rfl | rfl
 · rw [say_0]
   by_cases h8:k=8
   · subst h8
     rw [if_pos rfl]
     have HC:=Lib.hid (class64_any n HN.out)
     generalize clsN n=cn at HC ⊢
     go_enter Tryz.func59,Tryz.ntmps59
     go_wp2_with (go_at_call 55;refine (HC.out _).mono ?_;rintro ee w1 ⟨he,hb2⟩;subst he;have HB2:=Lib.hid (HB.out.trans (hb2.mono HB.out.size));clear hb2)
     go_ret
     exact ⟨rfl,HB2.out⟩
   have b8:(k == 8)=false:=by simpa using h8
   by_cases h2:k=2
   · subst h2
     go_enter Tryz.func59,Tryz.ntmps59
     go_wp2
     go_ret
     exact ⟨rfl,HB.out⟩
   have b2:(k == 2)=false:=by simpa using h2
   by_cases h3:k=3
   · subst h3
     go_enter Tryz.func59,Tryz.ntmps59
     go_wp2
     go_ret
     exact ⟨rfl,HB.out⟩
   have b3:(k == 3)=false:=by simpa using h3
   by_cases h6:k=6
   · subst h6
     go_enter Tryz.func59,Tryz.ntmps59
     go_wp2
     go_ret
     exact ⟨rfl,HB.out⟩
   have b6:(k == 6)=false:=by simpa using h6
   by_cases h7:k=7
   · subst h7
     go_enter Tryz.func59,Tryz.ntmps59
     go_wp2
     go_ret
     exact ⟨rfl,HB.out⟩
   have b7:(k == 7)=false:=by simpa using h7
   by_cases h9:k=9
   · subst h9
     go_enter Tryz.func59,Tryz.ntmps59
     go_wp2
     go_ret
     exact ⟨rfl,HB.out⟩
   have b9:(k == 9)=false:=by simpa using h9
   by_cases h13:k=13
   · subst h13
     go_enter Tryz.func59,Tryz.ntmps59
     go_wp2
     go_ret
     exact ⟨rfl,HB.out⟩
   have b13:(k == 13)=false:=by simpa using h13
   by_cases h14:k=14
   · subst h14
     go_enter Tryz.func59,Tryz.ntmps59
     go_wp2
     go_ret
     exact ⟨rfl,HB.out⟩
   have b14:(k == 14)=false:=by simpa using h14
   rw [if_neg h8]
   go_enter Tryz.func59,Tryz.ntmps59
   go_wp2
   go_ret
   exact ⟨by simp only [b2,b3,b6,b7,b9,b13,b14];rfl,HB.out⟩
 · rw [say_1]
   go_enter Tryz.func59,Tryz.ntmps59
   go_wp2
   go_ret
   exact ⟨rfl,HB.out⟩
 · rw [say_2]
   by_cases h4:k=4
   · subst h4
     rw [if_pos rfl]
     cases neg
     · go_enter Tryz.func59,Tryz.ntmps59
       go_wp2
       go_ret
       exact ⟨rfl,HB.out⟩
     · go_enter Tryz.func59,Tryz.ntmps59
       go_wp2
       go_ret
       exact ⟨rfl,HB.out⟩
   have b4:(k == 4)=false:=by simpa using h4
   by_cases h2:k=2
   · subst h2
     go_enter Tryz.func59,Tryz.ntmps59
     go_wp2
     go_ret
     exact ⟨rfl,HB.out⟩
   have b2:(k == 2)=false:=by simpa using h2
   by_cases h3:k=3
   · subst h3
     go_enter Tryz.func59,Tryz.ntmps59
     go_wp2
     go_ret
     exact ⟨rfl,HB.out⟩
   have b3:(k == 3)=false:=by simpa using h3
   by_cases h5:k=5
   · subst h5
     go_enter Tryz.func59,Tryz.ntmps59
     go_wp2
     go_ret
     exact ⟨rfl,HB.out⟩
   have b5:(k == 5)=false:=by simpa using h5
   by_cases h6:k=6
   · subst h6
     go_enter Tryz.func59,Tryz.ntmps59
     go_wp2
     go_ret
     exact ⟨rfl,HB.out⟩
   have b6:(k == 6)=false:=by simpa using h6
   by_cases h13:k=13
   · subst h13
     go_enter Tryz.func59,Tryz.ntmps59
     go_wp2
     go_ret
     exact ⟨rfl,HB.out⟩
   have b13:(k == 13)=false:=by simpa using h13
   rw [if_neg h4]
   go_enter Tryz.func59,Tryz.ntmps59
   go_wp2
   go_ret
   exact ⟨by simp only [b2,b3,b5,b6,b13];rfl,HB.out⟩
theorem Qby (f:Int) (hf:f=0 ∨ f=1 ∨ f=2) (k:Int) (neg:Bool) (n:Int) (hn:U64 n) (s:ByteArray) (lv:Value):Det 49 #[.int .i64 f,.agg #[.int .i64 k,.bool neg,.int .u64 n,.string s,lv]] (.tuple #[.bool (sayB f k neg n),.int .i64 0]):=by
 intro w
 have R:=Row5.new w (.int .i64 k) (.bool neg) (.int .u64 n) (.string s) lv
 have hb1:=(Below.refl w.heap.size w).alloc (Nat.le_refl _) (.cells #[.int .i64 k,.bool neg,.int .u64 n,.string s,lv] 25)
 have HB:=Lib.hid hb1
 have HS:=Lib.hid (fsays_any f hf k neg n hn (.string s) lv)
 have HR:=Lib.hid (fun w=>right_any f hf w)
 have c0:=R.c0
 have c1:=R.c1
 have c2:=R.c2
 have c3:=R.c3
 have c4:=R.c4
 generalize sayB f k neg n=r at HS ⊢
 clear R hb1 hn hf
 go_enter Tryz.func49,Tryz.ntmps49
 go_wp2_with (first
  | (go_at_call 57;refine (HR.out _).mono ?_;rintro ee w1 ⟨he,hw⟩;subst he;subst hw)
  | (go_at_call 59;refine (HS.out _).mono ?_;rintro ee w2 ⟨he,hb2⟩;subst he;have HB2:=Lib.hid (HB.out.trans (hb2.mono HB.out.size));clear hb2))
 exact bodyPost_ret (v:=.tuple #[.bool r,.int .i64 0]) (by simp [results,Tryz.results49,go_sem]) rfl ⟨rfl,HB2.out⟩
end Go.Proofs.YtfmceonbejlhlaaGreatDoor
