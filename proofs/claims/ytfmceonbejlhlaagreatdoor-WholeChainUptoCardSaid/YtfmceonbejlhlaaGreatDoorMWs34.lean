import Derived.Test.YtfmceonbejlhlaaGreatDoorMWs33
namespace Go.Proofs.YtfmceonbejlhlaaGreatDoor
open Go.RowKit Go.Proofs.YtfmceonbejlhlaaGreatDoorW.PrintWords Go.Proofs.YtfmceonbejlhlaaGreatDoorW.PrintLast Go.Proofs.YtfmceonbejlhlaaGreatDoorW.PrintMore
set_option linter.unusedVariables false
attribute [local go_sem] Oper.semAt_some
theorem flat_len (l:List SpotC):l.length≤(l.flatMap fun x=>preK x.key x.t).length:=by
 induction l with
 | nil=>simp
 | cons x r ih =>
   rw [List.flatMap_cons,List.length_append,preK_cons,List.length_cons,List.length_cons]
   omega
theorem stack_len (st:List SpotC):st.length≤(restK st).length:=by
 have:=flat_len st.reverse
 rw [List.length_reverse] at this
 exact this
theorem key_mod (j:Nat):((j:Int).tmod 2 == 0)=(j % 2 == 0):=by
 have h:((j:Int) % 2)=((j % 2:Nat):Int):=by omega
 rw [Int.tmod_eq_emod_of_nonneg (by omega),h]
 have h2:j % 2=0 ∨ j % 2=1:=by omega
 rcases h2 with e | e <;> rw [e] <;> rfl
theorem drop_len (k:Int):∀ (j:Nat) (l:List T) (i:Nat),(preKL k (i+j) (l.drop j)).length≤(preKL k i l).length
 | 0,l,i=>by simp
 | j+1,[],i=>by simp [preKL]
 | j+1,t :: r,i=>by
   have:=drop_len k j r (i+1)
   rw [List.drop_succ_cons,preKL,List.length_append,show i+(j+1)=i+1+j by omega]
   omega
theorem own_keepC {X:Nat→Prop} {W W':World} {base e size n:Nat} {v:Value} {xs:List Value} (h:W.ownsRow base e size v n xs) (hk:KeepC X W W') (hx:∀ g,base≤g→¬ X g):W'.ownsRow base e size v n xs :=
 Qbl h fun k hk'=>by
  obtain ⟨cells,hc⟩:=Qba h k hk'
  rw [hc]
  exact hk.2 k _ _ _ (hx k (Qb5 h k hk')) hc
theorem stack_top {W:World} {base g cap:Nat} {st:List SpotC} {x:SpotC} (h:W.ownsRow base 112 7 (.slice (some ⟨g,0,none⟩) (st.length+1) cap) (st.length+1) (Qbo (st ++ [x]))) (j:Nat) (v:Value) (hv:x.cells[j]? = some v):W.cell? ⟨g,st.length*7+j,none⟩=some v:=by
 have:=h.cells (g:=g) rfl (st.length*7+j) v (by rw [stackCells_snoc,List.getElem?_append_right (by rw [stackCells_len];omega),stackCells_len];rw [show st.length*7+j - st.length*7=j by omega];exact hv)
 rwa [WideShapes.add_plain,Nat.zero_add] at this
theorem own_cap {W:World} {base g cap n:Nat} {e size:Nat} {xs:List Value} (h:W.ownsRow base e size (.slice (some ⟨g,0,none⟩) n cap) n xs):n≤cap∧cap≤9223372036854775807∧base≤g:=by
 rcases h.2 with ⟨e1, _⟩ | ⟨g', cap', cur, e1, hb, _, h1, h2, _⟩
 · cases e1
 · cases e1
   unfold maxLen at h2
   exact ⟨h1,by omega,hb⟩
set_option maxRecDepth 100000 in
set_option maxHeartbeats 8000000 in
theorem feach1_in (n:Nat) (hn:1≤n) (w0:World) (P:Nat→Prop) (hP:∀ g,P g→g<w0.heap.size) (X:Nat→Prop) (hX:∀ g,X g→g<w0.heap.size) (hPX:∀ g,P g→¬ X g)
 (x0:SpotC) (hk0:x0.key=false) (hT:Tree w0 P x0.t x0.a) (hc:x0.t.f4.length≤x0.c) (hb:bulk x0.t≤17592186044416) (hm:(preF x0.t).length≤65536) (hwf:Wf x0.t) (hpa:x0.pa=none∧x0.pm=0∧x0.pc=0∧x0.px=[]) (vb:Nat) (hvx:¬ X vb) (hv:Row7 w0 vb x0) :
 SeqW n 102 #[.pointer (some ⟨vb,0,none⟩)] (encS (w0:=w0) (P:=P)) (KeepC X) (fun xs=>xs.map SNode.kt=preK false x0.t) (fun pre=>pre.map SNode.kt <+: preK false x0.t) (preK false x0.t).length w0:=by
 intro l J Jx W hbW hJ hJx hY hJ0
 have hkl:(preK false x0.t).length≤65536:=by
  have:=congrArg List.length (preKL_map 0 x0.t false)
  rw [List.length_map] at this
  omega
 obtain ⟨want,hwant⟩:∃ want,preK false x0.t=want:=⟨_,rfl⟩
 rw [hwant] at hY hkl ⊢
 have hvW:Row7 W vb x0:=hv.below hbW
 have hc0:=hvW.c0
 have hc1:=hvW.c1
 have hc2:=hvW.c2
 have hc3:=hvW.c3
 have hc4:=hvW.c4
 have hc5:=hvW.c5
 have hc6:=hvW.c6
 have hbs:=hbW.size
 have hXb:∀ g,W.heap.size≤g→¬ X g:=fun g h1 h2=>by have:=hX g h2;omega
 have hB1:=(Below.refl W.heap.size W).alloc (Nat.le_refl _) (.cells x0.arr 112)
 have H0:Hid (StIs w0 P X J W.heap.size W W.heap.size 1 [x0] [] (W.alloc (.cells x0.arr 112))):=Lib.hid ⟨by
  exact ⟨rfl,.inr ⟨W.heap.size,1,x0.arr,rfl,Nat.le_refl _,heap_alloc_new W _,Nat.le_refl _,by decide,rfl,rfl⟩⟩,fun x hx=>by
  rw [List.mem_singleton] at hx
  subst hx
  refine ⟨hT,⟨hc,hwf⟩,?_,by rw [hpa.2.1];omega⟩
  rw [hpa.1,hpa.2.1,hpa.2.2.1,hpa.2.2.2]
  exact PathT.nil _ _,hJ _ _ _ hJ0 (Stp.of_below (Nat.le_refl _) hB1),KeepC.of_below hB1⟩
 have HW:Hid (([]:List (SNode w0 P)).map SNode.kt ++ restK [x0]=want):=Lib.hid (by simp [restK,hk0,hwant])
 unfold SpotC.arr at H0
 clear hpa hk0
 refine callsIn_of_wp Tryz.func102 rfl trivial ?_ rfl
 simp only [Tryz.ntmps102,List.size_toArray,List.length_cons,List.length_nil,Nat.reduceAdd,Nat.reduceSub,Array.replicate_succ,Array.replicate_zero,List.push_toArray,List.append_toArray,List.nil_append,List.cons_append]
 gi_wp2
 gi_loopg [3] (restK [x0]).length (fun k v wr=>∃ (st:List SpotC) (ys:List (SNode w0 P)) (g cap:Nat),v=.slice (some ⟨g,0,none⟩) st.length cap∧Hid (k=(restK st).length)∧Hid (StIs w0 P X J W.heap.size W g cap st ys wr)∧Hid (ys.map SNode.kt ++ restK st=want))
 case atStart=>exact ⟨[x0],[],W.heap.size,1,rfl,Lib.hid rfl,H0,HW⟩
 case round =>
  clear H0 HW hc0 hc1 hc2 hc3 hc4 hc5 hc6
  obtain ⟨st,ys,g,cap,rfl,hk,HS,HW⟩:=hrel
  rcases List.eq_nil_or_concat st with rfl | ⟨st', x, rfl⟩
  · gi_wp2
    refine bodyPost_end (results_none rfl _ _ _) rfl ?_
    exact ⟨⟨_,rfl⟩,.inl ⟨ys,by have:=HW.out;rw [restK_nil,List.append_nil] at this;exact this,HS.out.inv⟩⟩
  · rw [List.concat_eq_append] at hk HS HW ⊢
    have hcapf:=own_cap HS.out.own
    have hxo:=HS.out.ok x (by simp)
    obtain ⟨nx,rfl⟩:∃ nx:SNode w0 P,nx.x=x:=⟨⟨x,hxo.1,hxo.2.1.1,by have:=hxo.2.2.2;omega,hxo.2.1.2⟩,rfl⟩
    have hsl:=stack_len (st' ++ [nx.x])
    have hyl:=congrArg List.length HW.out
    rw [List.length_append,List.length_map] at hyl
    have hlen:(st' ++ [nx.x]).length=st'.length+1:=by simp
    rw [hlen] at hcapf hsl
    have hown:wr.ownsRow W.heap.size 112 7 (.slice (some ⟨g,0,none⟩) (st'.length+1) cap) (st'.length+1) (Qbo (st' ++ [nx.x])):=by have:=HS.out.own;rw [hlen] at this;exact this
    have t0:=stack_top hown 0 _ rfl
    have t1:=stack_top hown 1 _ rfl
    have t2:=stack_top hown 2 _ rfl
    have t3:=stack_top hown 3 _ rfl
    have t4:=stack_top hown 4 _ rfl
    have t5:=stack_top hown 5 _ rfl
    have t6:=stack_top hown 6 _ rfl
    rw [Nat.add_zero] at t0
    have hown2:=own_pop (by rw [stackCells_snoc] at hown;exact hown) (by rfl:nx.x.cells.length=7)
    have e1:IntKind.i64.wrap (((st'.length+1:Nat):Int) - 1)=(st'.length:Int):=by rw [IntKind.wrap_i64];omega
    have hbx:=(Below.refl wr.heap.size wr).alloc (Nat.le_refl _) (.cells nx.x.arr 112)
    have RX:=Row7.new wr nx.x
    have hJx2:=hJ _ _ _ HS.out.inv (Stp.of_below HS.out.keep.1 hbx)
    have hy:=yieldAt_room (m':=n - 1) (hY ys nx _ hJx2 (by omega))
    dsimp only [encS,SpotC.arr] at hy hbx RX
    obtain ⟨fn,tmps,assign,body,hyr,hR⟩:=hy
    have c0:=RX.c0
    have c1:=RX.c1
    have c2:=RX.c2
    have c3:=RX.c3
    have c4:=RX.c4
    have c5:=RX.c5
    have c6:=RX.c6
    have HE:=Lib.hid (show ys.length+(restK (st' ++ [nx.x])).length=want.length∧st'.length+1≤(restK (st' ++ [nx.x])).length from ⟨hyl,hsl⟩)
    have HXO:=Lib.hid hxo
    have HOW:=Lib.hid hown2
    have HOK := Lib.hid (show ∀ y ∈ st', y.Ok w0 P X wr from fun y hy => HS.out.ok y (List.mem_append_left _ hy))
    have HKW:=Lib.hid HS.out.keep
    have HK:=Lib.hid (show gk=(restK (st' ++ [nx.x])).length∧restK (st' ++ [nx.x])=preK nx.x.key nx.x.t ++ restK st' from ⟨hk.out,restK_snoc _ _⟩)
    have HRX:=Lib.hid RX
    have HBX:=Lib.hid hbx
    clear hxo hown hown2 hyl hsl hJx2 hk HS RX hbx
    gi_wp2
    clear t0 t1 t2 t3 t4 t5 t6
    refine hR.mono ?_
    rintro e W3 (⟨rfl,hJ3,hk3⟩ | ⟨rfl,hJx3⟩)
    rotate_left
    · gi_wp2
      refine bodyPost_ret (v:=.tuple #[]) (results_none rfl _ _ _) rfl ?_
      refine ⟨⟨_,rfl⟩,.inr ⟨ys ++ [nx],?_,hJx3⟩⟩
      have h1:=HW.out
      rw [HK.out.2,preK_cons] at h1
      exact ⟨preKL nx.x.t.f0 0 nx.x.t.f4 ++ restK st', by rw [← h1, List.map_append]; simp [SNode.kt]⟩
    · have hq3:=HBX.out.size
      have R3:=HRX.out.keep hk3 (hXb _ (by have:=HKW.out.1;omega))
      have hk13:KeepC X wr W3:=(KeepC.of_below HBX.out).trans hk3
      have d0:=R3.c0
      have d4:=R3.c4
      have d5:=R3.c5
      have hll:=bulkL_len nx.x.t.f4
      have hlb:=bulk_str nx.x.t
      have hxb:=HXO.out.2.2.2
      have e2:IntKind.i64.wrap (((nx.x.t.f4.length:Nat):Int) - 1)=(nx.x.t.f4.length:Int) - 1:=by rw [IntKind.wrap_i64];omega
      obtain ⟨q,hq⟩:∃ q,wr.heap.size=q:=⟨_,rfl⟩
      rw [hq] at R3 d0 d4 d5
      have HR3:=Lib.hid R3
      have hqW:W.heap.size≤q:=by have:=HKW.out.1;omega
      have hgq:g ≠ q:=by have:=own_lt HOW.out g rfl;omega
      have HS2:Hid (StIs w0 P X J W.heap.size W g cap (st' ++ []) (ys ++ [nx]) W3):=Lib.hid ⟨by
       rw [List.append_nil];exact own_keepC HOW.out hk13 hXb,fun y hy=>by
       rw [List.append_nil] at hy;exact (HOK.out y hy).keep (KT.of_keep hk13),hJ3,HKW.out.trans hk13⟩
      clear hR hyr c0 c1 c2 c3 c4 c5 c6 hJ3 hk3 R3
      gi_wp2
      clear hq hq3
      gi_loopw [3,5] (fun v i wl=>∃ (j:Nat) (pu:List SpotC) (g2 cap2 nn:Nat),j≤nx.x.t.f4.length∧v=.slice (some ⟨g2,0,none⟩) nn cap2∧i=.int .i64 ((j:Int) - 1)∧g2 ≠ q∧Hid (StIs w0 P X J W.heap.size W g2 cap2 (st' ++ pu) (ys ++ [nx]) wl)∧Hid (restK (st' ++ pu)=preKL nx.x.t.f0 j (nx.x.t.f4.drop j) ++ restK st')∧Hid (Row7 wl q nx.x)∧Hid (nn=(st' ++ pu).length)∧Hid (KT 112 X W3 wl)) (fun _ i _=>(intOf i+1).toNat)
      case atStart=>exact ⟨nx.x.t.f4.length,[],g,cap,st'.length,Nat.le_refl _,rfl,rfl,hgq,HS2,Lib.hid (by rw [List.drop_length,List.append_nil,preKL];rfl),HR3,Lib.hid (by rw [List.append_nil]),Lib.hid (KT.refl _ _ _)⟩
      case round =>
       clear HS2 HR3 d0 d4 d5 hgq
       obtain ⟨j,pu,g2,cap2,nn,hj,rfl,rfl,hg2,HS2,HRK,HR3,HNN,HKT⟩:=hrel
       rename World=>wl
       cases j with
       | zero =>
         gi_wp2
         gi_roundg (restK (st' ++ pu)).length
         case measure =>
          rw [HK.out.1,HRK.out,HK.out.2,preK_cons,List.drop_zero,List.length_append,List.length_append,List.length_cons]
          omega
         case rel =>
          refine ⟨st' ++ pu,ys ++ [nx],g2,cap2,by rw [HNN.out],Lib.hid rfl,HS2,Lib.hid ?_⟩
          rw [HRK.out,List.drop_zero,← HW.out,HK.out.2,preK_cons,List.map_append]
          simp [SNode.kt]
       | succ j =>
         have ej:((j+1:Nat):Int) - 1=(j:Int):=by omega
         rw [ej]
         rcases (Qb1 HXO.out.1).2 with e | ⟨gl,off,e,hg,hTL⟩
         · rw [e] at hj;simp at hj
         obtain ⟨y, ya, yc, hy, e0, e1', e2', e3, e4, hyc, hyT⟩ := Qbm hTL (i := j) (by omega)
         have hgl0:=hP gl hg
         have hglx:=hPX gl hg
         have K0:=HS2.out.keep.cell hglx ((hbW.cell (p:=⟨gl,off+j*5,none⟩) hgl0).trans e0)
         have K1:=HS2.out.keep.cell hglx ((hbW.cell (p:=⟨gl,off+j*5+1,none⟩) hgl0).trans e1')
         have K2:=HS2.out.keep.cell hglx ((hbW.cell (p:=⟨gl,off+j*5+2,none⟩) hgl0).trans e2')
         have K3:=HS2.out.keep.cell hglx ((hbW.cell (p:=⟨gl,off+j*5+3,none⟩) hgl0).trans e3)
         have K4:=HS2.out.keep.cell hglx ((hbW.cell (p:=⟨gl,off+j*5+4,none⟩) hgl0).trans e4)
         have d0:=HR3.out.c0
         have d4:=HR3.out.c4
         have d5:=HR3.out.c5
         rw [e] at d4
         clear e
         have hqlt:=HR3.out.lt
         have hgllt:gl<wl.heap.size:=by have:=HS2.out.keep.1;omega
         have hglg:gl ≠ g2:=by have:=(own_cap HS2.out.own).2.2;omega
         have hj0:(0:Int)≤(j:Int):=by omega
         have hj1:(j:Int)<(nx.x.t.f4.length:Int):=by omega
         have hPA:PathT X wl nx.x.pa nx.x.pm nx.x.pc nx.x.px:=by
          have hk2:=HXO.out.2.2.1.keep (ty:=112) (by decide) (KT.of_keep hk13)
          exact hk2.keep (by decide) HKT.out
         have HPA:=Lib.hid hPA
         have hpmc:=hPA.2.1
         obtain ⟨kb,hkb⟩:∃ kb,((nx.x.t.f0 == 12) && ((j:Int).tmod 2 == 0))=kb:=⟨_,rfl⟩
         obtain ⟨i3,hi3,hz30,hz31,hz32⟩:=info_parts info3
         obtain ⟨i7,hi7,hz70,hz71,hz72⟩:=info_parts info112
         have hWl:=HS2.out.keep.1
         have hOwn:wl.ownsRow W.heap.size 112 7 (.slice (some ⟨g2,0,none⟩) nn cap2) nn (Qbo (st' ++ pu)):=by rw [HNN.out];exact HS2.out.own
         have HOwn:=Lib.hid hOwn
         clear hOwn
         have hne:nn+1≤65536:=by
          have h1:=stack_len (st' ++ pu)
          have h2:=HRK.out
          have h3:=HNN.out
          have h4:=preKL_drop nx.x.t.f0 nx.x.t.f4 0 0
          have h5:=drop_len nx.x.t.f0 (j+1) nx.x.t.f4 0
          have h6:=congrArg List.length h2
          have h7:=congrArg List.length HK.out.2
          rw [List.length_append] at h6 h7
          rw [preK_cons,List.length_cons] at h7
          rw [Nat.zero_add] at h5
          have:=HE.out
          omega
         clear e0 e1' e2' e3 e4 hPA hTL
         gi_wp2_with fail
         refine wpIn_wide.2 ?_
         by_cases hk12:nx.x.t.f0=12
         · rw [hk12] at d0 hkb
           have hk12':=hk12
           clear hk12
           have hkb:((j:Int).tmod 2 == 0)=kb:=by simpa using hkb
           have HKB : Hid (kb = keyAt nx.x.t.f0 j) := Lib.hid (by unfold keyAt; rw [hk12', ← hkb, key_mod]; rfl)
           clear hk12'
           go_region_held3 (fun w'=>w'.cell? ⟨q,0,none⟩=some (.int .i64 12)∧w'.cell? ⟨q,4,none⟩=some (.slice (some ⟨gl,off,none⟩) nx.x.t.f4.length nx.x.c)∧w'.cell? ⟨q,5,none⟩=some (.slice nx.x.pa nx.x.pm nx.x.pc) ∧
            w'.cell? ⟨gl,off+j*5,none⟩=some (.int .i64 y.f0)∧w'.cell? ⟨gl,off+j*5+1,none⟩=some (.bool y.f1)∧w'.cell? ⟨gl,off+j*5+2,none⟩=some (.int .u64 y.f2)∧w'.cell? ⟨gl,off+j*5+3,none⟩=some (.string y.f3)∧w'.cell? ⟨gl,off+j*5+4,none⟩=some (.slice ya y.f4.length yc))
            (first
              | go_keep
              | (go_split_ands;refine ⟨?_,?_,?_,?_,?_,?_,?_,?_⟩ <;> (rw [hgr.cell_far _ (by simp;omega) (by simp)];assumption))
              | (go_split_ands;refine ⟨?_,?_,?_,?_,?_,?_,?_,?_⟩ <;> (rw [hgw.cell_far _ (by simp;omega) (by simp [Value.ownBlock];omega)];assumption)))
            (first
              | (refine step_append_grows rfl (.tmp 50) (.tmp 52) 63 rfl 3 i3 (.int .i64 0) 1 8 Tryz.underlying63 hi3 hz30 hz31 hz32 rfl (by decide) nx.x.pa nx.x.pm nx.x.pm nx.x.px (by rfl) (fun e=>⟨(HPA.out.1 e).1,(HPA.out.1 e).1⟩) HPA.out.2.2.1 (fun b hb j' u hu=>HPA.out.cell ((Below.refl _ wl).alloc (Nat.le_refl _) _).drew hb hu) ⟨wl.heap.size,0,none⟩ 1 1 [.int .i64 j] (by rfl) rfl (fun j' u hu=>news_one wl j j' u hu) (by intro u hu;rw [List.mem_singleton] at hu;subst hu;rfl) (by omega) (by unfold maxLen;omega) (by omega) ?_
                 intro v' w2 hown hgr
                 obtain ⟨g', cap', rfl⟩ := ownsRow_succ hown
                 have hB2:Below wl.heap.size wl w2:=(((Below.refl _ wl).alloc (Nat.le_refl _) _).drew).grown hgr (by simp) (fun k e=>by cases e)
                 have hw2:=hB2.size
                 have HB2:=Lib.hid hB2
                 have HP2:=Lib.hid (PathT.own (X:=X) hown (hXb g' (by have:=Qb5 hown g' rfl;simp at this;omega)) (one_snoc HPA.out.2.2.2.1 j))
                 clear hB2 hown)
              | (refine step_append_lies _ rfl (.tmp 35) (.tmp 64) 189 rfl W.heap.size 112 i7 _ 7 96 Tryz.underlying189 hi7 hz70 hz71 hz72 rfl (by decide) (.slice (some ⟨g2, 0, none⟩) nn cap2) nn (Qbo (st' ++ pu)) (by rfl) (Qbl HOwn.out fun k hk => (HB2.out.alloc (by omega) _).block k (own_lt HOwn.out k hk)) ⟨w2.heap.size, 0, none⟩ 1 1 (SpotC.cells ⟨y, ya, yc, some ⟨g', 0, none⟩, nx.x.pm + 1, cap', nx.x.px ++ [.int .i64 j], kb⟩) (by rfl) (by rfl) (World.news_of_block (heap_alloc_new w2 _)) (spot_one _) (by omega) (by unfold maxLen; omega) (by omega) (by simp; omega) (w2.heap.size + 1) (by simp) ?_
                 intro g3 cap3 w4 hown4 hgw hat hlt4))
           have e3:IntKind.i64.wrap ((j:Int) - 1)=(j:Int) - 1:=by rw [IntKind.wrap_i64];omega
           have hP:=HS2.out.push hJ HNN.out HB2.out hgw hown4 ⟨hyT,⟨hyc,wf_kid HXO.out.2.1.2 hy⟩,HP2.out,by have h1:=bulkL_mem (List.mem_of_getElem? hy);show nx.x.pm+1+bulk y≤_;omega⟩
           have hR4:Row7 w4 q nx.x:=(hgw.block q (by simp;omega) (fun e'=>by cases e';exact hg2 rfl)).trans (((HB2.out.alloc HB2.out.size _).block q hqlt).trans HR3.out)
           have hg3:g3 ≠ q:=by
            rcases hat with e' | e'
            · cases e';exact hg2
            · omega
           have HF := Lib.hid (show StIs w0 P X J W.heap.size W g3 cap3 (st' ++ (pu ++ [(⟨y, ya, yc, some ⟨g', 0, none⟩, nx.x.pm + 1, cap', nx.x.px ++ [.int .i64 j], kb⟩ : SpotC)])) (ys ++ [nx]) w4 ∧ KT 112 X W3 w4 from ⟨by rw [← List.append_assoc]; exact hP.1, HKT.out.trans hP.2⟩)
           have HR4:=Lib.hid hR4
           have HH:=Lib.hid hy
           clear hP hR4 hown4 hgw hat hlt4 hy hgr
           gi_wp2
           refine ⟨?rel,?measure⟩
           case rel =>
            refine ⟨j, pu ++ [(⟨y, ya, yc, some ⟨g', 0, none⟩, nx.x.pm + 1, cap', nx.x.px ++ [.int .i64 j], kb⟩ : SpotC)], g3, cap3, nn + 1, by omega, rfl, rfl, hg3, Lib.hid HF.out.1, Lib.hid ?_, HR4, Lib.hid ?_, Lib.hid HF.out.2⟩
            · rw [← List.append_assoc,restK_snoc,HRK.out]
              have h1:=preKL_drop nx.x.t.f0 nx.x.t.f4 0 j y HH.out
              rw [Nat.zero_add,Nat.zero_add] at h1
              rw [h1,List.append_assoc]
              have h2:kb=keyAt nx.x.t.f0 j:=HKB.out
              rw [h2]
            · rw [← List.append_assoc,List.length_append,← HNN.out]
              rfl
           case measure=>simp [intOf]
         · have b12:(nx.x.t.f0 == 12)=false:=by simpa using hk12
           refine wp_region_noPanic ?_
           refine wp_region_held_drew (S:=(fun w'=>w'.cell? ⟨q,0,none⟩=some (.int .i64 nx.x.t.f0)∧w'.cell? ⟨q,4,none⟩=some (.slice (some ⟨gl,off,none⟩) nx.x.t.f4.length nx.x.c)∧w'.cell? ⟨q,5,none⟩=some (.slice nx.x.pa nx.x.pm nx.x.pc)∧w'.cell? ⟨gl,off+j*5,none⟩=some (.int .i64 y.f0)∧w'.cell? ⟨gl,off+j*5+1,none⟩=some (.bool y.f1)∧w'.cell? ⟨gl,off+j*5+2,none⟩=some (.int .u64 y.f2)∧w'.cell? ⟨gl,off+j*5+3,none⟩=some (.string y.f3)∧w'.cell? ⟨gl,off+j*5+4,none⟩=some (.slice ya y.f4.length yc))) (by kernel_rfl) ?_ (fun hHeld=>?_)
           · (try dsimp only);go_keep
           refine wpAnyH_take (i := 0) (oi := { dst := some 35, op := Op.move (Operand.tmp 3), type := 189, pos := "fits.go:65", after := #[], guard := none }) (v := ?_) rfl (by kernel_rfl) (by kernel_rfl) (by kernel_rfl) (fun _ _ _ h => h) (Or.inl ⟨by rfl, ?_⟩) (by assumption) ?_
           rotate_left
           · intro w hSw;(try dsimp only at hSw);go_simp;(try with_reducible rfl)
           try simp only [Act.put,List.setIfInBounds_toArray,List.set_cons_zero,List.set_cons_succ]
           refine wpAnyH_take (i := 1) (oi := { dst := some 36, op := Op.fieldAddr 112 (Operand.tmp 4) 0, type := 0, pos := "fits.go:65", after := #[], guard := none }) (v := ?_) rfl (by kernel_rfl) (by kernel_rfl) (by kernel_rfl) (fun _ _ _ h => h) (Or.inl ⟨by rfl, ?_⟩) (by assumption) ?_
           rotate_left
           · intro w hSw;(try dsimp only at hSw);go_simp;(try with_reducible rfl)
           try simp only [Act.put,List.setIfInBounds_toArray,List.set_cons_zero,List.set_cons_succ]
           refine wpAnyH_take (i := 2) (oi := { dst := some 37, op := Op.fieldAddr 25 (Operand.tmp 36) 4, type := 0, pos := "fits.go:65", after := #[{ on := 1, ground := Ground.data }], guard := none }) (v := ?_) rfl (by kernel_rfl) (by kernel_rfl) (by kernel_rfl) (fun _ _ _ h => h) (Or.inl ⟨by rfl, ?_⟩) (by assumption) ?_
           rotate_left
           · intro w hSw;(try dsimp only at hSw);go_simp;(try with_reducible rfl)
           try simp only [Act.put,List.setIfInBounds_toArray,List.set_cons_zero,List.set_cons_succ]
           refine wpAnyH_take (i := 3) (oi := { dst := some 38, op := Op.load 23 (Operand.tmp 37), type := 23, pos := "fits.go:65", after := #[{ on := 2, ground := Ground.data }], guard := none }) (v := ?_) rfl (by kernel_rfl) (by kernel_rfl) (by kernel_rfl) (fun _ _ _ h => h) (Or.inl ⟨by rfl, ?_⟩) (by assumption) ?_
           rotate_left
           · intro w hSw;(try dsimp only at hSw);go_simp;(try with_reducible rfl)
           try simp only [Act.put,List.setIfInBounds_toArray,List.set_cons_zero,List.set_cons_succ]
           refine wpAnyH_take (i := 4) (oi := { dst := some 39, op := Op.move (Operand.tmp 5), type := 3, pos := "fits.go:65", after := #[], guard := none }) (v := ?_) rfl (by kernel_rfl) (by kernel_rfl) (by kernel_rfl) (fun _ _ _ h => h) (Or.inl ⟨by rfl, ?_⟩) (by assumption) ?_
           rotate_left
           · intro w hSw;(try dsimp only at hSw);go_simp;(try with_reducible rfl)
           try simp only [Act.put,List.setIfInBounds_toArray,List.set_cons_zero,List.set_cons_succ]
           refine wpAnyH_take (i := 5) (oi := { dst := some 40, op := Op.indexAddr 23 (Operand.tmp 38) (Operand.tmp 39), type := 0, pos := "fits.go:65", after := #[{ on := 3, ground := Ground.data }, { on := 4, ground := Ground.data }], guard := none }) (v := ?_) rfl (by kernel_rfl) (by kernel_rfl) (by kernel_rfl) (fun _ _ _ h => h) (Or.inl ⟨by rfl, ?_⟩) (by assumption) ?_
           rotate_left
           · intro w hSw;(try dsimp only at hSw);go_simp;(try with_reducible rfl)
           try simp only [Act.put,List.setIfInBounds_toArray,List.set_cons_zero,List.set_cons_succ]
           refine wpAnyH_take (i := 6) (oi := { dst := some 41, op := Op.load 25 (Operand.tmp 40), type := 25, pos := "fits.go:65", after := #[{ on := 5, ground := Ground.data }], guard := none }) (v := ?_) rfl (by kernel_rfl) (by kernel_rfl) (by kernel_rfl) (fun _ _ _ h => h) (Or.inl ⟨by rfl, ?_⟩) (by assumption) ?_
           rotate_left
           · intro w hSw;(try dsimp only at hSw);go_simp;(try with_reducible rfl)
           try simp only [Act.put,List.setIfInBounds_toArray,List.set_cons_zero,List.set_cons_succ]
           refine wpAnyH_take (i := 7) (oi := { dst := some 42, op := Op.fieldAddr 112 (Operand.tmp 4) 1, type := 0, pos := "fits.go:65", after := #[], guard := none }) (v := ?_) rfl (by kernel_rfl) (by kernel_rfl) (by kernel_rfl) (fun _ _ _ h => h) (Or.inl ⟨by rfl, ?_⟩) (by assumption) ?_
           rotate_left
           · intro w hSw;(try dsimp only at hSw);go_simp;(try with_reducible rfl)
           try simp only [Act.put,List.setIfInBounds_toArray,List.set_cons_zero,List.set_cons_succ]
           refine wpAnyH_take (i := 8) (oi := { dst := some 43, op := Op.load 63 (Operand.tmp 42), type := 63, pos := "fits.go:65", after := #[{ on := 7, ground := Ground.data }], guard := none }) (v := ?_) rfl (by kernel_rfl) (by kernel_rfl) (by kernel_rfl) (fun _ _ _ h => h) (Or.inl ⟨by rfl, ?_⟩) (by assumption) ?_
           rotate_left
           · intro w hSw;(try dsimp only at hSw);go_simp;(try with_reducible rfl)
           try simp only [Act.put,List.setIfInBounds_toArray,List.set_cons_zero,List.set_cons_succ]
           refine wpAnyH_take (i := 9) (oi := { dst := some 44, op := Op.fieldAddr 112 (Operand.tmp 4) 1, type := 0, pos := "fits.go:65", after := #[], guard := none }) (v := ?_) rfl (by kernel_rfl) (by kernel_rfl) (by kernel_rfl) (fun _ _ _ h => h) (Or.inl ⟨by rfl, ?_⟩) (by assumption) ?_
           rotate_left
           · intro w hSw;(try dsimp only at hSw);go_simp;(try with_reducible rfl)
           try simp only [Act.put,List.setIfInBounds_toArray,List.set_cons_zero,List.set_cons_succ]
           refine wpAnyH_take (i := 10) (oi := { dst := some 45, op := Op.load 63 (Operand.tmp 44), type := 63, pos := "fits.go:65", after := #[{ on := 9, ground := Ground.data }], guard := none }) (v := ?_) rfl (by kernel_rfl) (by kernel_rfl) (by kernel_rfl) (fun _ _ _ h => h) (Or.inl ⟨by rfl, ?_⟩) (by assumption) ?_
           rotate_left
           · intro w hSw;(try dsimp only at hSw);go_simp;(try with_reducible rfl)
           try simp only [Act.put,List.setIfInBounds_toArray,List.set_cons_zero,List.set_cons_succ]
           refine wpAnyH_take (i := 11) (oi := { dst := some 46, op := Op.call { callee := Callee.builtin Builtin.len, args := #[Operand.tmp 45], argTypes := #[63] }, type := 3, pos := "fits.go:65", after := #[{ on := 10, ground := Ground.data }], guard := none }) (v := ?_) rfl (by kernel_rfl) (by kernel_rfl) (by kernel_rfl) (fun _ _ _ h => h) (Or.inl ⟨by rfl, ?_⟩) (by assumption) ?_
           rotate_left
           · intro w hSw;(try dsimp only at hSw);go_simp;(try with_reducible rfl)
           try simp only [Act.put,List.setIfInBounds_toArray,List.set_cons_zero,List.set_cons_succ]
           refine wpAnyH_take (i := 12) (oi := { dst := some 47, op := Op.fieldAddr 112 (Operand.tmp 4) 1, type := 0, pos := "fits.go:65", after := #[], guard := none }) (v := ?_) rfl (by kernel_rfl) (by kernel_rfl) (by kernel_rfl) (fun _ _ _ h => h) (Or.inl ⟨by rfl, ?_⟩) (by assumption) ?_
           rotate_left
           · intro w hSw;(try dsimp only at hSw);go_simp;(try with_reducible rfl)
           try simp only [Act.put,List.setIfInBounds_toArray,List.set_cons_zero,List.set_cons_succ]
           refine wpAnyH_take (i := 13) (oi := { dst := some 48, op := Op.load 63 (Operand.tmp 47), type := 63, pos := "fits.go:65", after := #[{ on := 12, ground := Ground.data }], guard := none }) (v := ?_) rfl (by kernel_rfl) (by kernel_rfl) (by kernel_rfl) (fun _ _ _ h => h) (Or.inl ⟨by rfl, ?_⟩) (by assumption) ?_
           rotate_left
           · intro w hSw;(try dsimp only at hSw);go_simp;(try with_reducible rfl)
           try simp only [Act.put,List.setIfInBounds_toArray,List.set_cons_zero,List.set_cons_succ]
           refine wpAnyH_take (i := 14) (oi := { dst := some 49, op := Op.call { callee := Callee.builtin Builtin.len, args := #[Operand.tmp 48], argTypes := #[63] }, type := 3, pos := "fits.go:65", after := #[{ on := 13, ground := Ground.data }], guard := none }) (v := ?_) rfl (by kernel_rfl) (by kernel_rfl) (by kernel_rfl) (fun _ _ _ h => h) (Or.inl ⟨by rfl, ?_⟩) (by assumption) ?_
           rotate_left
           · intro w hSw;(try dsimp only at hSw);go_simp;(try with_reducible rfl)
           try simp only [Act.put,List.setIfInBounds_toArray,List.set_cons_zero,List.set_cons_succ]
           refine wpAnyH_take (i := 15) (oi := { dst := some 50, op := Op.slice 63 (Operand.tmp 43) none (some (Operand.tmp 46)) (some (Operand.tmp 49)), type := 63, pos := "fits.go:65", after := #[{ on := 8, ground := Ground.data }, { on := 11, ground := Ground.data }, { on := 14, ground := Ground.data }], guard := none }) (v := ?_) rfl (by kernel_rfl) (by kernel_rfl) (by kernel_rfl) (fun _ _ _ h => h) (Or.inl ⟨by rfl, ?_⟩) (by assumption) ?_
           rotate_left
           · intro w hSw;(try dsimp only at hSw);go_simp;(try with_reducible rfl)
           try simp only [Act.put,List.setIfInBounds_toArray,List.set_cons_zero,List.set_cons_succ]
           refine wpAnyH_take (i := 16) (oi := { dst := some 51, op := Op.move (Operand.tmp 5), type := 3, pos := "fits.go:65", after := #[], guard := none }) (v := ?_) rfl (by kernel_rfl) (by kernel_rfl) (by kernel_rfl) (fun _ _ _ h => h) (Or.inl ⟨by rfl, ?_⟩) (by assumption) ?_
           rotate_left
           · intro w hSw;(try dsimp only at hSw);go_simp;(try with_reducible rfl)
           try simp only [Act.put,List.setIfInBounds_toArray,List.set_cons_zero,List.set_cons_succ]
           refine wpAnyH_take (i := 19) (oi := { dst := some 54, op := Op.fieldAddr 112 (Operand.tmp 4) 0, type := 0, pos := "fits.go:65", after := #[], guard := none }) (v := ?_) rfl (by kernel_rfl) (by kernel_rfl) (by kernel_rfl) (fun _ _ _ h => h) (Or.inl ⟨by rfl, ?_⟩) (by assumption) ?_
           rotate_left
           · intro w hSw;(try dsimp only at hSw);go_simp;(try with_reducible rfl)
           try simp only [Act.put,List.setIfInBounds_toArray,List.set_cons_zero,List.set_cons_succ]
           refine wpAnyH_take (i := 20) (oi := { dst := some 55, op := Op.fieldAddr 25 (Operand.tmp 54) 0, type := 0, pos := "fits.go:65", after := #[{ on := 19, ground := Ground.data }], guard := none }) (v := ?_) rfl (by kernel_rfl) (by kernel_rfl) (by kernel_rfl) (fun _ _ _ h => h) (Or.inl ⟨by rfl, ?_⟩) (by assumption) ?_
           rotate_left
           · intro w hSw;(try dsimp only at hSw);go_simp;(try with_reducible rfl)
           try simp only [Act.put,List.setIfInBounds_toArray,List.set_cons_zero,List.set_cons_succ]
           refine wpAnyH_take (i := 21) (oi := { dst := some 56, op := Op.load 3 (Operand.tmp 55), type := 3, pos := "fits.go:65", after := #[{ on := 20, ground := Ground.data }], guard := none }) (v := ?_) rfl (by kernel_rfl) (by kernel_rfl) (by kernel_rfl) (fun _ _ _ h => h) (Or.inl ⟨by rfl, ?_⟩) (by assumption) ?_
           rotate_left
           · intro w hSw;(try dsimp only at hSw);go_simp;(try with_reducible rfl)
           try simp only [Act.put,List.setIfInBounds_toArray,List.set_cons_zero,List.set_cons_succ]
           refine wpAnyH_take (i := 22) (oi := { dst := some 57, op := Op.binOp BinOp.eql 3 (Operand.tmp 56) (Operand.const (Value.int IntKind.i64 12)) 3, type := 4, pos := "fits.go:65", after := #[{ on := 21, ground := Ground.data }], guard := none }) (v := ?_) rfl (by kernel_rfl) (by kernel_rfl) (by kernel_rfl) (fun _ _ _ h => h) (Or.inl ⟨by rfl, ?_⟩) (by assumption) ?_
           rotate_left
           · intro w hSw;(try dsimp only at hSw);go_simp;(try with_reducible rfl)
           try simp only [Act.put,List.setIfInBounds_toArray,List.set_cons_zero,List.set_cons_succ]
           refine wpAnyH_ready (rs:=[17]) (by kernel_rfl) (by simp) ?_
           refine AllReadyH.cons (o := { dst := some 52, op := Op.buildSlice 63 1 #[(0, Operand.tmp 51)], type := 63, pos := "fits.go:65", after := #[{ on := 16, ground := Ground.data }], guard := none }) rfl (fun K hK => ?_) AllReadyH.nil
           go_simp
           refine hK.out _ _ ?_ (fun hHeld=>?_)
           · (try dsimp only);go_keep
           clear hK K
           try simp only [Act.put,List.setIfInBounds_toArray,List.set_cons_zero,List.set_cons_succ]
           refine wpAnyH_ready (rs:=[18]) (by kernel_rfl) (by simp) ?_
           refine AllReadyH.cons (o := { dst := some 53, op := Op.call { callee := Callee.builtin Builtin.append, args := #[Operand.tmp 50, Operand.tmp 52], argTypes := #[63, 63] }, type := 63, pos := "fits.go:65", after := #[{ on := 15, ground := Ground.data }, { on := 17, ground := Ground.data }], guard := none }) rfl (fun K hK => ?_) AllReadyH.nil
           refine step_append_grows rfl (.tmp 50) (.tmp 52) 63 rfl 3 i3 (.int .i64 0) 1 8 Tryz.underlying63 hi3 hz30 hz31 hz32 rfl (by decide) nx.x.pa nx.x.pm nx.x.pm nx.x.px (by rfl) (fun e=>⟨(HPA.out.1 e).1,(HPA.out.1 e).1⟩) HPA.out.2.2.1 (fun b hb j' u hu=>HPA.out.cell ((Below.refl _ wl).alloc (Nat.le_refl _) _).drew hb hu) ⟨wl.heap.size,0,none⟩ 1 1 [.int .i64 j] (by rfl) rfl (fun j' u hu=>news_one wl j j' u hu) (by intro u hu;rw [List.mem_singleton] at hu;subst hu;rfl) (by omega) (by unfold maxLen;omega) (by omega) ?_
           intro v' w2 hown hgr
           obtain ⟨g', cap', rfl⟩ := ownsRow_succ hown
           have hB2:Below wl.heap.size wl w2:=(((Below.refl _ wl).alloc (Nat.le_refl _) _).drew).grown hgr (by simp) (fun k e=>by cases e)
           have hw2:=hB2.size
           have HB2:=Lib.hid hB2
           have HP2:=Lib.hid (PathT.own (X:=X) hown (hXb g' (by have:=Qb5 hown g' rfl;simp at this;omega)) (one_snoc HPA.out.2.2.2.1 j))
           clear hB2 hown
           refine hK.out _ _ ?_ (fun hHeld=>?_)
           · (try dsimp only);(go_split_ands;refine ⟨?_,?_,?_,?_,?_,?_,?_,?_⟩ <;> (rw [hgr.cell_far _ (by simp;omega) (by simp)];assumption))
           clear hK K
           try simp only [Act.put,List.setIfInBounds_toArray,List.set_cons_zero,List.set_cons_succ]
           refine wpAnyH_take (i := 23) (oi := { dst := some 58, op := Op.move (Operand.tmp 57), type := 4, pos := "fits.go:65", after := #[{ on := 22, ground := Ground.data }, { on := 18, ground := Ground.chain }], guard := none }) (v := ?_) rfl (by kernel_rfl) (by kernel_rfl) (by kernel_rfl) (fun _ _ _ h => h) (Or.inl ⟨by rfl, ?_⟩) (by assumption) ?_
           rotate_left
           · intro w hSw;(try dsimp only at hSw);go_simp;(try with_reducible rfl)
           try simp only [Act.put,List.setIfInBounds_toArray,List.set_cons_zero,List.set_cons_succ]
           refine wpAnyH_take (i := 24) (oi := { dst := some 59, op := Op.move (Operand.tmp 5), type := 3, pos := "fits.go:65", after := #[{ on := 23, ground := Ground.guard }], guard := some (23, true) }) (v := undef) rfl (by kernel_rfl) (by kernel_rfl) (by kernel_rfl) (fun _ _ _ h => h) (Or.inr ⟨by rfl, rfl⟩) (by assumption) ?_
           try simp only [Act.put,List.setIfInBounds_toArray,List.set_cons_zero,List.set_cons_succ]
           refine wpAnyH_take (i := 25) (oi := { dst := some 60, op := Op.binOp BinOp.rem 3 (Operand.tmp 59) (Operand.const (Value.int IntKind.i64 2)) 3, type := 3, pos := "fits.go:65", after := #[{ on := 24, ground := Ground.data }, { on := 23, ground := Ground.guard }], guard := some (23, true) }) (v := undef) rfl (by kernel_rfl) (by kernel_rfl) (by kernel_rfl) (fun _ _ _ h => h) (Or.inr ⟨by rfl, rfl⟩) (by assumption) ?_
           try simp only [Act.put,List.setIfInBounds_toArray,List.set_cons_zero,List.set_cons_succ]
           refine wpAnyH_take (i := 26) (oi := { dst := some 61, op := Op.binOp BinOp.eql 3 (Operand.tmp 60) (Operand.const (Value.int IntKind.i64 0)) 3, type := 4, pos := "fits.go:65", after := #[{ on := 25, ground := Ground.data }, { on := 23, ground := Ground.guard }], guard := some (23, true) }) (v := undef) rfl (by kernel_rfl) (by kernel_rfl) (by kernel_rfl) (fun _ _ _ h => h) (Or.inr ⟨by rfl, rfl⟩) (by assumption) ?_
           try simp only [Act.put,List.setIfInBounds_toArray,List.set_cons_zero,List.set_cons_succ]
           refine wpAnyH_take (i := 27) (oi := { dst := some 62, op := Op.pick (Operand.tmp 58) (Operand.tmp 61) (Operand.const (Value.bool false)), type := 4, pos := "fits.go:65", after := #[{ on := 23, ground := Ground.data }, { on := 26, ground := Ground.data }], guard := none }) (v := ?_) rfl (by kernel_rfl) (by kernel_rfl) (by kernel_rfl) (fun _ _ _ h => h) (Or.inl ⟨by rfl, ?_⟩) (by assumption) ?_
           rotate_left
           · intro w hSw;(try dsimp only at hSw);go_simp;(try with_reducible rfl)
           try simp only [Act.put,List.setIfInBounds_toArray,List.set_cons_zero,List.set_cons_succ]
           refine wpAnyH_take (i := 28) (oi := { dst := some 63, op := Op.build 112 #[(0, Operand.tmp 41), (1, Operand.tmp 53), (2, Operand.tmp 62)], type := 112, pos := "fits.go:65", after := #[{ on := 6, ground := Ground.data }, { on := 18, ground := Ground.data }, { on := 27, ground := Ground.data }], guard := none }) (v := ?_) rfl (by kernel_rfl) (by kernel_rfl) (by kernel_rfl) (fun _ _ _ h => h) (Or.inl ⟨by rfl, ?_⟩) (by assumption) ?_
           rotate_left
           · intro w hSw;(try dsimp only at hSw);go_simp;(try with_reducible rfl)
           try simp only [Act.put,List.setIfInBounds_toArray,List.set_cons_zero,List.set_cons_succ]
           refine wpAnyH_ready (rs:=[29]) (by kernel_rfl) (by simp) ?_
           refine AllReadyH.cons (o := { dst := some 64, op := Op.buildSlice 189 1 #[(0, Operand.tmp 63)], type := 189, pos := "fits.go:65", after := #[{ on := 28, ground := Ground.data }], guard := none }) rfl (fun K hK => ?_) AllReadyH.nil
           go_simp
           refine hK.out _ _ ?_ (fun hHeld=>?_)
           · (try dsimp only);go_keep
           clear hK K
           try simp only [Act.put,List.setIfInBounds_toArray,List.set_cons_zero,List.set_cons_succ]
           refine wpAnyH_ready (rs:=[30]) (by kernel_rfl) (by simp) ?_
           refine AllReadyH.cons (o := { dst := some 65, op := Op.call { callee := Callee.builtin Builtin.append, args := #[Operand.tmp 35, Operand.tmp 64], argTypes := #[189, 189] }, type := 189, pos := "fits.go:65", after := #[{ on := 0, ground := Ground.data }, { on := 29, ground := Ground.data }, { on := 23, ground := Ground.chain }], guard := none }) rfl (fun K hK => ?_) AllReadyH.nil
           refine step_append_lies _ rfl (.tmp 35) (.tmp 64) 189 rfl W.heap.size 112 i7 _ 7 96 Tryz.underlying189 hi7 hz70 hz71 hz72 rfl (by decide) (.slice (some ⟨g2, 0, none⟩) nn cap2) nn (Qbo (st' ++ pu)) (by rfl) (Qbl HOwn.out fun k hk => (HB2.out.alloc (by omega) _).block k (own_lt HOwn.out k hk)) ⟨w2.heap.size, 0, none⟩ 1 1 (SpotC.cells ⟨y, ya, yc, some ⟨g', 0, none⟩, nx.x.pm + 1, cap', nx.x.px ++ [.int .i64 j], false⟩) (by rfl) (by rfl) (World.news_of_block (heap_alloc_new w2 _)) (spot_one _) (by omega) (by unfold maxLen; omega) (by omega) (by simp; omega) (w2.heap.size + 1) (by simp) ?_
           intro g3 cap3 w4 hown4 hgw hat hlt4
           refine hK.out _ _ ?_ (fun hHeld=>?_)
           · (try dsimp only);(go_split_ands;refine ⟨?_,?_,?_,?_,?_,?_,?_,?_⟩ <;> (rw [hgw.cell_far _ (by simp;omega) (by simp [Value.ownBlock];omega)];assumption))
           clear hK K
           try simp only [Act.put,List.setIfInBounds_toArray,List.set_cons_zero,List.set_cons_succ]
           refine wpAnyH_take (i := 31) (oi := { dst := some 3, op := Op.assign (Operand.tmp 65), type := 189, pos := "fits.go:65", after := #[{ on := 30, ground := Ground.data }, { on := 30, ground := Ground.chain }, { on := 0, ground := Ground.phase }, { on := 1, ground := Ground.phase }, { on := 2, ground := Ground.phase }, { on := 3, ground := Ground.phase }, { on := 4, ground := Ground.phase }, { on := 5, ground := Ground.phase }, { on := 6, ground := Ground.phase }, { on := 7, ground := Ground.phase }, { on := 8, ground := Ground.phase }, { on := 9, ground := Ground.phase }, { on := 10, ground := Ground.phase }, { on := 11, ground := Ground.phase }, { on := 12, ground := Ground.phase }, { on := 13, ground := Ground.phase }, { on := 14, ground := Ground.phase }, { on := 15, ground := Ground.phase }, { on := 16, ground := Ground.phase }, { on := 17, ground := Ground.phase }, { on := 18, ground := Ground.phase }, { on := 19, ground := Ground.phase }, { on := 20, ground := Ground.phase }, { on := 21, ground := Ground.phase }, { on := 22, ground := Ground.phase }, { on := 23, ground := Ground.phase }, { on := 24, ground := Ground.phase }, { on := 25, ground := Ground.phase }, { on := 26, ground := Ground.phase }, { on := 27, ground := Ground.phase }, { on := 28, ground := Ground.phase }, { on := 29, ground := Ground.phase }, { on := 30, ground := Ground.phase }], guard := none }) (v := ?_) rfl (by kernel_rfl) (by kernel_rfl) (by kernel_rfl) (fun _ _ _ h => h) (Or.inl ⟨by rfl, ?_⟩) (by assumption) ?_
           rotate_left
           · intro w hSw;(try dsimp only at hSw);go_simp;(try with_reducible rfl)
           try simp only [Act.put,List.setIfInBounds_toArray,List.set_cons_zero,List.set_cons_succ]
           refine wpAnyH_done (by kernel_rfl) ?_ _
           refine NoPanic.normal ?_
           have e3:IntKind.i64.wrap ((j:Int) - 1)=(j:Int) - 1:=by rw [IntKind.wrap_i64];omega
           have hP:=HS2.out.push hJ HNN.out HB2.out hgw hown4 ⟨hyT,⟨hyc,wf_kid HXO.out.2.1.2 hy⟩,HP2.out,by have h1:=bulkL_mem (List.mem_of_getElem? hy);show nx.x.pm+1+bulk y≤_;omega⟩
           have hR4:Row7 w4 q nx.x:=(hgw.block q (by simp;omega) (fun e'=>by cases e';exact hg2 rfl)).trans (((HB2.out.alloc HB2.out.size _).block q hqlt).trans HR3.out)
           have hg3:g3 ≠ q:=by
            rcases hat with e' | e'
            · cases e';exact hg2
            · omega
           have HF := Lib.hid (show StIs w0 P X J W.heap.size W g3 cap3 (st' ++ (pu ++ [(⟨y, ya, yc, some ⟨g', 0, none⟩, nx.x.pm + 1, cap', nx.x.px ++ [.int .i64 j], false⟩ : SpotC)])) (ys ++ [nx]) w4 ∧ KT 112 X W3 w4 from ⟨by rw [← List.append_assoc]; exact hP.1, HKT.out.trans hP.2⟩)
           have HR4:=Lib.hid hR4
           have HH:=Lib.hid hy
           clear hP hR4 hown4 hgw hat hlt4 hy hgr
           gi_wp2
           refine ⟨?rel2,?measure2⟩
           case rel2 =>
            refine ⟨j, pu ++ [(⟨y, ya, yc, some ⟨g', 0, none⟩, nx.x.pm + 1, cap', nx.x.px ++ [.int .i64 j], false⟩ : SpotC)], g3, cap3, nn + 1, by omega, rfl, rfl, hg3, Lib.hid HF.out.1, Lib.hid ?_, HR4, Lib.hid ?_, Lib.hid HF.out.2⟩
            · rw [← List.append_assoc,restK_snoc,HRK.out]
              have h1:=preKL_drop nx.x.t.f0 nx.x.t.f4 0 j y HH.out
              rw [Nat.zero_add,Nat.zero_add] at h1
              rw [h1,List.append_assoc]
              have h2:false=keyAt nx.x.t.f0 j:=by unfold keyAt;rw [b12];rfl
              rw [h2]
            · rw [← List.append_assoc,List.length_append,← HNN.out]
              rfl
           case measure2=>simp [intOf]
end Go.Proofs.YtfmceonbejlhlaaGreatDoor
