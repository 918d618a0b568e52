import Derived.Test.YtfmceonbejlhlaaGreatDoorProg
import Derived.WalkKit
import Derived.WalkSpells
import Derived.WalkLawsBesides
import Derived.KernelRfl
import Derived.Deep.WholeRow
import Derived.Lib.Hide
import Derived.Laws.CopyOwn
namespace Go.Proofs.YtfmceonbejlhlaaGreatDoor
open Go.RowKit
def leadCells:Array Value:=#[.int .u8 0,.int .u8 127,.int .i64 1,.int .u8 0,.int .u8 0,
 .int .u8 194,.int .u8 223,.int .i64 2,.int .u8 128,.int .u8 191,
 .int .u8 224,.int .u8 224,.int .i64 3,.int .u8 160,.int .u8 191,
 .int .u8 225,.int .u8 236,.int .i64 3,.int .u8 128,.int .u8 191,
 .int .u8 237,.int .u8 237,.int .i64 3,.int .u8 128,.int .u8 159,
 .int .u8 238,.int .u8 239,.int .i64 3,.int .u8 128,.int .u8 191,
 .int .u8 240,.int .u8 240,.int .i64 4,.int .u8 144,.int .u8 191,
 .int .u8 241,.int .u8 243,.int .i64 4,.int .u8 128,.int .u8 191,
 .int .u8 244,.int .u8 244,.int .i64 4,.int .u8 128,.int .u8 143]
set_option maxHeartbeats 400000 in
set_option maxRecDepth 100000 in
theorem leads_any (w:World) :
 Calls Tryz.prog 171 #[] w fun e w'=>e=.returned (.agg leadCells)∧w'=w.alloc (.cells leadCells 296):=by
 go_enter Tryz.func171,Tryz.ntmps171
 go_wp2_with (refine wpList_store_row rfl 296 (.tmp 0) (.tmp 10) rfl w.heap.size leadCells rfl rfl 296 _ (heap_alloc_last w _) (by kernel_rfl) (by kernel_rfl) (by kernel_rfl) ?_)
 rw [World.setRow_alloc_new]
 exact bodyPost_ret (v:=.agg leadCells) (results_cell_row (p:=0) (ty:=296) rfl _ _ w.heap.size 296 leadCells (0,0) _ rfl (heap_alloc_last w _) Tryz.underlying296 rfl (by kernel_rfl)) rfl ⟨rfl,rfl⟩
def leadRows:List (Int × Int × Int × Int × Int):=[(0,127,1,0,0),(194,223,2,128,191),(224,224,3,160,191),(225,236,3,128,191),(237,237,3,128,159),(238,239,3,128,191),(240,240,4,144,191),(241,243,4,128,191),(244,244,4,128,143)]
def rowOf:List (Int × Int × Int × Int × Int)→Int→Int × Int × Int × Int × Int
 | [],_=>(0,0,0,0,0)
 | r :: t,c=>if r.1≤c∧c≤r.2.1 then r else rowOf t c
def aggOf (r:Int × Int × Int × Int × Int):Array Value:=#[.int .u8 r.1,.int .u8 r.2.1,.int .i64 r.2.2.1,.int .u8 r.2.2.2.1,.int .u8 r.2.2.2.2]
theorem drop_hit {l:List (Int × Int × Int × Int × Int)} {r:Int × Int × Int × Int × Int} {t:List (Int × Int × Int × Int × Int)} {c:Int} (h:l=r :: t) (h1:r.1≤c) (h2:c≤r.2.1):rowOf l c=r:=by
 subst h;simp [rowOf,h1,h2]
theorem drop_miss {l:List (Int × Int × Int × Int × Int)} {r:Int × Int × Int × Int × Int} {t:List (Int × Int × Int × Int × Int)} {c:Int} (h:l=r :: t) (h1:¬ (r.1≤c∧c≤r.2.1)):rowOf l c=rowOf t c:=by
 subst h;simp [rowOf,h1]
def Row (c:Int) (w:World) (e:Ending) (w':World):Prop:=e=.returned (.agg (aggOf (rowOf leadRows c)))∧Below w.heap.size w w'
theorem lead_size:(Tryz.prog.info? 250).map (·.size)=some 5:=by kernel_rfl
theorem agg_one (r:Int × Int × Int × Int × Int):(aggOf r).all (·.oneCell')=true:=by simp [aggOf,Value.oneCell']
theorem drop_lead {k:Nat} (hk:k<9) {r:Int × Int × Int × Int × Int} (h:leadRows.getD k (0,0,0,0,0)=r):leadRows.drop k=r :: leadRows.drop (k+1):=by
 subst h
 match k,hk with
 | 0,_=>rfl
 | 1,_=>rfl
 | 2,_=>rfl
 | 3,_=>rfl
 | 4,_=>rfl
 | 5,_=>rfl
 | 6,_=>rfl
 | 7,_=>rfl
 | 8,_=>rfl
set_option maxRecDepth 100000 in
theorem index_lead (k:Nat) (hk:k<9) (W:World):(Instr.index 296 (.agg leadCells) (.int .i64 (k:Int))).run Tryz.prog W=.ok (.agg (aggOf (leadRows.getD k (0,0,0,0,0)))) W:=by
 match k,hk with
 | 0,_=>exact (by kernel_rfl:(Instr.index 296 (.agg leadCells) (.int .i64 0)).run Tryz.prog W=.ok (.agg (aggOf (leadRows.getD 0 (0,0,0,0,0)))) W)
 | 1,_=>exact (by kernel_rfl:(Instr.index 296 (.agg leadCells) (.int .i64 1)).run Tryz.prog W=.ok (.agg (aggOf (leadRows.getD 1 (0,0,0,0,0)))) W)
 | 2,_=>exact (by kernel_rfl:(Instr.index 296 (.agg leadCells) (.int .i64 2)).run Tryz.prog W=.ok (.agg (aggOf (leadRows.getD 2 (0,0,0,0,0)))) W)
 | 3,_=>exact (by kernel_rfl:(Instr.index 296 (.agg leadCells) (.int .i64 3)).run Tryz.prog W=.ok (.agg (aggOf (leadRows.getD 3 (0,0,0,0,0)))) W)
 | 4,_=>exact (by kernel_rfl:(Instr.index 296 (.agg leadCells) (.int .i64 4)).run Tryz.prog W=.ok (.agg (aggOf (leadRows.getD 4 (0,0,0,0,0)))) W)
 | 5,_=>exact (by kernel_rfl:(Instr.index 296 (.agg leadCells) (.int .i64 5)).run Tryz.prog W=.ok (.agg (aggOf (leadRows.getD 5 (0,0,0,0,0)))) W)
 | 6,_=>exact (by kernel_rfl:(Instr.index 296 (.agg leadCells) (.int .i64 6)).run Tryz.prog W=.ok (.agg (aggOf (leadRows.getD 6 (0,0,0,0,0)))) W)
 | 7,_=>exact (by kernel_rfl:(Instr.index 296 (.agg leadCells) (.int .i64 7)).run Tryz.prog W=.ok (.agg (aggOf (leadRows.getD 7 (0,0,0,0,0)))) W)
 | 8,_=>exact (by kernel_rfl:(Instr.index 296 (.agg leadCells) (.int .i64 8)).run Tryz.prog W=.ok (.agg (aggOf (leadRows.getD 8 (0,0,0,0,0)))) W)
set_option maxHeartbeats 1000000 in
set_option maxRecDepth 100000 in
theorem row_any (c:Int) (w:World) :
 Calls Tryz.prog 144 #[.int .u8 c] w (Row c w):=by
 go_enter Tryz.func144,Tryz.ntmps144
 go_wp2_with (go_at_call 171;refine (leads_any _).mono ?_;rintro e w' ⟨rfl,rfl⟩)
 go_loopw [6] (fun i wr=>∃ k:Nat,k≤9∧i=.int .i64 k∧Hid (rowOf leadRows c=rowOf (leadRows.drop k) c)∧wr.heap[w.heap.size]? = some (.cells (aggOf (0,0,0,0,0)) 250 (0,0))∧Below w.heap.size w wr) (fun i _=>9 - (intOf i).toNat)
 case atStart=>exact ⟨0,by omega,rfl,rfl,(Below.heap_alloc _ _ _ (by simp)).trans (heap_alloc_new _ _),((Below.refl _ _).alloc (by simp) _).alloc (by simp) _⟩
 case round =>
  obtain ⟨k,hk,rfl,hrow,hcell,hb⟩:=hrel
  by_cases hlt:k<9
  · have i0:=index_lead k hlt
    obtain ⟨a,b,n,l,m,hr⟩:∃ a b n l m,leadRows.getD k (0,0,0,0,0)=(a,b,n,l,m):=⟨_,_,_,_,_,rfl⟩
    have hd:=drop_lead hlt hr
    rw [hr] at i0
    have H2:=Lib.hid hd
    clear hr hd
    simp only [aggOf] at i0
    have hcell':∀ o,(wr.alloc o).heap[w.heap.size]? = some (.cells (aggOf (0,0,0,0,0)) 250 (0,0)):=fun o=>(Below.heap_alloc _ _ _ (block_lt_of_cell (cell_of_row _ _ 0 _ _ _ hcell))).trans hcell
    by_cases ha:a≤c
    · by_cases hc:c≤b
      · go_wp2_with ((refine wpList_store_row rfl 250 (.tmp 2) (.tmp 19) rfl w.heap.size #[.int .u8 a,.int .u8 b,.int .i64 n,.int .u8 l,.int .u8 m] rfl rfl 250 _ (hcell' _) lead_size rfl (agg_one (a,b,n,l,m)) ?_))
        have hf:=(hrow.out.trans (drop_hit H2.out ha hc)).symm
        refine bodyPost_ret (v:=.agg #[.int .u8 a,.int .u8 b,.int .i64 n,.int .u8 l,.int .u8 m]) (results_cell_row (p:=2) (ty:=250) rfl _ _ w.heap.size 250 #[.int .u8 a,.int .u8 b,.int .i64 n,.int .u8 l,.int .u8 m] (0,0) _ rfl (setRow_heap _ _ _ _ _ _ (hcell' _)) Tryz.underlying250 rfl lead_size) rfl ⟨?_,below_setRow (hb.alloc hb.size _) (Nat.le_refl _) _⟩
        rw [← hf];rfl
      · go_wp2
        go_roundw
        case rel=>exact ⟨k+1,by omega,by go_num,hrow.out.trans (drop_miss H2.out (fun h=>hc h.2)),hcell' _,hb.alloc hb.size _⟩
        case measure=>simp [intOf];omega
    · go_wp2
      go_roundw
      case rel=>exact ⟨k+1,by omega,by go_num,hrow.out.trans (drop_miss H2.out (fun h=>ha h.1)),hcell' _,hb.alloc hb.size _⟩
      case measure=>simp [intOf];omega
  · obtain rfl:k=9:=by omega
    go_wp2_with (refine wpList_store_row rfl 250 (.tmp 2) (.tmp 21) rfl w.heap.size #[.int .u8 0,.int .u8 0,.int .i64 0,.int .u8 0,.int .u8 0] rfl rfl 250 _ hcell lead_size rfl (agg_one (0,0,0,0,0)) ?_)
    have hf:rowOf leadRows c=(0,0,0,0,0):=hrow.out
    refine bodyPost_ret (v:=.agg #[.int .u8 0,.int .u8 0,.int .i64 0,.int .u8 0,.int .u8 0]) (results_cell_row (p:=2) (ty:=250) rfl _ _ w.heap.size 250 #[.int .u8 0,.int .u8 0,.int .i64 0,.int .u8 0,.int .u8 0] (0,0) _ rfl (setRow_heap _ _ _ _ _ _ hcell) Tryz.underlying250 rfl lead_size) rfl ⟨?_,below_setRow hb (Nat.le_refl _) _⟩
    rw [hf];rfl
abbrev St:=Int × Int × Int
def st0:St:=(0,0,0)
def stp (st:St) (c room:Int):Option St :=
 if st.1 > 0 then (if c<st.2.1 ∨ c > st.2.2 then none else some (st.1 - 1,128,191))
 else if (rowOf leadRows c).2.2.1=0 ∨ (0≤room∧(rowOf leadRows c).2.2.1 - 1 > room) then none
 else some ((rowOf leadRows c).2.2.1 - 1,(rowOf leadRows c).2.2.2.1,(rowOf leadRows c).2.2.2.2)
theorem rowOf_n (c:Int):0≤(rowOf leadRows c).2.2.1∧(rowOf leadRows c).2.2.1≤4:=by
 simp only [leadRows,rowOf]
 repeat' split
 all_goals simp
theorem stp_left {st st':St} {c room:Int} (h:stp st c room=some st') (h0:0≤st.1∧st.1≤3):0≤st'.1∧st'.1≤3:=by
 have hn:=rowOf_n c
 unfold stp at h
 split at h
 · split at h
   · cases h
   · cases h;simp;omega
 · split at h
   · cases h
   · cases h;simp;omega
def chkL:List UInt8→St→Int→Int × Int
 | [],st,i=>if st.1 > 0 then (i,3) else (i,0)
 | c :: t,st,i=>match stp st c.toNat (-1) with
   | none=>(i,4)
   | some st'=>chkL t st' (i+1)
def chk (s:ByteArray):Int × Int:=chkL s.data.toList st0 0
def Turned (g o:Nat) (st:St) (w w':World):Prop :=
 ∃ w1,Below w.heap.size w w1∧w'=((w1.setCell ⟨g,o,none⟩ (.int .i64 st.1)).setCell ⟨g,o+1,none⟩ (.int .u8 st.2.1)).setCell ⟨g,o+2,none⟩ (.int .u8 st.2.2)
def StepYes (g o:Nat) (st:St) (w:World) (e:Ending) (w':World):Prop:=e=.returned (.bool true)∧Turned g o st w w'
def StepNo (w:World) (e:Ending) (w':World):Prop:=e=.returned (.bool false)∧Below w.heap.size w w'
theorem lt_of_cell {w:World} {g o:Nat} {v:Value} (h:w.cell? ⟨g,o,none⟩=some v):g<w.heap.size:=block_lt_of_cell h
set_option maxHeartbeats 1000000 in
set_option maxRecDepth 100000 in
theorem step_in (g o:Nat) (a l m:Int) (c room:Int) (w:World) (h0:0<a) (h3:a≤3)
 (c0:w.cell? ⟨g,o,none⟩=some (.int .i64 a)) (c1:w.cell? ⟨g,o+1,none⟩=some (.int .u8 l)) (c2:w.cell? ⟨g,o+2,none⟩=some (.int .u8 m))
 (f0:w.frozen? ⟨g,o,none⟩=false) (f1:w.frozen? ⟨g,o+1,none⟩=false) (f2:w.frozen? ⟨g,o+2,none⟩=false) (hl:l≤c) (hm:c≤m) :
 Calls Tryz.prog 103 #[.pointer (some ⟨g,o,none⟩),.int .u8 c,.int .i64 room] w (StepYes g o (a - 1,128,191) w):=by
 go_enter Tryz.func103,Tryz.ntmps103
 go_wp2
 go_ret
 exact ⟨rfl,w,Below.refl _ _,rfl⟩
set_option maxHeartbeats 1000000 in
set_option maxRecDepth 100000 in
theorem step_low (g o:Nat) (a l:Int) (c room:Int) (w:World) (h0:0<a)
 (c0:w.cell? ⟨g,o,none⟩=some (.int .i64 a)) (c1:w.cell? ⟨g,o+1,none⟩=some (.int .u8 l)) (hl:c<l) :
 Calls Tryz.prog 103 #[.pointer (some ⟨g,o,none⟩),.int .u8 c,.int .i64 room] w (StepNo w):=by
 go_enter Tryz.func103,Tryz.ntmps103
 go_wp2
 go_ret
 exact ⟨rfl,Below.refl _ _⟩
set_option maxHeartbeats 1000000 in
set_option maxRecDepth 100000 in
theorem step_high (g o:Nat) (a l m:Int) (c room:Int) (w:World) (h0:0<a)
 (c0:w.cell? ⟨g,o,none⟩=some (.int .i64 a)) (c1:w.cell? ⟨g,o+1,none⟩=some (.int .u8 l)) (c2:w.cell? ⟨g,o+2,none⟩=some (.int .u8 m)) (hl:l≤c) (hm:m<c) :
 Calls Tryz.prog 103 #[.pointer (some ⟨g,o,none⟩),.int .u8 c,.int .i64 room] w (StepNo w):=by
 go_enter Tryz.func103,Tryz.ntmps103
 go_wp2
 go_ret
 exact ⟨rfl,Below.refl _ _⟩
set_option maxHeartbeats 1000000 in
set_option maxRecDepth 100000 in
theorem step_none (g o:Nat) (a:Int) (c room:Int) (w:World) (h0:a≤0)
 (c0:w.cell? ⟨g,o,none⟩=some (.int .i64 a)) (hn:(rowOf leadRows c).2.2.1=0) :
 Calls Tryz.prog 103 #[.pointer (some ⟨g,o,none⟩),.int .u8 c,.int .i64 room] w (StepNo w):=by
 obtain ⟨q1,q2,n,q3,q4,hr⟩:∃ q1 q2 n q3 q4,rowOf leadRows c=(q1,q2,n,q3,q4):=⟨_,_,_,_,_,rfl⟩
 rw [hr] at hn
 obtain rfl:n=0:=hn
 have HR:=Lib.hid hr
 clear hr
 go_enter Tryz.func103,Tryz.ntmps103
 go_wp2_with (go_at_call 144;refine (row_any c _).mono ?_;rintro e w1 ⟨rfl,hb1⟩;rw [HR.out];unfold aggOf;dsimp only)
 go_ret
 exact ⟨rfl,hb1.alloc hb1.size _⟩
set_option maxHeartbeats 1000000 in
set_option maxRecDepth 100000 in
theorem step_room (g o:Nat) (a:Int) (c room:Int) (w:World) (h0:a≤0)
 (c0:w.cell? ⟨g,o,none⟩=some (.int .i64 a)) (hn:¬ (rowOf leadRows c).2.2.1=0) (hr0:0≤room) (hr1:room<(rowOf leadRows c).2.2.1 - 1) :
 Calls Tryz.prog 103 #[.pointer (some ⟨g,o,none⟩),.int .u8 c,.int .i64 room] w (StepNo w):=by
 have hb4:=rowOf_n c
 obtain ⟨q1,q2,n,q3,q4,hr⟩:∃ q1 q2 n q3 q4,rowOf leadRows c=(q1,q2,n,q3,q4):=⟨_,_,_,_,_,rfl⟩
 rw [hr] at hn hr1 hb4
 dsimp only at hn hr1 hb4
 obtain ⟨hb4,hb5⟩:=hb4
 have hn':(n == 0)=false:=by simpa using hn
 have HR:=Lib.hid hr
 clear hr
 go_enter Tryz.func103,Tryz.ntmps103
 go_wp2_with (go_at_call 144;refine (row_any c _).mono ?_;rintro e w1 ⟨rfl,hb1⟩;rw [HR.out];unfold aggOf;dsimp only)
 go_ret
 exact ⟨rfl,hb1.alloc hb1.size _⟩
set_option maxHeartbeats 1000000 in
set_option maxRecDepth 100000 in
theorem step_first (g o:Nat) (a l m:Int) (c room:Int) (w:World) (h0:a≤0)
 (c0:w.cell? ⟨g,o,none⟩=some (.int .i64 a)) (c1:w.cell? ⟨g,o+1,none⟩=some (.int .u8 l)) (c2:w.cell? ⟨g,o+2,none⟩=some (.int .u8 m))
 (f0:w.frozen? ⟨g,o,none⟩=false) (f1:w.frozen? ⟨g,o+1,none⟩=false) (f2:w.frozen? ⟨g,o+2,none⟩=false) (hn:¬ (rowOf leadRows c).2.2.1=0) (hr0:0≤room) (hr1:(rowOf leadRows c).2.2.1 - 1≤room) :
 Calls Tryz.prog 103 #[.pointer (some ⟨g,o,none⟩),.int .u8 c,.int .i64 room] w (StepYes g o ((rowOf leadRows c).2.2.1 - 1,(rowOf leadRows c).2.2.2.1,(rowOf leadRows c).2.2.2.2) w):=by
 have hb4:=rowOf_n c
 obtain ⟨q1,q2,n,q3,q4,hr⟩:∃ q1 q2 n q3 q4,rowOf leadRows c=(q1,q2,n,q3,q4):=⟨_,_,_,_,_,rfl⟩
 rw [hr] at hn hr1 hb4 ⊢
 dsimp only at hn hr1 hb4 ⊢
 obtain ⟨hb4,hb5⟩:=hb4
 have hn':(n == 0)=false:=by simpa using hn
 have HR:=Lib.hid hr
 have hlt:=lt_of_cell c0
 clear hr
 go_enter Tryz.func103,Tryz.ntmps103
 go_wp2_with (go_at_call 144;refine (row_any c _).mono ?_;rintro e w1 ⟨rfl,hb1⟩;rw [HR.out];unfold aggOf;dsimp only;have hsz:=hb1.size;have hb2:=fun ob=>hb1.alloc hb1.size ob;have d0:=fun ob=>((hb2 ob).cell (p:=⟨g,o,none⟩) hlt).trans c0;have d1:=fun ob=>((hb2 ob).cell (p:=⟨g,o+1,none⟩) hlt).trans c1;have d2:=fun ob=>((hb2 ob).cell (p:=⟨g,o+2,none⟩) hlt).trans c2;have e0:=fun ob=>((hb2 ob).frozen (p:=⟨g,o,none⟩) hlt).trans f0;have e1:=fun ob=>((hb2 ob).frozen (p:=⟨g,o+1,none⟩) hlt).trans f1;have e2:=fun ob=>((hb2 ob).frozen (p:=⟨g,o+2,none⟩) hlt).trans f2;clear hb2)
 go_ret
 exact ⟨rfl,_,hb1.alloc hb1.size _,rfl⟩
set_option maxHeartbeats 1000000 in
set_option maxRecDepth 100000 in
theorem step_free (g o:Nat) (a l m:Int) (c room:Int) (w:World) (h0:a≤0)
 (c0:w.cell? ⟨g,o,none⟩=some (.int .i64 a)) (c1:w.cell? ⟨g,o+1,none⟩=some (.int .u8 l)) (c2:w.cell? ⟨g,o+2,none⟩=some (.int .u8 m))
 (f0:w.frozen? ⟨g,o,none⟩=false) (f1:w.frozen? ⟨g,o+1,none⟩=false) (f2:w.frozen? ⟨g,o+2,none⟩=false) (hn:¬ (rowOf leadRows c).2.2.1=0) (hr0:room<0) :
 Calls Tryz.prog 103 #[.pointer (some ⟨g,o,none⟩),.int .u8 c,.int .i64 room] w (StepYes g o ((rowOf leadRows c).2.2.1 - 1,(rowOf leadRows c).2.2.2.1,(rowOf leadRows c).2.2.2.2) w):=by
 have hb4:=rowOf_n c
 obtain ⟨q1,q2,n,q3,q4,hr⟩:∃ q1 q2 n q3 q4,rowOf leadRows c=(q1,q2,n,q3,q4):=⟨_,_,_,_,_,rfl⟩
 rw [hr] at hn hb4 ⊢
 dsimp only at hn hb4 ⊢
 obtain ⟨hb4,hb5⟩:=hb4
 have hn':(n == 0)=false:=by simpa using hn
 have HR:=Lib.hid hr
 have hlt:=lt_of_cell c0
 clear hr
 go_enter Tryz.func103,Tryz.ntmps103
 go_wp2_with (go_at_call 144;refine (row_any c _).mono ?_;rintro e w1 ⟨rfl,hb1⟩;rw [HR.out];unfold aggOf;dsimp only;have hsz:=hb1.size;have hb2:=fun ob=>hb1.alloc hb1.size ob;have d0:=fun ob=>((hb2 ob).cell (p:=⟨g,o,none⟩) hlt).trans c0;have d1:=fun ob=>((hb2 ob).cell (p:=⟨g,o+1,none⟩) hlt).trans c1;have d2:=fun ob=>((hb2 ob).cell (p:=⟨g,o+2,none⟩) hlt).trans c2;have e0:=fun ob=>((hb2 ob).frozen (p:=⟨g,o,none⟩) hlt).trans f0;have e1:=fun ob=>((hb2 ob).frozen (p:=⟨g,o+1,none⟩) hlt).trans f1;have e2:=fun ob=>((hb2 ob).frozen (p:=⟨g,o+2,none⟩) hlt).trans f2;clear hb2)
 go_ret
 exact ⟨rfl,_,hb1.alloc hb1.size _,rfl⟩
theorem step_ok (g o:Nat) (st st':St) (c room:Int) (w:World) (h0:0≤st.1∧st.1≤3)
 (c0:w.cell? ⟨g,o,none⟩=some (.int .i64 st.1)) (c1:w.cell? ⟨g,o+1,none⟩=some (.int .u8 st.2.1)) (c2:w.cell? ⟨g,o+2,none⟩=some (.int .u8 st.2.2))
 (f0:w.frozen? ⟨g,o,none⟩=false) (f1:w.frozen? ⟨g,o+1,none⟩=false) (f2:w.frozen? ⟨g,o+2,none⟩=false) (h:stp st c room=some st') :
 Calls Tryz.prog 103 #[.pointer (some ⟨g,o,none⟩),.int .u8 c,.int .i64 room] w (StepYes g o st' w):=by
 unfold stp at h
 split at h
 · rename_i hg
   split at h
   · cases h
   · rename_i hr
     cases h
     exact step_in g o st.1 st.2.1 st.2.2 c room w hg h0.2 c0 c1 c2 f0 f1 f2 (by omega) (by omega)
 · rename_i hg
   split at h
   · cases h
   · rename_i hr
     cases h
     have hn:¬ (rowOf leadRows c).2.2.1=0:=fun e=>hr (.inl e)
     by_cases hp:0≤room
     · exact step_first g o st.1 st.2.1 st.2.2 c room w (by omega) c0 c1 c2 f0 f1 f2 hn hp (by omega)
     · exact step_free g o st.1 st.2.1 st.2.2 c room w (by omega) c0 c1 c2 f0 f1 f2 hn (by omega)
theorem step_no (g o:Nat) (st:St) (c room:Int) (w:World)
 (c0:w.cell? ⟨g,o,none⟩=some (.int .i64 st.1)) (c1:w.cell? ⟨g,o+1,none⟩=some (.int .u8 st.2.1)) (c2:w.cell? ⟨g,o+2,none⟩=some (.int .u8 st.2.2))
 (h:stp st c room=none) :
 Calls Tryz.prog 103 #[.pointer (some ⟨g,o,none⟩),.int .u8 c,.int .i64 room] w (StepNo w):=by
 unfold stp at h
 split at h
 · rename_i hg
   split at h
   · rename_i hr
     by_cases hl:c<st.2.1
     · exact step_low g o st.1 st.2.1 c room w hg c0 c1 hl
     · exact step_high g o st.1 st.2.1 st.2.2 c room w hg c0 c1 c2 (by omega) (by omega)
   · cases h
 · rename_i hg
   split at h
   · rename_i hr
     by_cases hn:(rowOf leadRows c).2.2.1=0
     · exact step_none g o st.1 c room w (by omega) c0 hn
     · exact step_room g o st.1 c room w (by omega) c0 hn (by omega) (by omega)
   · cases h
end Go.Proofs.YtfmceonbejlhlaaGreatDoor
