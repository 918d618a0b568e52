import Derived.Shelf.Spec.TrailingZeros
import Derived.Lib.Builder
import Derived.Lib.AppendStr
import Derived.Lib.UnsafeStr
import Derived.Laws.Externs
import Derived.Test.YtfmceonbejlhlaaGreatDoorMWs28
namespace Go.Proofs.YtfmceonbejlhlaaGreatDoor
open Go.RowKit Go.Proofs.YtfmceonbejlhlaaGreatDoorW.PrintWords Go.Proofs.YtfmceonbejlhlaaGreatDoorW.PrintLast Go.Proofs.YtfmceonbejlhlaaGreatDoorW.PrintMore
set_option linter.unusedVariables false
def B64 (w:World):Prop:=w.cell? ⟨5,15,none⟩=some (.int .u8 4)
theorem B64.below {w w':World} (h:B64 w) (hb:Below w.heap.size w w'):B64 w':=by
 unfold B64 at h ⊢
 rw [← h]
 have:=World.block_lt_of_cell? w _ h
 unfold World.cell?
 rw [hb.block 5 this]
theorem B64.of {w:World} (h:TabAt 5 Lib.deBruijn64tab w):B64 w:=h 15 (by decide)
def Tabs (w:World):Prop:=P10 w∧B64 w
theorem Tabs.below {w w':World} (h:Tabs w) (hb:Below w.heap.size w w'):Tabs w':=⟨h.1.below hb,h.2.below hb⟩
set_option maxRecDepth 100000 in
theorem tz64_16 (w:World) (h:B64 w):Calls Tryz.prog 211 #[.int .u64 16] w (fun e w'=>e=.returned (.int .i64 4)∧w'=w):=by
 have hcell:w.cell? ⟨5,15,none⟩=some (.int .u8 4):=h
 have hk:IntKind.u64.wrap (Go.bits BinOp.and IntKind.u64 16 (IntKind.u64.wrap (-16))*285870213051353865) / 288230376151711744=15:=by decide +kernel
 go_enter Tryz.func211,Tryz.ntmps211
 go_wp2_with (simp only [hk])
 go_ret
 exact ⟨rfl,rfl⟩
theorem tz_16 (w:World) (h:B64 w):Calls Tryz.prog 207 #[.int .u64 16] w (fun e w'=>e=.returned (.int .i64 4)∧w'=w):=by
 have HI:=Lib.hid (tz64_16 w h)
 go_enter Tryz.func207,Tryz.ntmps207
 go_wp2_with (go_at_call 211;refine HI.out.mono ?_;rintro e w' ⟨rfl,hw'⟩;rw [hw'])
 go_ret
 exact ⟨rfl,rfl⟩
theorem pow2_16 (w:World):Calls Tryz.prog 206 #[.int .i64 16] w (fun e w'=>e=.returned (.bool true)∧w'=w):=by
 have hk:Go.bits BinOp.and IntKind.i64 16 15=0:=by decide +kernel
 go_enter Tryz.func206,Tryz.ntmps206
 go_wp2
 go_ret
 exact ⟨rfl,rfl⟩
def HexB (w:World) (g:Nat):Prop:=∃ cs:Array Value,w.heap[g]? = some (.cells cs 325 (0,0))∧cs.size=65∧∀ j,j<65→∃ c:Nat,c<128∧cs[j]? = some (.int .u8 c)
theorem HexB.set_ {w:World} {g:Nat} (h:HexB w g) {i c:Nat} (hi:i<65) (hc:c<128):HexB (w.setCell ⟨g,i,none⟩ (.int .u8 c)) g:=by
 obtain ⟨cs,h1,h2,h3⟩:=h
 refine ⟨_,blk_set h1 i _,by simpa using h2,fun j hj=>?_⟩
 by_cases e:i=j
 · subst e
   exact ⟨c,hc,by rw [Array.getElem?_setIfInBounds_self_of_lt (by omega)]⟩
 · rw [Array.getElem?_setIfInBounds_ne e]
   exact h3 j hj
theorem HexB.cell {w:World} {g:Nat} (h:HexB w g) {j:Nat} (hj:j<65):∃ c:Nat,c<128∧w.cell? ⟨g,j,none⟩=some (.int .u8 c):=by
 obtain ⟨cs,h1,h2,h3⟩:=h
 obtain ⟨c,h4,h5⟩:=h3 j hj
 exact ⟨c,h4,(Qaa h1 j).trans h5⟩
theorem HexB.froz {w:World} {g:Nat} (h:HexB w g) (j:Nat):w.frozen? ⟨g,j,none⟩=false:=by
 obtain ⟨cs,h1,h2,h3⟩:=h
 exact Qac h1 j
def zeros65:Array Value:=Array.replicate 65 (.int .u8 0)
theorem HexB.new (w:World):HexB (w.alloc (.cells zeros65 325)) w.heap.size:=by
 refine ⟨_,heap_alloc_new w _,by simp [zeros65],fun j hj=>⟨0,by omega,?_⟩⟩
 unfold zeros65
 rw [Array.getElem?_replicate,if_pos hj]
 rfl
def hex36:ByteArray:=⟨#[48,49,50,51,52,53,54,55,56,57,97,98,99,100,101,102,103,104,105,106,107,108,109,110,111,112,113,114,115,116,117,118,119,120,121,122]⟩
theorem HexB.text {w:World} {g a n:Nat} (h:HexB w g) (hn:a+n=65):∃ t:ByteArray,Asc t∧t.size=n∧∀ cap,(convert 26 9 (.slice (some ⟨g,a,none⟩) n cap)).run Tryz.prog w=.ok (.string t) w:=by
 obtain ⟨f,hf⟩:∃ f:Nat→Nat,∀ j,j<65→f j<128∧w.cell? ⟨g,j,none⟩=some (.int .u8 (f j:Nat)):=by
  refine ⟨fun j=>if hj:j<65 then Classical.choose (h.cell hj) else 0,fun j hj=>?_⟩
  have:=Classical.choose_spec (h.cell hj)
  simp only [dif_pos hj]
  exact this
 have hl:∀ x ∈ (List.range n).map (fun j=>UInt8.ofNat (f (a+j))),x.toNat<128:=by
  intro x hx
  obtain ⟨j,hj,rfl⟩:=List.mem_map.1 hx
  have:=(hf (a+j) (by have:=List.mem_range.1 hj;omega)).1
  rw [UInt8.toNat_ofNat']
  omega
 refine ⟨⟨((List.range n).map (fun j=>UInt8.ofNat (f (a+j)))).toArray⟩,Asc.of_list hl,by rw [size_list];simp,fun cap=>?_⟩
 have h2:=run_convert_bytes_back (P:=Tryz.prog) w 26 9 5 ⟨g,a,none⟩ cap ((List.range n).map (fun j=>UInt8.ofNat (f (a+j)))) Tryz.underlying26 Tryz.underlying5 Tryz.underlying9 (fun j hj=>by
  have hj2:j<n:=by simpa using hj
  have h3:=hf (a+j) (by omega)
  rw [Lib.add_plain,h3.2]
  simp only [List.getElem_map,List.getElem_range,UInt8.toNat_ofNat']
  rw [Nat.mod_eq_of_lt (by omega)])
 simpa using h2
theorem hex_asc:∀ n:Nat,∀ h:n<36,(hex36[n]'h).toNat<128:=by decide +kernel
theorem and15 (v:Nat) (h:v<18446744073709551616):Go.bits .and .u64 (v:Int) 15=((v % 16:Nat):Int):=by
 have:=bits_and_u64_nat v 15 h (by omega)
 rw [show ((15:Nat):Int)=15 from rfl] at this
 rw [this]
 have h2:=Nat.and_two_pow_sub_one_eq_mod v 4
 simp only [show 2 ^ 4 - 1=15 from rfl,show 2 ^ 4=16 from rfl] at h2
 rw [h2]
def FbIn (w wi:World) (k0 v i:Nat):Prop:=HexB wi w.heap.size∧Below w.heap.size w wi∧i≤65∧∃ k,65 - i+k=k0∧1≤k∧v<16 ^ k
set_option maxHeartbeats 4000000 in
set_option maxRecDepth 100000 in
theorem bits16 (u k0:Nat) (hu:u<18446744073709551616) (hk1:1≤k0) (hk2:k0≤16) (hk:u<16 ^ k0) (w:World) (ht:B64 w) :
 Calls Tryz.prog 191 #[.slice none 0 0,.int .u64 u,.int .i64 16,.bool false,.bool false] w (fun e w'=>∃ t:ByteArray,e=.returned (.tuple #[.slice none 0 0,.string t])∧Asc t∧t.size≤k0∧Below w.heap.size w w'):=by
 have HT:=Lib.hid (ht.below ((Below.refl _ w).alloc (Nat.le_refl _) (.cells zeros65 325)))
 have HN:=Lib.hid (HexB.new w)
 have HK:=Lib.hid hk
 clear ht hk
 go_enter Tryz.func191,Tryz.ntmps191
 go_wp2_with (first
  | (go_at_call 206;refine (pow2_16 _).mono ?_;rintro e w' ⟨rfl,rfl⟩)
  | (go_at_call 207;refine (tz_16 _ HT.out).mono ?_;rintro e w' ⟨rfl,rfl⟩))
 go_loopw [1,13] (fun uv iv wi=>∃ v i:Nat,uv=.int .u64 v∧iv=.int .i64 i∧Hid (FbIn w wi k0 v i)) (fun _ iv _=>(intOf iv).toNat)
 case atStart=>exact ⟨u,65,rfl,rfl,HN.out,(Below.refl _ w).alloc (Nat.le_refl _) _,by omega,k0,by omega,hk1,HK.out⟩
 case round =>
  obtain ⟨v,i,rfl,rfl,HI⟩:=hrel
  rename World=>W
  obtain ⟨HX, HB, hi65, k, hik, hk1', hvk⟩ := HI.out
  have hv64:v<18446744073709551616:=by
   have:16 ^ k≤16 ^ 16:=Nat.pow_le_pow_right (by omega) (by omega)
   omega
  have hi2:1≤i:=by omega
  have hw1:IntKind.i64.wrap ((i:Int) - 1)=((i - 1:Nat):Int):=by rw [IntKind.wrap_i64];omega
  obtain ⟨c0,hc0,hcell⟩:=HX.cell (show i - 1<65 by omega)
  have hfz:=HX.froz (i - 1)
  have HK2:=Lib.hid (show HexB W w.heap.size∧Below w.heap.size w W∧65 - i+k=k0∧v<16 ^ k from ⟨HX,HB,hik,hvk⟩)
  clear HX HB hik hvk HI
  by_cases hv:16≤v
  · have hv1:(16:Int)≤(v:Int):=by omega
    have hand:=and15 v hv64
    go_wp2
    refine ⟨⟨v / 16,i - 1,by rw [Int.natCast_ediv];rfl,rfl,HK2.out.1.set_ (by omega) (hex_asc _ (by omega)),HK2.out.2.1.setCell (p:=⟨w.heap.size,i - 1,none⟩) (by simp) _,by omega,k - 1,by have:=HK2.out.2.2.1;omega,?_,?_⟩,by show (((i - 1:Nat):Int)).toNat<((i:Nat):Int).toNat;omega⟩
    · have h2:=HK2.out.2.2.2
      rcases Nat.lt_or_ge 1 k with h | h
      · omega
      · have:k=1:=by omega
        subst this
        omega
    · have h2:=HK2.out.2.2.2
      obtain ⟨m,rfl⟩:∃ m,k=m+1:=⟨k - 1,by omega⟩
      rw [Nat.pow_succ] at h2
      rw [Nat.add_sub_cancel]
      omega
  · have hv1:¬ (16:Int)≤(v:Int):=by omega
    have hvn:v<36:=by omega
    have hal:Tryz.prog.arrayLen 325=65:=by simp [Program.arrayLen,Tryz.underlying325]
    obtain ⟨a,ha⟩:∃ a,a=i - 1:=⟨_,rfl⟩
    obtain ⟨n,hn⟩:∃ n,a+n=65:=⟨65 - a,by omega⟩
    rw [← ha] at hw1 hcell hfz
    have hsl:∀ W,(Instr.sliceAt 325 (.pointer (some ⟨w.heap.size,0,none⟩)) (some (.int .i64 (a:Int))) none none).run Tryz.prog W=.ok (.slice (some ⟨w.heap.size,a,none⟩) n n) W:=fun W=>by
     rw [run_sliceAt_array_l W 325 ⟨w.heap.size,0,none⟩ (by simp [Program.arrayLen,Program.elem,Tryz.underlying325]) .i64 (a:Int) (by omega) (by rw [hal];omega)]
     go_simp
     first | rfl | omega
    obtain ⟨t,ht1,ht2,hcv⟩:=(HK2.out.1.set_ (show a<65 by omega) (hex_asc v hvn)).text hn
    have hcv2:=hcv n
    dsimp only [hex36] at hcv2
    have HA:=Lib.hid ha
    have ha65:a<65:=by omega
    have ha66:(a:Int)<65:=by omega
    clear hcv hal ha
    go_wp2
    refine bodyPost_ret (v:=.tuple #[.slice none 0 0,.string t]) (by simp [results,Tryz.results191,go_sem]) rfl ?_
    refine ⟨t,rfl,ht1,?_,HK2.out.2.1.setCell (p:=⟨w.heap.size,a,none⟩) (by simp) _⟩
    have h1:=HA.out
    have h2:=HK2.out.2.2.1
    omega
theorem fmt16_in (u k0:Nat) (hu:u<18446744073709551616) (hk1:1≤k0) (hk2:k0≤16) (hk:u<16 ^ k0) (w:World) (ht:B64 w):Calls Tryz.prog 167 #[.int .u64 u,.int .i64 16] w (FuPost k0 w):=by
 have HI:=Lib.hid (bits16 u k0 hu hk1 hk2 hk w ht)
 clear ht hu hk
 go_enter Tryz.func167,Tryz.ntmps167
 go_wp2_with (go_at_call 191;refine HI.out.mono ?_;rintro ee w1 ⟨t,he,h1,h2,h3⟩;subst he)
 go_ret
 exact ⟨t,rfl,h1,h2,h3⟩
theorem fmt16_any (u k0:Nat) (hu:u<18446744073709551616) (hk1:1≤k0) (hk2:k0≤16) (hk:u<16 ^ k0) (w:World) (ht:B64 w):Calls Tryz.prog 138 #[.int .u64 u,.int .i64 16] w (FuPost k0 w):=by
 have HI:=Lib.hid (fmt16_in u k0 hu hk1 hk2 hk w ht)
 clear ht hu hk
 go_enter Tryz.func138,Tryz.ntmps138
 go_wp2_with (go_at_call 167;refine HI.out.mono ?_;rintro ee w1 ⟨t,he,h1,h2,h3⟩;subst he)
 go_ret
 exact ⟨t,rfl,h1,h2,h3⟩
theorem wr_lies:liesAt Tryz.prog Tryz.prog.depth 186 (2 / Tryz.prog.cellsOf 186) 0 184 1=true:=by kernel_rfl
theorem wr_size:(Tryz.prog.info? 184).map (fun i=>(i.size == 0))=some false:=by kernel_rfl
theorem wr_cells5:Tryz.prog.cellsOf 5=1:=by kernel_rfl
set_option maxHeartbeats 1000000 in
set_option maxRecDepth 100000 in
theorem wr_used (b:Nat) (w:World) (h0:w.cell? ⟨b,0,none⟩=some (.pointer (some ⟨b,0,none⟩))) :
 Calls Tryz.prog 186 #[.pointer (some ⟨b,0,none⟩)] w (fun e w'=>e=.returned (.tuple #[])∧w'=w):=by
 obtain ⟨j,hj,_⟩:=Option.map_eq_some_iff.1 wr_size
 go_enter Tryz.func186,Tryz.ntmps186
 go_wp2
 try rw [Lib.run_neq_ptr_same w _ Tryz.underlying182 hj]
 go_wp2
 go_end0
 exact ⟨rfl,rfl⟩
set_option maxHeartbeats 1000000 in
set_option maxRecDepth 100000 in
theorem wr_fresh (b:Nat) (w:World) (h0:w.cell? ⟨b,0,none⟩=some (.pointer none)) (hsh:w.shape? b=some (186,2)) (hfz:w.frozen? ⟨b,0,none⟩=false) :
 Calls Tryz.prog 186 #[.pointer (some ⟨b,0,none⟩)] w (fun e w'=>e=.returned (.tuple #[])∧w'=w.setCell ⟨b,0,none⟩ (.pointer (some ⟨b,0,none⟩))):=by
 obtain ⟨j,hj,hjs⟩:=Option.map_eq_some_iff.1 wr_size
 have hjs2:j.size ≠ 0:=by simpa using hjs
 go_enter Tryz.func186,Tryz.ntmps186
 go_wp2
 rw [Lib.run_to_unsafe w ⟨b,0,none⟩ Tryz.underlying182 Tryz.underlying123 hj hjs2 hsh (Nat.zero_lt_succ 1)]
 simp only [Result.andThen]
 rw [Oper.upon_value]
 go_wp2
 rw [run_callFunc_extern Tryz.func202 (by kernel_rfl) (by kernel_rfl) (by kernel_rfl) (e:=Extern.AbiNoEscape.same) (by kernel_rfl)]
 rw [Lib.run_noEscape]
 simp only [Result.andThen]
 rw [Oper.upon_value]
 go_wp2
 rw [Lib.run_from_unsafe w ⟨b,0,none⟩ Tryz.underlying123 Tryz.underlying182 hj hsh wr_lies]
 simp only [Result.andThen]
 rw [Oper.upon_value]
 go_wp2
 go_end0
 exact ⟨rfl,rfl⟩
theorem Wrote.set_ {base p:Nat} {w w1:World} (h:Wrote base p w w1) (hb:base≤p) (i:Nat) (v:Value):Wrote base p w (w1.setCell ⟨p,i,none⟩ v) :=
 ⟨h.1.setCell (p:=⟨p,i,none⟩) hb v,fun k cs t fr h1 ht hp=>(Below.heap_setCell w1 _ _ k (fun e=>hp e)).trans (h.2 k cs t fr h1 ht hp)⟩
theorem Wrote.grown {base p n:Nat} {w W w1:World} {v:Value} {xs:List Value} (h:Wrote base p w W) (hrow:W.ownsRow base 5 1 v n xs) (hb:base≤W.heap.size) (hgrow:W.grownBy w1 v.ownBlock):Wrote base p w w1:=by
 refine ⟨h.1.grown hgrow hb fun j ej=>Qb5 hrow j ej,fun k cs t fr h1 ht hp=>?_⟩
 have h2:=h.2 k cs t fr h1 ht hp
 refine (hgrow.block k (Array.getElem?_eq_some_iff.1 h2).1 fun e=>?_).trans h2
 obtain ⟨cells,hc⟩:=Qba hrow k e.symm
 rw [h2] at hc
 injection hc with hc
 injection hc with _ hc
 exact ht hc
theorem wr_check (B b:Nat) (bs:List Value) (w:World) (h:Lib.IsBuilder 186 5 B b bs w) :
 Calls Tryz.prog 186 #[.pointer (some ⟨b,0,none⟩)] w (fun e w'=>e=.returned (.tuple #[])∧(Lib.BuilderAt 186 5 B b (.pointer (some ⟨b,0,none⟩)) bs w'∧Wrote B b w w')):=by
 rcases h with h | h
 · refine (wr_fresh b w h.cell0 h.shape h.frozen0).mono ?_
   rintro e w' ⟨rfl,rfl⟩
   exact ⟨rfl,h.used _,(Wrote.refl B b w).set_ h.1 _ _⟩
 · refine (wr_used b w h.cell0).mono ?_
   rintro e w' ⟨rfl,rfl⟩
   exact ⟨rfl,h,Wrote.refl B b _⟩
set_option maxHeartbeats 2000000 in
set_option maxRecDepth 100000 in
theorem wr_string (B b:Nat) (bs:List Value) (s:ByteArray) (w:World) (h:Lib.IsBuilder 186 5 B b bs w) (hlen:bs.length+s.size≤140737488355328) (hBw:B≤w.heap.size) :
 Calls Tryz.prog 164 #[.pointer (some ⟨b,0,none⟩),.string s] w (fun e w'=>e=.returned (.tuple #[.int .i64 s.size,.nilIface])∧(Lib.BuilderAt 186 5 B b (.pointer (some ⟨b,0,none⟩)) (bs ++ Lib.strCells s) w'∧Wrote B b w w')):=by
 obtain ⟨i0,hi,hz0,hz1,hz2⟩:=info_parts info5q
 go_enter Tryz.func164,Tryz.ntmps164
 go_wp2_with (go_at_call 186;refine (wr_check B b bs _ h).mono ?_)
 rintro e w1 ⟨rfl,h1,hb1⟩
 obtain ⟨hB,v,hbk,hown,hne⟩:=h1
 have c0:w1.cell? ⟨b,0,none⟩=some (.pointer (some ⟨b,0,none⟩)):=by rw [Lib.cell_of_heap hbk];rfl
 have c1:w1.cell? ⟨b,1,none⟩=some v:=by rw [Lib.cell_of_heap hbk];rfl
 go_wp2_with (at_builtin;refine Lib.wpList_append_own_string _ rfl _ _ 26 9 rfl B 5 i0 Tryz.underlying26 Tryz.underlying9 hi hz0 hz1 hz2 _ _ _ rfl hown s rfl ?c3 ?c4 ?c5 ?_)
 case c3=>unfold maxLen;omega
 case c4=>omega
 case c5=>have:=hb1.size;omega
 intro v' w2 hown' hgrow _
 have hlt:b<w1.heap.size:=by
  rcases Nat.lt_or_ge b w1.heap.size with h' | h'
  · exact h'
  · simp [Array.getElem?_eq_none h'] at hbk
 have hb2:w2.heap[b]? = some (.cells #[.pointer (some ⟨b,0,none⟩),v] 186 (0,0)):=by
  rw [hgrow.block b hlt (fun e=>hne e.symm)]
  exact hbk
 have d0:w2.cell? ⟨b,0,none⟩=some (.pointer (some ⟨b,0,none⟩)):=by rw [Lib.cell_of_heap hb2];rfl
 have d1:w2.cell? ⟨b,1,none⟩=some v:=by rw [Lib.cell_of_heap hb2];rfl
 have f1:w2.frozen? ⟨b,1,none⟩=false:=Lib.frozen_of_heap hb2 1
 obtain ⟨ao, n', cap, rfl⟩ : ∃ ao n' cap, v' = .slice ao n' cap := by
  rcases hown'.2 with ⟨hv,_⟩ | ⟨g,cap,cur,hv,_⟩
  · exact ⟨_,_,_,hv⟩
  · exact ⟨_,_,_,hv⟩
 go_wp2
 refine bodyPost_ret (v:=.tuple #[.int .i64 s.size,.nilIface]) (by simp [results,Tryz.results164,go_sem]) rfl ?_
 refine ⟨rfl,?_,?_⟩
 · exact Lib.BuilderAt.put (T:=186) (e:=5) hB hb2 (bs':=bs ++ Lib.strCells s) (by simpa [Lib.strCells_length] using hown') (by decide)
 · exact (hb1.grown hown (by have:=hb1.size;omega) hgrow).set_ hB _ _
set_option maxHeartbeats 1000000 in
set_option maxRecDepth 100000 in
theorem wr_text (B b:Nat) (l:List UInt8) (w:World) (h:Lib.IsBuilder 186 5 B b (Lib.byteCells l) w) (h0:l ≠ []) :
 Calls Tryz.prog 101 #[.pointer (some ⟨b,0,none⟩)] w (fun e w'=>e=.returned (.string ⟨l.toArray⟩)∧Below B w w'):=by
 obtain ⟨p,hB,v,hbk,hown,hne⟩:∃ p,Lib.BuilderAt 186 5 B b p (Lib.byteCells l) w:=by
  rcases h with h | h
  · exact ⟨_,h⟩
  · exact ⟨_,h⟩
 have hl0:l.length ≠ 0:=by simpa using h0
 rw [Lib.byteCells_length] at hown
 obtain ⟨g,cap,cur,rfl,hbg,hg,hnc,hcm,hcs,htake⟩:∃ g cap cur,v=.slice (some ⟨g,0,none⟩) l.length cap∧B≤g∧w.heap[g]? = some (.cells cur 5 (0,0))∧l.length≤cap∧cap≤maxLen∧cur.size=cap*1∧cur.toList.take (l.length*1)=Lib.byteCells l:=by
  rcases hown.2 with ⟨_,hz⟩ | ⟨g,cap,cur,hv,r⟩
  · exact absurd hz hl0
  · exact ⟨g,cap,cur,hv,r⟩
 have c1:w.drew.cell? ⟨b,1,none⟩=some (.slice (some ⟨g,0,none⟩) l.length cap):=by
  have:w.drew.heap[b]? = some (.cells #[p,.slice (some ⟨g,0,none⟩) l.length cap] 186 (0,0)):=hbk
  rw [Lib.cell_of_heap this];rfl
 have hSD:(Builtin.unsafeSliceData_ #[26] 247 #[.slice (some ⟨g,0,none⟩) l.length cap]).run Tryz.prog w.drew=.ok (.pointer (some ⟨g,0,none⟩)) w.drew :=
  Lib.run_unsafeSliceData_row _ _ _ _ _ _ (by omega)
 have hUS:(Builtin.unsafeString_ #[247,3] 9 #[.pointer (some ⟨g,0,none⟩),.int .i64 l.length]).run Tryz.prog w.drew=.ok (.string ⟨l.toArray⟩) (w.drew.freeze ⟨g,0,none⟩ l.length):=by
  refine Lib.run_unsafeString_row w.drew 247 3 9 5 Tryz.underlying247 wr_cells5 g cur.size (by have hg':w.drew.heap[g]? = some (.cells cur 5 (0,0)):=hg;simp [World.shape?,hg']) l h0 (by omega) (by unfold maxLen at hcm;omega) ?_
  intro j x hx
  have:=hown.cells (g:=g) rfl j (.int .u8 x.toNat) (by simp [Lib.byteCells,hx])
  exact this
 have mixed:Tryz.prog.follows .mixedOrders=true:=by kernel_rfl
 go_enter Tryz.func101,Tryz.ntmps101
 go_wp2
 go_region_o
 all_goals (go_wp2;go_ret;exact ⟨rfl,Lib.below_freeze (Below.drew (Below.refl B w)) (p:=⟨g,0,none⟩) hbg _⟩)
def catL:List ByteArray→List UInt8
 | []=>[]
 | s :: t=>s.data.toList ++ catL t
theorem catL_app (a b:List ByteArray):catL (a ++ b)=catL a ++ catL b:=by
 induction a with
 | nil=>rfl
 | cons s t ih=>rw [List.cons_append,catL,catL,ih,List.append_assoc]
def Wr (W:World) (B b:Nat) (l:List UInt8):Prop:=Lib.IsBuilder 186 5 B b (Lib.byteCells l) W
def PutPost (B b:Nat) (l:List UInt8) (w:World) (e:Ending) (w':World):Prop:=e=.returned (.tuple #[])∧Wr w' B b l∧Wrote B b w w'
theorem byteCells_str (l:List UInt8) (s:ByteArray):Lib.byteCells l ++ Lib.strCells s=Lib.byteCells (l ++ s.data.toList):=by
 unfold Lib.byteCells Lib.strCells
 rw [List.map_append]
theorem wr_one (B b:Nat) (l:List UInt8) (s:ByteArray) (w:World) (h:Wr w B b l) (hlen:l.length+s.size≤140737488355328) (hBw:B≤w.heap.size) :
 Calls Tryz.prog 164 #[.pointer (some ⟨b,0,none⟩),.string s] w (fun e w'=>e=.returned (.tuple #[.int .i64 s.size,.nilIface])∧Wr w' B b (l ++ s.data.toList)∧Wrote B b w w'):=by
 refine (wr_string B b _ s w h (by rw [Lib.byteCells_length];exact hlen) hBw).mono ?_
 rintro e w' ⟨he,h1,h2⟩
 rw [byteCells_str] at h1
 exact ⟨he,.inr h1,h2⟩
theorem catL_take {ss:List ByteArray} {k:Nat} (hk:k<ss.length):catL (ss.take (k+1))=catL (ss.take k) ++ ss[k].data.toList:=by
 rw [List.take_succ_eq_append_getElem hk,catL_app]
 simp [catL]
theorem catL_len {ss:List ByteArray} (k:Nat):(catL (ss.take k)).length≤(catL ss).length:=by
 conv=>rhs;rw [← List.take_append_drop k ss,catL_app]
 simp
set_option maxHeartbeats 2000000 in
set_option maxRecDepth 100000 in
theorem put_many (B b g:Nat) (l:List UInt8) (ss:List ByteArray) (n:Nat) (hn:n=ss.length) (cs:Array Value) (hcs:cs.toList=ss.map Value.string) (w:World) (h:Wr w B b l) (hg:w.heap[g]? = some (.cells cs 9 (0,0))) (hgb:g ≠ b) (hlen:l.length+(catL ss).length≤140737488355328) (hBw:B≤w.heap.size) (hn2:n≤1000) :
 Calls Tryz.prog 139 #[.pointer (some ⟨b,0,none⟩),.slice (some ⟨g,0,none⟩) n n] w (PutPost B b (l ++ catL ss) w):=by
 have HH:=Lib.hid h
 have HL:=Lib.hid hlen
 have HG:=Lib.hid hg
 have HN:=Lib.hid hn
 clear h hlen hg hn
 go_enter Tryz.func139,Tryz.ntmps139
 go_wp2
 go_loopw [8] (fun kv wi=>∃ k:Nat,k≤n∧kv=.int .i64 k∧Hid (Wr wi B b (l ++ catL (ss.take k))∧Wrote B b w wi)) (fun kv _=>n - (intOf kv).toNat)
 case atStart=>exact ⟨0,Nat.zero_le _,rfl,by simpa [catL] using HH.out,Wrote.refl _ _ _⟩
 case round =>
  obtain ⟨k,hkn,rfl,HI⟩:=hrel
  rename World=>W
  by_cases hk:k<n
  · have hk1:(k:Int)<(n:Int):=by omega
    have hkl:k<ss.length:=by have:=HN.out;omega
    obtain ⟨s,hs⟩:∃ s,ss[k]=s:=⟨_,rfl⟩
    have hcell:W.cell? ⟨g,k,none⟩=some (.string s):=by
     rw [Qaa (HI.out.2.cell HG.out (by decide) hgb) k]
     rw [← Array.getElem?_toList,hcs,List.getElem?_map,List.getElem?_eq_getElem hkl,hs]
     rfl
    have hw1:IntKind.i64.wrap ((k:Int)+1)=((k+1:Nat):Int):=by rw [IntKind.wrap_i64];omega
    have e1:=catL_take hkl
    rw [hs] at e1
    have hlt:(l ++ catL (ss.take k)).length+s.size≤140737488355328:=by
     have h1:=catL_len (ss:=ss) (k+1)
     have h2:=HL.out
     rw [e1] at h1
     have h3:s.data.toList.length=s.size:=by rw [Array.length_toList];rfl
     rw [List.length_append] at h1 ⊢
     omega
    have HC:=Lib.hid (wr_one B b _ s W HI.out.1 hlt (Nat.le_trans hBw HI.out.2.size))
    have HE:=Lib.hid e1
    clear e1 hs hlt
    go_wp2_with (go_at_call 164;refine HC.out.mono ?_;rintro ee w1 ⟨he,h1,h2⟩;subst he;have HJ:=Lib.hid (show Wr w1 B b _∧Wrote B b w w1 from ⟨h1,HI.out.2.trans h2⟩);clear h1 h2)
    have hfin:Wr w1 B b (l ++ catL (ss.take (k+1))):=by
     rw [HE.out,← List.append_assoc]
     exact HJ.out.1
    refine ⟨⟨k+1,by omega,rfl,hfin,HJ.out.2⟩,by show n - (((k+1:Nat):Int)).toNat<n - ((k:Nat):Int).toNat;omega⟩
  · have hk1:¬ (k:Int)<(n:Int):=by omega
    go_wp2
    go_end0
    have:ss.take k=ss:=List.take_of_length_le (by have:=HN.out;omega)
    have h2:=HI.out
    rw [this] at h2
    exact ⟨rfl,h2.1,h2.2⟩
theorem bAt_below {W W':World} {B b:Nat} {p:Value} {bs:List Value} (h:Lib.BuilderAt 186 5 B b p bs W) (hb:Below W.heap.size W W'):Lib.BuilderAt 186 5 B b p bs W':=by
 have hlt:=h.lt
 obtain ⟨h0,v,h1,h2,h3⟩:=h
 refine ⟨h0,v,(hb.block b hlt).trans h1,⟨h2.1,h2.2.imp id ?_⟩,h3⟩
 rintro ⟨g,cap,cur,hv,hg,hc,r⟩
 have hlt:g<W.heap.size:=by
  by_cases hl:g<W.heap.size
  · exact hl
  · rw [Array.getElem?_eq_none (by omega)] at hc;cases hc
 exact ⟨g,cap,cur,hv,hg,(hb.block g hlt).trans hc,r⟩
theorem Wr.below {W W':World} {B b:Nat} {l:List UInt8} (h:Wr W B b l) (hb:Below W.heap.size W W'):Wr W' B b l:=by
 rcases h with h | h
 · exact .inl (bAt_below h hb)
 · exact .inr (bAt_below h hb)
theorem Wr.lt {W:World} {B b:Nat} {l:List UInt8} (h:Wr W B b l):b<W.heap.size:=by
 rcases h with h | h
 · exact h.lt
 · exact h.lt
theorem Wr.ge {W:World} {B b:Nat} {l:List UInt8} (h:Wr W B b l):B≤b:=by
 rcases h with h | h
 · exact h.1
 · exact h.1
theorem Qa8 (B b n:Nat) (l:List UInt8) (ss:List ByteArray) (hn:n=ss.length) (cs:Array Value) (hcs:cs.toList=ss.map Value.string) (W:World) (h:Wr W B b l) (hlen:l.length+(catL ss).length≤140737488355328) (hB:B≤W.heap.size) (hn2:n≤1000) :
 Calls Tryz.prog 139 #[.pointer (some ⟨b,0,none⟩),.slice (some ⟨W.heap.size,0,none⟩) n n] (W.alloc (.cells cs 9)) (PutPost B b (l ++ catL ss) W):=by
 have hb:=(Below.refl W.heap.size W).alloc (Nat.le_refl _) (.cells cs 9)
 have:=h.lt
 refine (put_many B b W.heap.size l ss n hn cs hcs _ (h.below hb) (heap_alloc_new W _) (by omega) hlen (Nat.le_trans hB hb.size) hn2).mono ?_
 rintro e w' ⟨h1,h2,h3⟩
 exact ⟨h1,h2,(Wrote.of_below hb hB).trans h3⟩
def Piece (B b m:Nat) (l:List UInt8) (w:World) (e:Ending) (w':World):Prop:=e=.returned (.tuple #[])∧∃ l2:List UInt8,Rt8 l2∧1≤l2.length∧l2.length≤m∧Wr w' B b (l ++ l2)∧Wrote B b w w'
theorem str_len (s:ByteArray):s.data.toList.length=s.size:=by rw [Array.length_toList];rfl
theorem Qat (a:ByteArray):(catL [a]).length=a.size:=by simp only [catL,List.length_append,str_len,List.length_nil];omega
theorem Qaw (a b:ByteArray):(catL [a,b]).length=a.size+b.size:=by simp only [catL,List.length_append,str_len,List.length_nil];omega
theorem cat3_len (a b c:ByteArray):(catL [a,b,c]).length=a.size+b.size+c.size:=by simp only [catL,List.length_append,str_len,List.length_nil];omega
theorem cat4_len (a b c d:ByteArray):(catL [a,b,c,d]).length=a.size+b.size+c.size+d.size:=by simp only [catL,List.length_append,str_len,List.length_nil];omega
theorem Asc.rt {s:ByteArray} (h:Asc s):Rt8 s.data.toList:=Qam h
set_option maxHeartbeats 2000000 in
set_option maxRecDepth 100000 in
theorem wbytes_any (B b:Nat) (l:List UInt8) (s:ByteArray) (w:World) (h:Wr w B b l) (hs:s.size≤1099511627776) (hl:l.length≤70368744177664) (hB:B≤w.heap.size) :
 Calls Tryz.prog 141 #[.pointer (some ⟨b,0,none⟩),.string s] w (Piece B b (2*s.size+4) l w):=by
 have hb:=bytes_below (Below.refl w.heap.size w) (Nat.le_refl _) 5 s
 have kb:=fun W=>Qcb (P:=Tryz.prog) 9 26 5 Tryz.underlying9 Tryz.underlying26 Tryz.underlying5 s W
 have HC:=Lib.hid (fun cp (hcp:s.size≤cp)=>bencode_any (kk:=0) (L:=hexL) (b:=4) (.inl ⟨rfl,rfl,rfl⟩) s w.heap.size cp (Lib.bytesWorld w 5 s) hs (rowb_new w s) hcp)
 have HH:=Lib.hid (show Wr w B b l∧Below w.heap.size w (Lib.bytesWorld w 5 s) from ⟨h,hb⟩)
 have HS:=Lib.hid hs
 clear h hs hb
 go_enter Tryz.func141,Tryz.ntmps141
 go_wp2_with (first
  | (go_at_call 52;refine (HC.out _ (grownCap_ge w s.size 0 5)).mono ?_;rintro ee w1 ⟨t,he,h1,h2,hb2⟩;subst he;have HW:=Lib.hid (show Wr w1 B b l∧Below w.heap.size w w1 from ⟨(HH.out.1.below HH.out.2).below hb2,HH.out.2.trans (hb2.mono HH.out.2.size)⟩);have HT:=Lib.hid (show Asc t∧t.size≤2*s.size+1 from ⟨h1,h2⟩);clear h1 h2 hb2)
  | (go_at_call 139;refine (Qa8 B b 3 l [⟨#[104,39]⟩,t,⟨#[39]⟩] rfl _ rfl w1 HW.out.1 (by rw [cat3_len];have:=HT.out.2;have:=HS.out;have e1:(⟨#[104,39]⟩:ByteArray).size=2:=rfl;have e2:(⟨#[39]⟩:ByteArray).size=1:=rfl;omega) (Nat.le_trans hB HW.out.2.size) (by decide)).mono ?_;rintro ee w2 ⟨he,h3,h4⟩;subst he))
 go_end0
 refine ⟨rfl,catL [⟨#[104,39]⟩,t,⟨#[39]⟩],?_,?_,?_,h3,(Wrote.of_below HW.out.2 hB).trans h4⟩
 · exact (Qam (by decide)).app (HT.out.1.rt.app ((Qam (by decide)).app (Qam (by simp [catL]))))
 · rw [cat3_len]
   have e1:(⟨#[104,39]⟩:ByteArray).size=2:=rfl
   omega
 · rw [cat3_len]
   have:=HT.out.2
   have e1:(⟨#[104,39]⟩:ByteArray).size=2:=rfl
   have e2:(⟨#[39]⟩:ByteArray).size=1:=rfl
   omega
end Go.Proofs.YtfmceonbejlhlaaGreatDoor
