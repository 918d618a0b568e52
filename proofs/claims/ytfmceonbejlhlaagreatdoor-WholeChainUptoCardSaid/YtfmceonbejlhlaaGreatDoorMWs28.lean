import Derived.Lib.AppendIntMem
import Derived.Test.YtfmceonbejlhlaaGreatDoorMWs27
namespace Go.Proofs.YtfmceonbejlhlaaGreatDoor
open Go.RowKit Go.Proofs.YtfmceonbejlhlaaGreatDoorW.PrintWords Go.Proofs.YtfmceonbejlhlaaGreatDoorW.PrintLast Go.Proofs.YtfmceonbejlhlaaGreatDoorW.PrintMore
set_option linter.unusedVariables false
def FuPost (n:Nat) (w:World) (en:Ending) (w':World):Prop:=∃ t:ByteArray,en=.returned (.string t)∧Asc t∧t.size≤n∧Below w.heap.size w w'
theorem decDigits_20 {u:Nat} (h:u<18446744073709551616):(⟨(Lib.decDigits u).toArray⟩:ByteArray).size≤20:=by
 rw [size_list]
 exact (decDigits_len 19 u (by omega)).1
set_option maxHeartbeats 4000000 in
set_option maxRecDepth 100000 in
theorem fmt10_in (u:Nat) (hu:u<18446744073709551616) (w:World) (ht:P10 w):Calls Tryz.prog 167 #[.int .u64 u,.int .i64 10] w (FuPost 20 w):=by
 by_cases hs:u<100
 · have h1:(u:Int)<100:=by omega
   have hc:IntKind.i64.wrap (u:Int)=(u:Int):=by rw [IntKind.wrap_i64];omega
   go_enter Tryz.func167,Tryz.ntmps167
   go_wp2_with (go_at_call 188;refine (Sh.internal_strconv_small u hs _).mono ?_;rintro e w' ⟨rfl,rfl⟩)
   go_ret
   exact ⟨_,rfl,Asc.of_list (decDigits_asc u),decDigits_20 hu,Below.refl _ _⟩
 · have h1:¬ (u:Int)<100:=by omega
   have hu1:1≤u:=by omega
   have hnd20:Lib.nDigits u≤20:=by have:=Lib.numDigits_eq u hu1 hu;split at this <;> omega
   have hal:Tryz.prog.arrayLen 311=24:=by simp [Program.arrayLen,Tryz.underlying311]
   have hsl1:∀ W,(Instr.sliceAt 311 (.pointer (some ⟨w.heap.size,0,none⟩)) none (some (.int .i64 (Lib.nDigits u:Int))) none).run Tryz.prog W=.ok (.slice (some ⟨w.heap.size,0,none⟩) (Lib.nDigits u) 24) W:=fun W=>by
    rw [run_sliceAt_array_h W 311 ⟨w.heap.size,0,none⟩ (by simp [Program.arrayLen,Program.elem,Tryz.underlying311]) .i64 (Lib.nDigits u:Int) (by omega) (by rw [hal];omega)]
    go_simp
   have hH0:=Lib.holds_zero0 w 311 (Lib.nDigits u) (by omega)
   have hfmt:=Sh.internal_strconv_formatBase10 w.heap.size 0 24 u (Array.replicate (Lib.nDigits u) 0) (w.alloc (.cells Lib.zeros24 311)) hH0 (by rw [Array.size_replicate];exact Lib.lt_pow_nDigits u) hu (by rw [Array.size_replicate];omega)
   rw [Array.size_replicate] at hfmt
   have HH0:=Lib.hid hH0
   have HT:=Lib.hid ht
   clear hH0 hal ht
   go_enter Tryz.func167,Tryz.ntmps167
   go_wp2_with (first
    | (go_at_call 189;refine (Sh.internal_strconv_numDigits u hu1 hu _ (Lib.tabIs_alloc HT.out _)).mono ?_;rintro e w' ⟨rfl,rfl⟩))
   go_at_call 190
   refine hfmt.mono ?_
   rintro e w' ⟨rfl, k, v', dk, rfl, hF⟩
   have hcv:(convert 26 9 (.slice (some ⟨w.heap.size,0,none⟩) (Lib.nDigits u) 24)).run Tryz.prog ((Go.Sort.putRow (fun (b:UInt8)=>Value.int .u8 (b.toNat:Int)) (w.alloc (.cells Lib.zeros24 311)) w.heap.size 0 dk).drewN k)=.ok (.string ⟨(Lib.decDigits u).toArray⟩) ((Go.Sort.putRow (fun (b:UInt8)=>Value.int .u8 (b.toNat:Int)) (w.alloc (.cells Lib.zeros24 311)) w.heap.size 0 dk).drewN k):=by
    have h:=run_convert_bytes_back (P:=Tryz.prog) ((Go.Sort.putRow (fun (b:UInt8)=>Value.int .u8 (b.toNat:Int)) (w.alloc (.cells Lib.zeros24 311)) w.heap.size 0 dk).drewN k) 26 9 5 ⟨w.heap.size,0,none⟩ 24 (Lib.decDigits u) Tryz.underlying26 Tryz.underlying5 Tryz.underlying9 (fun j hj=>by
     rw [Lib.row_is_numeral hF j hj,Lib.add_plain,World.cell?_drewN]
     exact Go.Sort.cell?_putRow (fun (b:UInt8)=>Value.int .u8 (b.toNat:Int)) _ w.heap.size 0 _ dk HH0.out (by rw [hF.size,Array.size_replicate]) j (by rw [hF.size];rw [Lib.decDigits_length] at hj;exact hj))
    rw [Lib.decDigits_length] at h
    exact h
   go_wp2
   go_ret
   obtain ⟨os,eo⟩:=Lib.fin_at w (.cells Lib.zeros24 311) dk k 0
   refine ⟨_,rfl,Asc.of_list (decDigits_asc u),decDigits_20 hu,?_⟩
   rw [eo]
   exact grow_below w k os
theorem Qbc (u:Nat) (hu:u<18446744073709551616) (w:World) (ht:P10 w):Calls Tryz.prog 138 #[.int .u64 u,.int .i64 10] w (FuPost 20 w):=by
 have HI:=Lib.hid (fmt10_in u hu w ht)
 clear ht hu
 go_enter Tryz.func138,Tryz.ntmps138
 go_wp2_with (go_at_call 167;refine HI.out.mono ?_;rintro ee w1 ⟨t,he,h1,h2,h3⟩;subst he)
 go_ret
 exact ⟨t,rfl,h1,h2,h3⟩
end Go.Proofs.YtfmceonbejlhlaaGreatDoor
