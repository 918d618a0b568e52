import Derived.Shelf.LaysM
import Derived.Shelf.Strconv.Itoa2
import Derived.Shelf.Strconv.Itoa3
import Derived.Shelf.Strings.Repeat
import Derived.Test.YtfmceonbejlhlaaGreatDoorMWs16
import Derived.Test.YtfmceonbejlhlaaGreatDoorMWs24
namespace Go.Proofs.YtfmceonbejlhlaaGreatDoor
open Go.Shelf
def Sh.lays283_ren:Go.Shelf.Ren:=⟨fun | 283=>188 | n=>n,fun | 3=>3 | 9=>9 | 4=>4 | n=>n,fun | n=>n⟩
theorem Sh.lays283:Go.Proofs.Lays.n283 Tryz.prog Sh.lays283_ren:={
 mixed:=by kernel_rfl
 f283:=Tryz.func188.trans (congrArg some (by kernel_rfl))
 t3:=Tryz.underlying3
 a3:=Tryz.isAgg3
 z3:=Tryz.sizeOf3
 v3:=Tryz.zeroValue3
 t4:=Tryz.underlying4
 a4:=Tryz.isAgg4
 z4:=Tryz.sizeOf4
 v4:=Tryz.zeroValue4
 t9:=Tryz.underlying9
 a9:=Tryz.isAgg9
 z9:=Tryz.sizeOf9
 v9:=Tryz.zeroValue9 }
open Go.Lib in
theorem Sh.internal_strconv_small (i:Nat) (h:i<100) (w:World) :
 Calls Tryz.prog 188 #[.int .i64 i] w fun e w'=>e=.returned (.string ⟨(Lib.decDigits i).toArray⟩)∧w'=w:=Any.internal_strconv_small Sh.lays283 i h w
def Sh.laysM284_ren:Go.Shelf.Ren:=⟨fun | 284=>189 | 129=>96 | 317=>204 | 318=>205 | n=>n,fun | 53=>22 | 3=>3 | 212=>324 | 0=>0 | 4=>4 | 46=>118 | 5=>5 | 9=>9 | n=>n,fun | 17=>3 | n=>n⟩
theorem Sh.laysM284:Go.Proofs.LaysM.n284 Tryz.prog Sh.laysM284_ren:={
 mixed:=by kernel_rfl
 f129:=Tryz.func96.trans (congrArg some (by kernel_rfl))
 f284:=Tryz.func189.trans (congrArg some (by kernel_rfl))
 f317:=Tryz.func204.trans (congrArg some (by kernel_rfl))
 f318:=Tryz.func205.trans (congrArg some (by kernel_rfl))
 t0:=Tryz.underlying0
 a0:=Tryz.isAgg0
 z0:=Tryz.sizeOf0
 v0:=Tryz.zeroValue0
 t3:=Tryz.underlying3
 a3:=Tryz.isAgg3
 z3:=Tryz.sizeOf3
 v3:=Tryz.zeroValue3
 t4:=Tryz.underlying4
 a4:=Tryz.isAgg4
 z4:=Tryz.sizeOf4
 v4:=Tryz.zeroValue4
 t5:=Tryz.underlying5
 a5:=Tryz.isAgg5
 z5:=Tryz.sizeOf5
 v5:=Tryz.zeroValue5
 t9:=Tryz.underlying9
 a9:=Tryz.isAgg9
 z9:=Tryz.sizeOf9
 v9:=Tryz.zeroValue9
 t46:=Tryz.underlying118
 a46:=Tryz.isAgg118
 z46:=Tryz.sizeOf118
 v46:=Tryz.zeroValue118
 t53:=Tryz.underlying22
 a53:=Tryz.isAgg22
 z53:=Tryz.sizeOf22
 v53:=Tryz.zeroValue22
 t212:=Tryz.underlying324
 a212:=Tryz.isAgg324
 z212:=Tryz.sizeOf324
 v212:=Tryz.zeroValue324
 g17:=by kernel_rfl
 i0:=by kernel_rfl
 i3:=by kernel_rfl
 i4:=by kernel_rfl
 i5:=by kernel_rfl
 i9:=by kernel_rfl
 i46:=by kernel_rfl
 i53:=by kernel_rfl
 i212:=by kernel_rfl
 m17:=by kernel_rfl }
open Go.Lib in
theorem Sh.internal_strconv_numDigits (u : Nat) (h1 : 1 ≤ u) (h2 : u < 18446744073709551616) (w : World) (htab : Lib.TabIs Tryz.prog w "internal/strconv.uint64pow10" .u64 Lib.pow10Tab) :
 Calls Tryz.prog 189 #[.int .u64 u] w fun e w'=>e=.returned (.int .i64 (Lib.nDigits u))∧w'=w:=Any.internal_strconv_numDigits Sh.laysM284 u h1 h2 w htab
def Sh.lays285_ren:Go.Shelf.Ren:=⟨fun | 285=>190 | n=>n,fun | 37=>26 | 53=>22 | 3=>3 | 4=>4 | 51=>152 | 9=>9 | 5=>5 | 0=>0 | n=>n,fun | n=>n⟩
theorem Sh.lays285:Go.Proofs.Lays.n285 Tryz.prog Sh.lays285_ren:={
 mixed:=by kernel_rfl
 f285:=Tryz.func190.trans (congrArg some (by kernel_rfl))
 t0:=Tryz.underlying0
 a0:=Tryz.isAgg0
 z0:=Tryz.sizeOf0
 v0:=Tryz.zeroValue0
 t3:=Tryz.underlying3
 a3:=Tryz.isAgg3
 z3:=Tryz.sizeOf3
 v3:=Tryz.zeroValue3
 t4:=Tryz.underlying4
 a4:=Tryz.isAgg4
 z4:=Tryz.sizeOf4
 v4:=Tryz.zeroValue4
 t5:=Tryz.underlying5
 a5:=Tryz.isAgg5
 z5:=Tryz.sizeOf5
 v5:=Tryz.zeroValue5
 t9:=Tryz.underlying9
 a9:=Tryz.isAgg9
 z9:=Tryz.sizeOf9
 v9:=Tryz.zeroValue9
 t37:=Tryz.underlying26
 a37:=Tryz.isAgg26
 z37:=Tryz.sizeOf26
 v37:=Tryz.zeroValue26
 t51:=Tryz.underlying152
 a51:=Tryz.isAgg152
 z51:=Tryz.sizeOf152
 v51:=Tryz.zeroValue152
 t53:=Tryz.underlying22
 a53:=Tryz.isAgg22
 z53:=Tryz.sizeOf22
 v53:=Tryz.zeroValue22 }
open Go.RowKit Go.Sort Go.Lib in
theorem Sh.internal_strconv_formatBase10 (blk off cap:Nat) (u:Nat) (d:Array UInt8) (w:World) (hH:Go.Sort.Holds (fun (b:UInt8)=>Value.int .u8 (b.toNat:Int)) w blk off d) (hu:u<10 ^ d.size) (hu64:u<18446744073709551616) (hsz:d.size<4611686018427387904) :
 Calls Tryz.prog 190 #[.slice (some ⟨blk,off,none⟩) d.size cap,.int .u64 u] w fun e w' =>
  e=.returned (.tuple #[])∧∃ (n v':Nat) (dk:Array UInt8),w'=(putRow (fun (b:UInt8)=>Value.int .u8 (b.toNat:Int)) w blk off dk).drewN n∧FmtInv d.size u 0 v' dk:=Any.internal_strconv_formatBase10 Sh.lays285 blk off cap u d w hH hu hu64 hsz
def Sh.laysM171_ren:Go.Shelf.Ren:=⟨fun | 171=>126 | 243=>160 | 246=>182 | 283=>188 | 284=>189 | 285=>190 | 286=>191 | 129=>96 | 317=>204 | 318=>205 | 319=>206 | 320=>207 | 337=>210 | 338=>211 | n=>n,fun | 3=>3 | 9=>9 | 2=>2 | 4=>4 | 171=>311 | 0=>0 | 53=>22 | 37=>26 | 5=>5 | 173=>313 | 212=>324 | 51=>152 | 20=>20 | 213=>325 | 46=>118 | 232=>327 | 233=>328 | n=>n,fun | 17=>3 | 18=>4 | 19=>5 | n=>n⟩
theorem Sh.laysM171:Go.Proofs.LaysM.n171 Tryz.prog Sh.laysM171_ren:={
 mixed:=by kernel_rfl
 f129:=Tryz.func96.trans (congrArg some (by kernel_rfl))
 f171:=Tryz.func126.trans (congrArg some (by kernel_rfl))
 f243:=Tryz.func160.trans (congrArg some (by kernel_rfl))
 f246:=Tryz.func182.trans (congrArg some (by kernel_rfl))
 f283:=Tryz.func188.trans (congrArg some (by kernel_rfl))
 f284:=Tryz.func189.trans (congrArg some (by kernel_rfl))
 f285:=Tryz.func190.trans (congrArg some (by kernel_rfl))
 f286:=Tryz.func191.trans (congrArg some (by kernel_rfl))
 f317:=Tryz.func204.trans (congrArg some (by kernel_rfl))
 f318:=Tryz.func205.trans (congrArg some (by kernel_rfl))
 f319:=Tryz.func206.trans (congrArg some (by kernel_rfl))
 f320:=Tryz.func207.trans (congrArg some (by kernel_rfl))
 f337:=Tryz.func210.trans (congrArg some (by kernel_rfl))
 f338:=Tryz.func211.trans (congrArg some (by kernel_rfl))
 t0:=Tryz.underlying0
 a0:=Tryz.isAgg0
 z0:=Tryz.sizeOf0
 v0:=Tryz.zeroValue0
 t2:=Tryz.underlying2
 a2:=Tryz.isAgg2
 z2:=Tryz.sizeOf2
 v2:=Tryz.zeroValue2
 t3:=Tryz.underlying3
 a3:=Tryz.isAgg3
 z3:=Tryz.sizeOf3
 v3:=Tryz.zeroValue3
 t4:=Tryz.underlying4
 a4:=Tryz.isAgg4
 z4:=Tryz.sizeOf4
 v4:=Tryz.zeroValue4
 t5:=Tryz.underlying5
 a5:=Tryz.isAgg5
 z5:=Tryz.sizeOf5
 v5:=Tryz.zeroValue5
 t9:=Tryz.underlying9
 a9:=Tryz.isAgg9
 z9:=Tryz.sizeOf9
 v9:=Tryz.zeroValue9
 t20:=Tryz.underlying20
 a20:=Tryz.isAgg20
 z20:=Tryz.sizeOf20
 v20:=Tryz.zeroValue20
 t37:=Tryz.underlying26
 a37:=Tryz.isAgg26
 z37:=Tryz.sizeOf26
 v37:=Tryz.zeroValue26
 t46:=Tryz.underlying118
 a46:=Tryz.isAgg118
 z46:=Tryz.sizeOf118
 v46:=Tryz.zeroValue118
 t51:=Tryz.underlying152
 a51:=Tryz.isAgg152
 z51:=Tryz.sizeOf152
 v51:=Tryz.zeroValue152
 t53:=Tryz.underlying22
 a53:=Tryz.isAgg22
 z53:=Tryz.sizeOf22
 v53:=Tryz.zeroValue22
 t171:=Tryz.underlying311
 a171:=Tryz.isAgg311
 z171:=Tryz.sizeOf311
 v171:=Tryz.zeroValue311
 t173:=Tryz.underlying313
 a173:=Tryz.isAgg313
 z173:=Tryz.sizeOf313
 v173:=Tryz.zeroValue313
 t212:=Tryz.underlying324
 a212:=Tryz.isAgg324
 z212:=Tryz.sizeOf324
 v212:=Tryz.zeroValue324
 t213:=Tryz.underlying325
 a213:=Tryz.isAgg325
 z213:=Tryz.sizeOf325
 t232:=Tryz.underlying327
 a232:=Tryz.isAgg327
 z232:=Tryz.sizeOf327
 v232:=Tryz.zeroValue327
 t233:=Tryz.underlying328
 a233:=Tryz.isAgg328
 z233:=Tryz.sizeOf328
 v233:=Tryz.zeroValue328
 g17:=by kernel_rfl
 g18:=by kernel_rfl
 g19:=by kernel_rfl
 i0:=by kernel_rfl
 i2:=by kernel_rfl
 i3:=by kernel_rfl
 i4:=by kernel_rfl
 i5:=by kernel_rfl
 i9:=by kernel_rfl
 i20:=by kernel_rfl
 i37:=by kernel_rfl
 i46:=by kernel_rfl
 i51:=by kernel_rfl
 i53:=by kernel_rfl
 i171:=by kernel_rfl
 i173:=by kernel_rfl
 i212:=by kernel_rfl
 i232:=by kernel_rfl
 i233:=by kernel_rfl
 m17:=by kernel_rfl
 m18:=by kernel_rfl
 m19:=by kernel_rfl }
open Go.RowKit Go.Sort Go.Lib in
theorem Sh.strconv_Itoa (n : Int) (h0 : -9223372036854775808 ≤ n) (h1 : n ≤ 9223372036854775807) (w : World) (htab : Lib.TabIs Tryz.prog w "internal/strconv.uint64pow10" .u64 Lib.pow10Tab) :
 Calls Tryz.prog 126 #[.int .i64 n] w fun e w'=>e=.returned (.string ⟨(Lib.itoa n).toArray⟩)∧∃ k os,w'=grow (w.drewN k) os:=Any.strconv_Itoa Sh.laysM171 n h0 h1 w htab
def Sh.lays105_ren:Go.Shelf.Ren:=⟨fun | 105=>127 | 212=>161 | 99=>162 | 165=>163 | 166=>164 | 170=>165 | 169=>101 | 263=>183 | 264=>184 | 206=>185 | 240=>186 | 241=>187 | 276=>202 | 277=>203 | n=>n,fun | 9=>9 | 3=>3 | 4=>4 | 20=>20 | 0=>0 | 46=>118 | 109=>280 | 5=>5 | 72=>184 | 76=>283 | 51=>152 | 146=>285 | 53=>22 | 148=>309 | 70=>182 | 37=>26 | 75=>88 | 127=>247 | 164=>123 | 80=>187 | n=>n,fun | n=>n⟩
theorem Sh.lays105:Go.Proofs.Lays.n105 Tryz.prog Sh.lays105_ren:={
 mixed:=by kernel_rfl
 f99:=Tryz.func162.trans (congrArg some (by kernel_rfl))
 f105:=Tryz.func127.trans (congrArg some (by kernel_rfl))
 f165:=Tryz.func163.trans (congrArg some (by kernel_rfl))
 f166:=Tryz.func164.trans (congrArg some (by kernel_rfl))
 f169:=Tryz.func101.trans (congrArg some (by kernel_rfl))
 f170:=Tryz.func165.trans (congrArg some (by kernel_rfl))
 f206:=Tryz.func185.trans (congrArg some (by kernel_rfl))
 f212:=Tryz.func161.trans (congrArg some (by kernel_rfl))
 f240:=Tryz.func186.trans (congrArg some (by kernel_rfl))
 f241:=Tryz.func187.trans (congrArg some (by kernel_rfl))
 f263:=Tryz.func183.trans (congrArg some (by kernel_rfl))
 f264:=Tryz.func184.trans (congrArg some (by kernel_rfl))
 f276:=Tryz.func202.trans (congrArg some (by kernel_rfl))
 f277:=Tryz.func203.trans (congrArg some (by kernel_rfl))
 t0:=Tryz.underlying0
 a0:=Tryz.isAgg0
 z0:=Tryz.sizeOf0
 v0:=Tryz.zeroValue0
 t3:=Tryz.underlying3
 a3:=Tryz.isAgg3
 z3:=Tryz.sizeOf3
 v3:=Tryz.zeroValue3
 t4:=Tryz.underlying4
 a4:=Tryz.isAgg4
 z4:=Tryz.sizeOf4
 v4:=Tryz.zeroValue4
 t5:=Tryz.underlying5
 a5:=Tryz.isAgg5
 z5:=Tryz.sizeOf5
 v5:=Tryz.zeroValue5
 t9:=Tryz.underlying9
 a9:=Tryz.isAgg9
 z9:=Tryz.sizeOf9
 v9:=Tryz.zeroValue9
 t20:=Tryz.underlying20
 a20:=Tryz.isAgg20
 z20:=Tryz.sizeOf20
 v20:=Tryz.zeroValue20
 t37:=Tryz.underlying26
 a37:=Tryz.isAgg26
 z37:=Tryz.sizeOf26
 v37:=Tryz.zeroValue26
 t46:=Tryz.underlying118
 a46:=Tryz.isAgg118
 z46:=Tryz.sizeOf118
 v46:=Tryz.zeroValue118
 t51:=Tryz.underlying152
 a51:=Tryz.isAgg152
 z51:=Tryz.sizeOf152
 v51:=Tryz.zeroValue152
 t53:=Tryz.underlying22
 a53:=Tryz.isAgg22
 z53:=Tryz.sizeOf22
 v53:=Tryz.zeroValue22
 t70:=Tryz.underlying182
 a70:=Tryz.isAgg182
 z70:=Tryz.sizeOf182
 v70:=Tryz.zeroValue182
 t72:=Tryz.underlying184
 a72:=Tryz.isAgg184
 z72:=Tryz.sizeOf184
 v72:=Tryz.zeroValue184
 t75:=Tryz.underlying88
 a75:=Tryz.isAgg88
 z75:=Tryz.sizeOf88
 v75:=Tryz.zeroValue88
 t76:=Tryz.underlying283
 a76:=Tryz.isAgg283
 z76:=Tryz.sizeOf283
 v76:=Tryz.zeroValue283
 t109:=Tryz.underlying280
 a109:=Tryz.isAgg280
 z109:=Tryz.sizeOf280
 v109:=Tryz.zeroValue280
 t127:=Tryz.underlying247
 a127:=Tryz.isAgg247
 z127:=Tryz.sizeOf247
 v127:=Tryz.zeroValue247
 t146:=Tryz.underlying285
 a146:=Tryz.isAgg285
 z146:=Tryz.sizeOf285
 v146:=Tryz.zeroValue285
 t148:=Tryz.underlying309
 a148:=Tryz.isAgg309
 z148:=Tryz.sizeOf309
 v148:=Tryz.zeroValue309
 t164:=Tryz.underlying123
 a164:=Tryz.isAgg123
 z164:=Tryz.sizeOf123
 v164:=Tryz.zeroValue123 }
theorem Sh.Builder_Extra_105:Builder.Extra Tryz.prog Sh.lays105_ren:={
 sizeBuilder:=by kernel_rfl
 liesBuilder:=by kernel_rfl
 t5:=Tryz.underlying5
 a5:=Tryz.isAgg5
 z5:=Tryz.sizeOf5
 v5:=Tryz.zeroValue5
 infoByte:=by kernel_rfl
 cellsByte:=by kernel_rfl
 sizeByte:=by kernel_rfl
 neB5:=by decide }
open Go.RowKit Go.Lib in
theorem Sh.strings_Repeat (s:ByteArray) (c:Nat) (w:World) (hc:c≤9223372036854775807) (hlen:s.size*c≤140737488355328) :
 Calls Tryz.prog 127 #[.string s,.int .i64 c] w fun e w'=>e=.returned (.string ⟨(Lib.repeatL s.data.toList c).toArray⟩)∧Below w.heap.size w w':=Any.strings_Repeat Sh.lays105 Sh.Builder_Extra_105 s c w hc hlen
open Go.RowKit Go.Proofs.YtfmceonbejlhlaaGreatDoorW.PrintWords Go.Proofs.YtfmceonbejlhlaaGreatDoorW.PrintLast Go.Proofs.YtfmceonbejlhlaaGreatDoorW.PrintMore
set_option linter.unusedVariables false
def P10 (w : World) : Prop := Lib.TabIs Tryz.prog w "internal/strconv.uint64pow10" .u64 Lib.pow10Tab
theorem P10.below {w w':World} (h:P10 w) (hb:Below w.heap.size w w'):P10 w':=by
 obtain ⟨g, hg⟩ : ∃ g, Tryz.prog.globalNamed "internal/strconv.uint64pow10" = some g := ⟨_, Sh.laysM171.m17⟩
 unfold P10 Lib.TabIs World.var? at h ⊢
 rw [hg] at h ⊢
 simp only [Option.bind_some] at h ⊢
 have hlt:g<w.heap.size:=by
  rcases Nat.lt_or_ge g w.heap.size with h' | h'
  · exact h'
  · rw [Array.getElem?_eq_none h'] at h;cases h
 rw [hb.block g hlt]
 exact h
def Asc (s:ByteArray):Prop:=∀ c ∈ s.data.toList,c.toNat<128
theorem Asc.app {a b:ByteArray} (ha:Asc a) (hb:Asc b):Asc (a ++ b):=by
 intro c hc
 have:(a ++ b).data.toList=a.data.toList ++ b.data.toList:=by simp
 rw [this] at hc
 rcases List.mem_append.1 hc with h | h
 · exact ha c h
 · exact hb c h
theorem Dig.asc {s:ByteArray} (h:Dig s):Asc s:=fun c hc=>by have:=h c hc;omega
theorem Asc.nil:Asc ⟨#[]⟩:=fun c hc=>by simp at hc
theorem Asc.of_list {l:List UInt8} (h:∀ c ∈ l,c.toNat<128):Asc ⟨l.toArray⟩:=fun c hc=>h c (by simpa using hc)
theorem size_list (l:List UInt8):(⟨l.toArray⟩:ByteArray).size=l.length:=by simp [ByteArray.size]
theorem decDigits_asc (u:Nat):∀ c ∈ Lib.decDigits u,c.toNat<128:=by
 induction u using Nat.strongRecOn with
 | _ u ih =>
   intro c hc
   rw [Lib.decDigits] at hc
   split at hc
   · rw [List.mem_singleton.1 hc,UInt8.toNat_ofNat'];omega
   · rcases List.mem_append.1 hc with h | h
     · exact ih _ (by omega) c h
     · rw [List.mem_singleton.1 h,UInt8.toNat_ofNat'];omega
theorem decDigits_len (k:Nat):∀ u,u<10 ^ (k+1)→(Lib.decDigits u).length≤k+1∧1≤(Lib.decDigits u).length:=by
 induction k with
 | zero=>intro u h;rw [Lib.decDigits,dif_pos (by omega)];simp
 | succ k ih =>
   intro u h
   rw [Lib.decDigits]
   split
   · simp
   · have:=ih (u / 10) (by rw [Nat.pow_succ] at h;omega)
     rw [List.length_append]
     simp
     omega
theorem itoa_asc (n:Int):Asc ⟨(Lib.itoa n).toArray⟩:=by
 apply Asc.of_list
 unfold Lib.itoa
 split
 · intro c hc
   rcases List.mem_cons.1 hc with rfl | hc
   · decide
   · exact decDigits_asc _ c hc
 · exact decDigits_asc _
theorem itoa_size {n:Int} (h1 : -10000<n) (h2:n<10000):(⟨(Lib.itoa n).toArray⟩:ByteArray).size≤5:=by
 rw [size_list]
 unfold Lib.itoa
 split
 · have:=decDigits_len 3 n.natAbs (by omega)
   rw [List.length_cons]
   omega
 · have:=decDigits_len 3 n.toNat (by omega)
   omega
theorem repeat_len (l:List UInt8) (c:Nat):(Lib.repeatL l c).length=c*l.length:=by
 induction c with
 | zero=>simp [Lib.repeatL]
 | succ c ih=>rw [Lib.repeatL,List.length_append,ih,Nat.succ_mul];omega
theorem repeat_mem (l:List UInt8) (c:Nat):∀ x ∈ Lib.repeatL l c,x ∈ l:=by
 induction c with
 | zero=>intro x hx;simp [Lib.repeatL] at hx
 | succ c ih =>
   intro x hx
   rw [Lib.repeatL] at hx
   rcases List.mem_append.1 hx with h | h
   · first | exact h | exact ih x h
   · first | exact ih x h | exact h
theorem zeros_any (c:Nat) (w:World) (hc:c≤1000000):Calls Tryz.prog 127 #[.string ⟨#[48]⟩,.int .i64 c] w (fun e w'=>∃ t,e=.returned (.string t)∧Asc t∧t.size=c∧Below w.heap.size w w'):=by
 refine (Sh.strings_Repeat ⟨#[48]⟩ c w (by omega) (by show 1*c≤_;omega)).mono ?_
 rintro e w' ⟨rfl,hb⟩
 refine ⟨_,rfl,Asc.of_list fun x hx=>?_,?_,hb⟩
 · have:=repeat_mem _ _ x hx
   have:x=48:=by simpa using this
   subst this
   decide
 · rw [size_list,repeat_len];simp
theorem grow_below (w:World) (k:Nat) (os:Array Obj):Below w.heap.size w (Go.Sort.grow (w.drewN k) os) :=
 ⟨rfl,rfl,rfl,by show w.heap.size≤(w.heap ++ os).size;simp,fun j hj=>by show (w.heap ++ os)[j]? = w.heap[j]?;rw [Array.getElem?_append_left hj]⟩
theorem itoa_any (n:Int) (h1 : -10000<n) (h2:n<10000) (w:World) (ht:P10 w):Calls Tryz.prog 126 #[.int .i64 n] w (fun e w'=>∃ t,e=.returned (.string t)∧Asc t∧t.size≤5∧Below w.heap.size w w'):=by
 refine (Sh.strconv_Itoa n (by omega) (by omega) w ht).mono ?_
 rintro e w' ⟨rfl,k,os,rfl⟩
 exact ⟨_,rfl,itoa_asc n,itoa_size h1 h2,grow_below w k os⟩
def FtPost (w:World) (en:Ending) (w':World):Prop:=∃ (t:ByteArray) (f:Int),en=.returned (.tuple #[.string t,.int .i64 f])∧((f=0∧Asc t∧1≤t.size∧t.size≤2000) ∨ f=1)∧Below w.heap.size w w'
theorem Qbj (a b:ByteArray):(a ++ b).size=a.size+b.size:=by simp
theorem asc_e:Asc ⟨#[101]⟩:=Asc.of_list (l:=[101]) (by decide)
theorem asc_d:Asc ⟨#[46]⟩:=Asc.of_list (l:=[46]) (by decide)
theorem asc_z:Asc ⟨#[48,46]⟩:=Asc.of_list (l:=[48,46]) (by decide)
theorem asc_dz:Asc ⟨#[46,48]⟩:=Asc.of_list (l:=[46,48]) (by decide)
set_option maxHeartbeats 8000000 in
set_option maxRecDepth 100000 in
theorem ftext_any (b:Nat) (hb:b<18446744073709551616) (w:World) (ht:P10 w):Calls Tryz.prog 84 #[.int .u64 b] w (FtPost w):=by
 obtain ⟨z,hz⟩:∃ z,Go.bits .and .u64 (b:Int) 9223372036854775808=z:=⟨_,rfl⟩
 have HSh:=Lib.hid (shortest_any b hb w)
 have HT:=Lib.hid ht
 clear ht hb
 go_enter Tryz.func84,Tryz.ntmps84
 go_upto_region 2 with (go_at_call 125;refine HSh.out.mono ?_;rintro ee w1 ⟨t,e,f,he,hf,hb1⟩;subst he;have HF:=Lib.hid hf;have HB1:=Lib.hid hb1;clear hf hb1)
 have HT1:=Lib.hid (HT.out.below HB1.out)
 rcases HF.out with ⟨rfl,hdig,ht1,ht2,he1,he2⟩ | rfl
 · have HD:=Lib.hid (show Asc t∧1≤t.size∧t.size≤800∧-2000≤e∧e≤2000 from ⟨hdig.asc,ht1,ht2,he1,he2⟩)
   have HG:=Lib.hid hdig
   clear hdig HF
   go_upto_if 20 with fail
   go_cut [7] (fun sv wx=>∃ sg:ByteArray,sv=.string sg∧Hid (Asc sg∧sg.size≤1)∧wx=w1)
   case first =>
    by_cases hz0:z=0
    · have q1:(z == 0)=true:=by rw [hz0];rfl
      have q2:(z != 0)=false:=by rw [hz0];rfl
      clear hz0
      go_wp2_with fail
      go_meet
      exact ⟨_,rfl,⟨Asc.nil,by decide⟩,rfl⟩
    · have q1:(z == 0)=false:=by rw [beq_eq_false_iff_ne];exact hz0
      have q2:(z != 0)=true:=by rw [bne_iff_ne];exact hz0
      clear hz0
      go_wp2_with fail
      go_meet
      exact ⟨_,rfl,⟨fun c hc=>by have:c=45:=(by simpa using hc);subst this;decide,by decide⟩,rfl⟩
   case rest =>
    obtain ⟨sg,rfl,HSg,hwc⟩:=hcut
    subst wc
    clear hz
    obtain ⟨p,hp⟩:∃ p,(t.size:Int)+e=p:=⟨_,rfl⟩
    have g1:IntKind.i64.wrap ((t.size:Int)+e)=p:=by rw [IntKind.wrap_i64];omega
    have HP:=Lib.hid hp
    have hpr : -3000≤p∧p≤3000:=by omega
    clear hp
    by_cases hfar:p < -5 ∨ 21<p
    · have HI:=Lib.hid fun (W:World) (h:P10 W)=>itoa_any (p - 1) (by omega) (by omega) W h
      have g2:IntKind.i64.wrap (p - 1)=p - 1:=by rw [IntKind.wrap_i64];omega
      have f1:(1:Int)≤(t.size:Int):=by omega
      have k1:¬ 9223372036854775807<sg.size+1:=by have:=HSg.out.2;omega
      rcases hfar with h1 | h1
      all_goals
       go_upto_if 38 with fail
       go_cut [7] (fun sv wx=>∃ sg:ByteArray,sv=.string sg∧Hid (Asc sg∧sg.size≤810)∧wx=w1)
       case first =>
        by_cases hl:1<t.size
        · have f2:(1:Int)<(t.size:Int):=by omega
          have k2:¬ 9223372036854775807<1+(t.size - 1):=by omega
          have k3:¬ 9223372036854775807<sg.size+1+(1+(t.size - 1)):=by have:=HSg.out.2;omega
          go_wp2_with fail
          go_meet
          refine ⟨_,rfl,(show Hid _ from ⟨?_,?_⟩),rfl⟩
          · exact (HSg.out.1.app ((HG.out.part _ _).asc)).app (Asc.app (fun c hc=>by have:c=46:=(by simpa using hc);subst this;decide) ((HG.out.part _ _).asc))
          · have:=HSg.out.2
            simp only [Qbj,ByteArray.size_extract]
            have e0:(⟨#[46]⟩:ByteArray).size=1:=by decide
            rw [e0]
            omega
        · have f2:¬ (1:Int)<(t.size:Int):=by omega
          go_wp2_with fail
          go_meet
          refine ⟨_,rfl,(show Hid _ from ⟨?_,?_⟩),rfl⟩
          · exact HSg.out.1.app ((HG.out.part _ _).asc)
          · have:=HSg.out.2
            simp only [Qbj,ByteArray.size_extract]
            omega
       case rest =>
        obtain ⟨s2,rfl,HS2,hwc⟩:=hcut
        subst wc
        have k4:¬ 9223372036854775807<s2.size+1:=by have:=HS2.out.2;omega
        go_wp2_with (go_at_call 126;refine (HI.out w1 HT1.out).mono ?_;rintro ee w2 ⟨ti,he,hi1,hi2,hb2⟩;have k5:¬ 9223372036854775807<s2.size+1+ti.size:=(by have:=HS2.out.2;omega);subst he;have HTi:=Lib.hid (show Asc ti∧ti.size≤5 from ⟨hi1,hi2⟩);have HB2:=Lib.hid (HB1.out.trans (hb2.mono HB1.out.size));clear hi1 hi2 hb2)
        exact bodyPost_ret (v:=.tuple #[.string (s2 ++ ⟨#[101]⟩ ++ ti),.int .i64 0]) (by simp [results,Tryz.results84,go_sem]) rfl ⟨_,_,rfl,.inl ⟨rfl,(HS2.out.1.app asc_e).app HTi.out.1,(by simp only [Qbj];have e0:(⟨#[101]⟩:ByteArray).size=1:=(by decide);omega),(by simp only [Qbj];have e0:(⟨#[101]⟩:ByteArray).size=1:=(by decide);have:=HS2.out.2;have:=HTi.out.2;omega)⟩,HB2.out⟩
    · have n1:¬ p < -5:=by omega
      have n2:¬ 21<p:=by omega
      by_cases h0:p≤0
      · obtain ⟨c,hc⟩:∃ c:Nat,-p=c:=⟨(-p).toNat,by omega⟩
        have HZ:=Lib.hid (zeros_any c w1 (by omega))
        have g2:IntKind.i64.wrap (-p)=(c:Int):=by rw [IntKind.wrap_i64];omega
        have hc5:c≤5:=by omega
        have k1:¬ 9223372036854775807<sg.size+2:=by have:=HSg.out.2;omega
        clear hfar hc
        go_wp2_with (go_at_call 127;refine HZ.out.mono ?_;rintro ee w2 ⟨ti,he,hi1,hi2,hb2⟩;have k2:¬ 9223372036854775807<sg.size+2+ti.size:=(by have:=HSg.out.2;omega);have k3:¬ 9223372036854775807<sg.size+2+ti.size+t.size:=(by have:=HSg.out.2;omega);subst he;have HTi:=Lib.hid (show Asc ti∧ti.size=c from ⟨hi1,hi2⟩);have HB2:=Lib.hid (HB1.out.trans (hb2.mono HB1.out.size));clear hi1 hi2 hb2)
        exact bodyPost_ret (v:=.tuple #[.string (sg ++ ⟨#[48,46]⟩ ++ ti ++ t),.int .i64 0]) (by simp [results,Tryz.results84,go_sem]) rfl ⟨_,_,rfl,.inl ⟨rfl,((HSg.out.1.app asc_z).app HTi.out.1).app HD.out.1,(by simp only [Qbj];have e0:(⟨#[48,46]⟩:ByteArray).size=2:=(by decide);omega),(by simp only [Qbj];have e0:(⟨#[48,46]⟩:ByteArray).size=2:=(by decide);have:=HSg.out.2;have:=HTi.out.2;omega)⟩,HB2.out⟩
      · by_cases hlt:p<(t.size:Int)
        · obtain ⟨c,hc⟩:∃ c:Nat,p=c:=⟨p.toNat,by omega⟩
          subst hc
          have f2:(c:Int)≤(t.size:Int):=by omega
          have k1:¬ 9223372036854775807<sg.size+c:=by have:=HSg.out.2;omega
          have k2:¬ 9223372036854775807<sg.size+c+1:=by have:=HSg.out.2;omega
          have k3:¬ 9223372036854775807<sg.size+c+1+(t.size - c):=by have:=HSg.out.2;omega
          clear hfar
          go_wp2_with fail
          go_quiet (fail)
          go_wp2
          exact bodyPost_ret (v:=.tuple #[.string (sg ++ t.extract 0 c ++ ⟨#[46]⟩ ++ t.extract c t.size),.int .i64 0]) (by simp [results,Tryz.results84,go_sem]) rfl ⟨_,_,rfl,.inl ⟨rfl,((HSg.out.1.app (HG.out.part _ _).asc).app asc_d).app (HG.out.part _ _).asc,(by simp only [Qbj,ByteArray.size_extract];have e0:(⟨#[46]⟩:ByteArray).size=1:=(by decide);omega),(by simp only [Qbj,ByteArray.size_extract];have e0:(⟨#[46]⟩:ByteArray).size=1:=(by decide);have:=HSg.out.2;omega)⟩,Below.drewN' HB1.out nq⟩
        · obtain ⟨c,hc⟩:∃ c:Nat,p - (t.size:Int)=c:=⟨(p - (t.size:Int)).toNat,by omega⟩
          have HZ:=Lib.hid (zeros_any c w1 (by omega))
          have g2:IntKind.i64.wrap (p - (t.size:Int))=(c:Int):=by rw [IntKind.wrap_i64];omega
          have hc5:c≤21:=by omega
          have k1:¬ 9223372036854775807<sg.size+t.size:=by have:=HSg.out.2;omega
          clear hfar hc
          go_wp2_with (go_at_call 127;refine HZ.out.mono ?_;rintro ee w2 ⟨ti,he,hi1,hi2,hb2⟩;have k2:¬ 9223372036854775807<sg.size+t.size+ti.size:=(by have:=HSg.out.2;omega);have k3:¬ 9223372036854775807<sg.size+t.size+ti.size+2:=(by have:=HSg.out.2;omega);subst he;have HTi:=Lib.hid (show Asc ti∧ti.size=c from ⟨hi1,hi2⟩);have HB2:=Lib.hid (HB1.out.trans (hb2.mono HB1.out.size));clear hi1 hi2 hb2)
          exact bodyPost_ret (v:=.tuple #[.string (sg ++ t ++ ti ++ ⟨#[46,48]⟩),.int .i64 0]) (by simp [results,Tryz.results84,go_sem]) rfl ⟨_,_,rfl,.inl ⟨rfl,((HSg.out.1.app HD.out.1).app HTi.out.1).app asc_dz,(by simp only [Qbj];have e0:(⟨#[46,48]⟩:ByteArray).size=2:=(by decide);omega),(by simp only [Qbj];have e0:(⟨#[46,48]⟩:ByteArray).size=2:=(by decide);have:=HSg.out.2;have:=HTi.out.2;omega)⟩,HB2.out⟩
 · go_wp2
   exact bodyPost_ret (v:=.tuple #[.string ⟨#[]⟩,.int .i64 1]) (by simp [results,Tryz.results84,go_sem]) rfl ⟨_,_,rfl,.inr rfl,HB1.out⟩
def NtPost (m:Nat) (w:World) (e:Ending) (w':World):Prop:=∃ t:ByteArray,e=.returned (.tuple #[.string t,.int .i64 0])∧Asc t∧1≤t.size∧t.size≤m∧Below w.heap.size w w'
theorem decS_bits {n k:Nat} (h:Bt n (10*k)) (hk:0<k):(decS n).size≤4*k:=by
 refine decS_len (Nat.lt_of_lt_of_le h ?_) (by omega)
 rw [Nat.pow_mul,Nat.pow_mul]
 exact Nat.pow_le_pow_left (by decide) k
theorem frombytes_n (s:ByteArray) (X:World) (h8:8<s.size) (h9:s.size≤512) (hz:(strB s).getD 0 0 ≠ 0) (c:Nat) (hc:s.size≤c) :
 Calls Tryz.prog 85 #[.slice (some ⟨X.heap.size,0,none⟩) s.size c] (Lib.bytesWorld X 5 s) (fun e w'=>∃ v A,e=.returned (.tuple #[v,.int .i64 0])∧NAt w' v A∧Bt A 4096∧Below X.heap.size X w'):=by
 have hR:=rowb_new X s
 have hb:=bytes_below (Below.refl X.heap.size X) (Nat.le_refl _) 5 s
 refine (frombytes_any (strB s) (fun x hx=>?_) X.heap.size 0 s.size c (strB_len s) (by omega) (.inr hz) hc _ (fun j x hj=>?_) hR.1).mono ?_
 · unfold strB at hx
   obtain ⟨y,_,rfl⟩:=List.mem_map.1 hx
   have:=y.toNat_lt
   omega
 · unfold strB at hj
   rw [List.getElem?_map] at hj
   cases hy:s.data.toList[j]? with
   | none=>rw [hy] at hj;cases hj
   | some y =>
     rw [hy] at hj
     injection hj with hj
     have:=hR.2 j y.toNat (by rw [List.getElem?_map,hy];rfl)
     rw [Nat.zero_add,this,← hj]
 · rintro e w' ⟨v,rfl,hown,hbel⟩
   have hrange:=limbGo_range (strB s) (strB s).length 0 (List.replicate (((strB s).length+3) / 4) 0) (fun x hx=>by rw [List.mem_replicate] at hx;omega)
   have hle:limbGo (strB s) (strB s).length 0 (List.replicate (((strB s).length+3) / 4) 0)=limbsF (strB s):=rfl
   rw [hle] at hrange
   have hlen:=limbsF_len (strB s)
   rw [strB_len] at hlen
   obtain ⟨xs,hxs⟩:∃ xs:List Nat,(limbsF (strB s)).map Int.toNat=xs:=⟨_,rfl⟩
   have hU:U xs=(limbsF (strB s)).map (Value.int .u32):=by
    rw [← hxs]
    unfold U
    rw [List.map_map]
    exact List.map_congr_left fun x hx=>by have:=hrange x hx;simp only [Function.comp];congr 1;omega
   have hxl:xs.length=(limbsF (strB s)).length:=by rw [← hxs,List.length_map]
   have hL:Lim xs:=by
    intro x hx
    rw [← hxs] at hx
    obtain ⟨y,hy,rfl⟩:=List.mem_map.1 hx
    have:=hrange y hy
    omega
   have ho:LOwn w' (Lib.bytesWorld X 5 s).heap.size v xs:=by
    unfold LOwn
    rw [hU,hxl]
    exact hown
   have h1:=ho.at_ hL
   refine ⟨v,val xs,rfl,⟨xs,h1,rfl,by omega⟩,?_,hb.trans (hbel.mono hb.size)⟩
   have h2:=val_lt xs hL
   have h3:4294967296 ^ xs.length=2 ^ (32*xs.length):=by rw [Nat.pow_mul]
   rw [h3] at h2
   exact Bt.mono (k:=32*xs.length) h2 (by omega)
theorem strB_at0 {b:ByteArray} (h:0<b.size):(strB b).getD 0 0=(b[0].toNat:Int):=by
 unfold strB
 rw [List.getD_eq_getElem?_getD,List.getElem?_map,List.getElem?_eq_getElem (by rw [Array.length_toList];exact h)]
 rfl
theorem Bt.succ {n k:Nat} (h:Bt n k):Bt (n+1) (k+1):=by
 unfold Bt at *
 rw [Nat.pow_succ]
 omega
theorem asc_m:Asc ⟨#[45]⟩:=Asc.of_list (l:=[45]) (by decide)
set_option maxHeartbeats 1000000 in
set_option maxRecDepth 100000 in
theorem numtext_int_p (N:Nat) (hN:N<18446744073709551616) (s:ByteArray) (a:Option Addr) (c:Nat) (w:World) (hs:s.size=0) :
 Calls Tryz.prog 50 #[.agg #[.int .i64 4,.bool false,.int .u64 N,.string s,.slice a 0 c]] w (NtPost 2000 w):=by
 have hR:=Row5.new w (.int .i64 4) (.bool false) (.int .u64 N) (.string s) (.slice a 0 c)
 have hb:=(Below.refl w.heap.size w).alloc (Nat.le_refl _) (.cells #[.int .i64 4,.bool false,.int .u64 N,.string s,.slice a 0 c] 25)
 obtain ⟨w1,hw1⟩:∃ w1,w.alloc (.cells #[.int .i64 4,.bool false,.int .u64 N,.string s,.slice a 0 c] 25)=w1:=⟨_,rfl⟩
 rw [hw1] at hR hb
 have HB:=Lib.hid hb
 have HR:=Lib.hid hR
 have c0:=hR.c0
 have c1:=hR.c1
 have c2:=hR.c2
 have c3:=hR.c3
 have c4:=hR.c4
 have hlt:=hR.lt
 have hem:=empty_list' (b:=s) hs
 obtain ⟨lo,hlo⟩:∃ lo,N % 4294967296=lo:=⟨_,rfl⟩
 obtain ⟨hi,hhi⟩:∃ hi,N / 4294967296=hi:=⟨_,rfl⟩
 have g1:IntKind.u32.wrap (N:Int)=(lo:Int):=by rw [IntKind.wrap_u32];omega
 have g2:(N:Int) / 4294967296=(hi:Int):=by omega
 have g3:IntKind.u32.wrap (hi:Int)=(hi:Int):=by rw [IntKind.wrap_u32];omega
 obtain ⟨w2,hw2⟩:∃ w2,w1.alloc (.cells #[.int .u32 (lo:Int),.int .u32 (hi:Int)] 152)=w2:=⟨_,rfl⟩
 have hNAt:=two_at w1 lo hi (by omega) (by omega)
 have hb2:=(Below.refl w1.heap.size w1).alloc (Nat.le_refl _) (.cells #[.int .u32 (lo:Int),.int .u32 (hi:Int)] 152)
 rw [hw2] at hNAt hb2
 have HNAt:=Lib.hid hNAt
 have HB2:=Lib.hid (HB.out.trans (hb2.mono HB.out.size))
 have d1:=(hR.below hb2).c1
 have HBt:=Lib.hid (show Bt (lo+4294967296*hi) 4096 from Bt.mono (k:=64) (by unfold Bt;omega) (by omega))
 clear hR hb hs hlo hhi hN hNAt hb2
 go_enter Tryz.func50,Tryz.ntmps50
 go_wp2_with (first
  | (go_at_call 87;refine (digits_n (lo+4294967296*hi) _ _ HNAt.out (a:=4096) HBt.out (by omega)).mono ?_;unfold DsPost;rintro ee w4 ⟨he,hb4⟩;have hds:=decS_bits (k:=410) ((HBt.out).mono (by omega)) (by omega);have hdg:=decS_dgs (lo+4294967296*hi);obtain ⟨ds,hde⟩:∃ ds,decS (lo+4294967296*hi)=ds:=⟨_,rfl⟩;rw [hde] at he hds hdg;have k1:¬ 9223372036854775807<ds.size:=(by omega);have HDs:=Lib.hid (show Dig ds∧ds.size≤1640∧ds.size ≠ 0 from ⟨hdg.2.1,by omega,hdg.2.2⟩);clear hds hdg hde;subst he;have HB4:=Lib.hid (HB2.out.trans (hb4.mono HB2.out.size));clear hb4))
 exact bodyPost_ret (v:=.tuple #[.string (⟨#[]⟩ ++ ds),.int .i64 0]) (by simp [results,Tryz.results50,go_sem]) rfl ⟨_,rfl,Asc.nil.app HDs.out.1.asc,by simp only [Qbj];have:=HDs.out;omega,by simp only [Qbj];have e0:(⟨#[]⟩:ByteArray).size=0:=(by decide);have:=HDs.out;omega,HB4.out⟩
set_option maxHeartbeats 1000000 in
set_option maxRecDepth 100000 in
theorem numtext_int_n (N:Nat) (hN:N<18446744073709551616) (s:ByteArray) (a:Option Addr) (c:Nat) (w:World) (hs:s.size=0) :
 Calls Tryz.prog 50 #[.agg #[.int .i64 4,.bool true,.int .u64 N,.string s,.slice a 0 c]] w (NtPost 2000 w):=by
 have hR:=Row5.new w (.int .i64 4) (.bool true) (.int .u64 N) (.string s) (.slice a 0 c)
 have hb:=(Below.refl w.heap.size w).alloc (Nat.le_refl _) (.cells #[.int .i64 4,.bool true,.int .u64 N,.string s,.slice a 0 c] 25)
 obtain ⟨w1,hw1⟩:∃ w1,w.alloc (.cells #[.int .i64 4,.bool true,.int .u64 N,.string s,.slice a 0 c] 25)=w1:=⟨_,rfl⟩
 rw [hw1] at hR hb
 have HB:=Lib.hid hb
 have HR:=Lib.hid hR
 have c0:=hR.c0
 have c1:=hR.c1
 have c2:=hR.c2
 have c3:=hR.c3
 have c4:=hR.c4
 have hlt:=hR.lt
 have hem:=empty_list' (b:=s) hs
 obtain ⟨lo,hlo⟩:∃ lo,N % 4294967296=lo:=⟨_,rfl⟩
 obtain ⟨hi,hhi⟩:∃ hi,N / 4294967296=hi:=⟨_,rfl⟩
 have g1:IntKind.u32.wrap (N:Int)=(lo:Int):=by rw [IntKind.wrap_u32];omega
 have g2:(N:Int) / 4294967296=(hi:Int):=by omega
 have g3:IntKind.u32.wrap (hi:Int)=(hi:Int):=by rw [IntKind.wrap_u32];omega
 obtain ⟨w2,hw2⟩:∃ w2,w1.alloc (.cells #[.int .u32 (lo:Int),.int .u32 (hi:Int)] 152)=w2:=⟨_,rfl⟩
 have hNAt:=two_at w1 lo hi (by omega) (by omega)
 have hb2:=(Below.refl w1.heap.size w1).alloc (Nat.le_refl _) (.cells #[.int .u32 (lo:Int),.int .u32 (hi:Int)] 152)
 rw [hw2] at hNAt hb2
 have HNAt:=Lib.hid hNAt
 have HB2:=Lib.hid (HB.out.trans (hb2.mono HB.out.size))
 have d1:=(hR.below hb2).c1
 have HBt:=Lib.hid (show Bt (lo+4294967296*hi) 4096 from Bt.mono (k:=64) (by unfold Bt;omega) (by omega))
 clear hR hb hs hlo hhi hN hNAt hb2
 go_enter Tryz.func50,Tryz.ntmps50
 go_wp2_with (first
  | (go_at_call 86;refine (add_n (lo+4294967296*hi) 1 _ _ _ _ (HNAt.out.below (below_two w2 (.cells #[.int .u32 1] 152) (.cells #[.slice (some ⟨w2.heap.size,0,none⟩) 1 1] 150))) ⟨[1],fit_new w2 1 (by omega),val_one 1⟩ (a:=4096) HBt.out (Bt.mono (k:=1) (by unfold Bt;omega) (by omega)) (by omega)).mono ?_;rintro ee w3 ⟨v3,he,hl3,hb3⟩;subst he;have HL3:=Lib.hid hl3;have HB3:=Lib.hid (HB2.out.trans (((below_two w2 (.cells #[.int .u32 1] 152) (.cells #[.slice (some ⟨w2.heap.size,0,none⟩) 1 1] 150)).trans (hb3.mono (by simp;omega))).mono HB2.out.size));clear hl3 hb3)
  | (go_at_call 87;refine (digits_n ((lo+4294967296*hi)+1) _ w3 HL3.out (a:=4097) (HBt.out.succ) (by omega)).mono ?_;unfold DsPost;rintro ee w4 ⟨he,hb4⟩;have hds:=decS_bits (k:=410) ((HBt.out).succ.mono (by omega)) (by omega);have hdg:=decS_dgs ((lo+4294967296*hi)+1);obtain ⟨ds,hde⟩:∃ ds,decS ((lo+4294967296*hi)+1)=ds:=⟨_,rfl⟩;rw [hde] at he hds hdg;have k1:¬ 9223372036854775807<1+ds.size:=(by omega);have HDs:=Lib.hid (show Dig ds∧ds.size≤1640∧ds.size ≠ 0 from ⟨hdg.2.1,by omega,hdg.2.2⟩);clear hds hdg hde;subst he;have HB4:=Lib.hid (HB3.out.trans (hb4.mono HB3.out.size));clear hb4))
 exact bodyPost_ret (v:=.tuple #[.string (⟨#[45]⟩ ++ ds),.int .i64 0]) (by simp [results,Tryz.results50,go_sem]) rfl ⟨_,rfl,asc_m.app HDs.out.1.asc,by simp only [Qbj];have:=HDs.out;omega,by simp only [Qbj];have e0:(⟨#[45]⟩:ByteArray).size=1:=(by decide);have:=HDs.out;omega,HB4.out⟩
set_option maxHeartbeats 1000000 in
set_option maxRecDepth 100000 in
theorem numtext_big_p (s:ByteArray) (a:Option Addr) (c:Nat) (w:World) (h8:8<s.size) (h9:s.size≤512) (hz:(strB s).getD 0 0 ≠ 0) :
 Calls Tryz.prog 50 #[.agg #[.int .i64 5,.bool false,.int .u64 0,.string s,.slice a 0 c]] w (NtPost 2000 w):=by
 have hR:=Row5.new w (.int .i64 5) (.bool false) (.int .u64 0) (.string s) (.slice a 0 c)
 have hb:=(Below.refl w.heap.size w).alloc (Nat.le_refl _) (.cells #[.int .i64 5,.bool false,.int .u64 0,.string s,.slice a 0 c] 25)
 obtain ⟨w1,hw1⟩:∃ w1,w.alloc (.cells #[.int .i64 5,.bool false,.int .u64 0,.string s,.slice a 0 c] 25)=w1:=⟨_,rfl⟩
 rw [hw1] at hR hb
 have HB:=Lib.hid hb
 have HR:=Lib.hid hR
 have c0:=hR.c0
 have c1:=hR.c1
 have c2:=hR.c2
 have c3:=hR.c3
 have c4:=hR.c4
 have hlt:=hR.lt
 have hem:=nonempty_list' (b:=s) (by omega)
 have s1:(8:Int)<(s.size:Int):=by omega
 have s2:(s.size:Int)≤512:=by omega
 have s0:0<s.size:=by omega
 have s3:¬ ((s[0].toNat:Int)≤0):=by
  have h1:=strB_at0 s0
  rw [h1] at hz
  omega
 have s4:(0:Int)<(s[0].toNat:Int):=by omega
 have HS:=Lib.hid (show 8<s.size∧s.size≤512∧(strB s).getD 0 0 ≠ 0 from ⟨h8,h9,hz⟩)
 have kb:=fun W=>Qcb (P:=Tryz.prog) 9 26 5 Tryz.underlying9 Tryz.underlying26 Tryz.underlying5 s W
 clear hR hb h8 h9 hz
 go_enter Tryz.func50,Tryz.ntmps50
 go_wp2_with (first
  | (go_at_call 85;refine (frombytes_n s w1 HS.out.1 HS.out.2.1 HS.out.2.2 _ (grownCap_ge w1 s.size 0 5)).mono ?_;rintro ee w2 ⟨v2,A,he,hA,hAb,hb2⟩;subst he;have HA:=Lib.hid hA;have HAb:=Lib.hid hAb;have HB2:=Lib.hid (HB.out.trans (hb2.mono HB.out.size));have d1:=(HR.out.below hb2).c1;clear hA hAb hb2)
  | (go_at_call 87;refine (digits_n A _ _ HA.out (a:=4096) HAb.out (by omega)).mono ?_;unfold DsPost;rintro ee w4 ⟨he,hb4⟩;have hds:=decS_bits (k:=410) ((HAb.out).mono (by omega)) (by omega);have hdg:=decS_dgs A;obtain ⟨ds,hde⟩:∃ ds,decS A=ds:=⟨_,rfl⟩;rw [hde] at he hds hdg;have k1:¬ 9223372036854775807<ds.size:=(by omega);have HDs:=Lib.hid (show Dig ds∧ds.size≤1640∧ds.size ≠ 0 from ⟨hdg.2.1,by omega,hdg.2.2⟩);clear hds hdg hde;subst he;have HB4:=Lib.hid (HB2.out.trans (hb4.mono HB2.out.size));clear hb4))
 exact bodyPost_ret (v:=.tuple #[.string (⟨#[]⟩ ++ ds),.int .i64 0]) (by simp [results,Tryz.results50,go_sem]) rfl ⟨_,rfl,Asc.nil.app HDs.out.1.asc,by simp only [Qbj];have:=HDs.out;omega,by simp only [Qbj];have e0:(⟨#[]⟩:ByteArray).size=0:=(by decide);have:=HDs.out;omega,HB4.out⟩
set_option maxHeartbeats 1000000 in
set_option maxRecDepth 100000 in
theorem numtext_big_n (s:ByteArray) (a:Option Addr) (c:Nat) (w:World) (h8:8<s.size) (h9:s.size≤512) (hz:(strB s).getD 0 0 ≠ 0) :
 Calls Tryz.prog 50 #[.agg #[.int .i64 5,.bool true,.int .u64 0,.string s,.slice a 0 c]] w (NtPost 2000 w):=by
 have hR:=Row5.new w (.int .i64 5) (.bool true) (.int .u64 0) (.string s) (.slice a 0 c)
 have hb:=(Below.refl w.heap.size w).alloc (Nat.le_refl _) (.cells #[.int .i64 5,.bool true,.int .u64 0,.string s,.slice a 0 c] 25)
 obtain ⟨w1,hw1⟩:∃ w1,w.alloc (.cells #[.int .i64 5,.bool true,.int .u64 0,.string s,.slice a 0 c] 25)=w1:=⟨_,rfl⟩
 rw [hw1] at hR hb
 have HB:=Lib.hid hb
 have HR:=Lib.hid hR
 have c0:=hR.c0
 have c1:=hR.c1
 have c2:=hR.c2
 have c3:=hR.c3
 have c4:=hR.c4
 have hlt:=hR.lt
 have hem:=nonempty_list' (b:=s) (by omega)
 have s1:(8:Int)<(s.size:Int):=by omega
 have s2:(s.size:Int)≤512:=by omega
 have s0:0<s.size:=by omega
 have s3:¬ ((s[0].toNat:Int)≤0):=by
  have h1:=strB_at0 s0
  rw [h1] at hz
  omega
 have s4:(0:Int)<(s[0].toNat:Int):=by omega
 have HS:=Lib.hid (show 8<s.size∧s.size≤512∧(strB s).getD 0 0 ≠ 0 from ⟨h8,h9,hz⟩)
 have kb:=fun W=>Qcb (P:=Tryz.prog) 9 26 5 Tryz.underlying9 Tryz.underlying26 Tryz.underlying5 s W
 clear hR hb h8 h9 hz
 go_enter Tryz.func50,Tryz.ntmps50
 go_wp2_with (first
  | (go_at_call 85;refine (frombytes_n s w1 HS.out.1 HS.out.2.1 HS.out.2.2 _ (grownCap_ge w1 s.size 0 5)).mono ?_;rintro ee w2 ⟨v2,A,he,hA,hAb,hb2⟩;subst he;have HA:=Lib.hid hA;have HAb:=Lib.hid hAb;have HB2:=Lib.hid (HB.out.trans (hb2.mono HB.out.size));have d1:=(HR.out.below hb2).c1;clear hA hAb hb2)
  | (go_at_call 86;refine (add_n A 1 _ _ _ _ (HA.out.below (below_two w2 (.cells #[.int .u32 1] 152) (.cells #[.slice (some ⟨w2.heap.size,0,none⟩) 1 1] 150))) ⟨[1],fit_new w2 1 (by omega),val_one 1⟩ (a:=4096) HAb.out (Bt.mono (k:=1) (by unfold Bt;omega) (by omega)) (by omega)).mono ?_;rintro ee w3 ⟨v3,he,hl3,hb3⟩;subst he;have HL3:=Lib.hid hl3;have HB3:=Lib.hid (HB2.out.trans (((below_two w2 (.cells #[.int .u32 1] 152) (.cells #[.slice (some ⟨w2.heap.size,0,none⟩) 1 1] 150)).trans (hb3.mono (by simp;omega))).mono HB2.out.size));clear hl3 hb3)
  | (go_at_call 87;refine (digits_n (A+1) _ w3 HL3.out (a:=4097) (HAb.out.succ) (by omega)).mono ?_;unfold DsPost;rintro ee w4 ⟨he,hb4⟩;have hds:=decS_bits (k:=410) ((HAb.out).succ.mono (by omega)) (by omega);have hdg:=decS_dgs (A+1);obtain ⟨ds,hde⟩:∃ ds,decS (A+1)=ds:=⟨_,rfl⟩;rw [hde] at he hds hdg;have k1:¬ 9223372036854775807<1+ds.size:=(by omega);have HDs:=Lib.hid (show Dig ds∧ds.size≤1640∧ds.size ≠ 0 from ⟨hdg.2.1,by omega,hdg.2.2⟩);clear hds hdg hde;subst he;have HB4:=Lib.hid (HB3.out.trans (hb4.mono HB3.out.size));clear hb4))
 exact bodyPost_ret (v:=.tuple #[.string (⟨#[45]⟩ ++ ds),.int .i64 0]) (by simp [results,Tryz.results50,go_sem]) rfl ⟨_,rfl,asc_m.app HDs.out.1.asc,by simp only [Qbj];have:=HDs.out;omega,by simp only [Qbj];have e0:(⟨#[45]⟩:ByteArray).size=1:=(by decide);have:=HDs.out;omega,HB4.out⟩
end Go.Proofs.YtfmceonbejlhlaaGreatDoor
