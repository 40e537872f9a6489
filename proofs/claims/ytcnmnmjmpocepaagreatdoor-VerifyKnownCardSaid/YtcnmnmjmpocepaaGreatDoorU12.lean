
import Derived.Test.YtcnmnmjmpocepaaGreatDoorU00
import Derived.Test.YtcnmnmjmpocepaaGreatDoorU11
import Derived.Shelf.Small.Bits
import Derived.Shelf.Small.Wraps
import Derived.Shelf.Strconv.Itoa0
import Derived.Shelf.Sort.Plain
import Derived.Shelf.Bits.Mul64
import Derived.Shelf.Slices.Equal
import Derived.Ground.Names2Prog
import Derived.Shelf.Slices.CompactI
import Derived.Shelf.Slices.SearchI
import Derived.Shelf.Slices.Cells
import Derived.Shelf.Slices.In.SortNone
import Derived.Shelf.Slices.Empties
import Derived.Shelf.Slices.Empties2
import Derived.Test.YtcnmnmjmpocepaaGreatDoorProg
set_option linter.unusedVariables false
set_option linter.unusedSimpArgs false
set_option linter.unusedSectionVars false
set_option maxRecDepth 100000
set_option maxHeartbeats 16000000
namespace Go.Proofs
open Go.Shelf
def Tryz.Sm:Go.Shelf.Ren:=⟨fun|189=>90|125=>137|257=>136|128=>175|129=>176|294=>166|295=>167|296=>168|297=>169|298=>170|299=>171|216=>172|300=>173|301=>174|328=>192|329=>193|330=>194|331=>195|332=>196|215=>197|343=>202|n=>n,fun|28=>69|3=>3|46=>84|0=>0|51=>223|53=>87|4=>4|183=>270|182=>269|131=>211|5=>5|9=>9|218=>286|222=>290|228=>293|229=>294|n=>n,fun|n=>n⟩
theorem Tryz.Vo:Go.Proofs.Lays.n189 Tryz.prog Tryz.Sm:={
  mixed:=by kernel_rfl
  f125:=Tryz.func137.trans (congrArg some Ac)
  f128:=Tryz.func175.trans (congrArg some Ac)
  f129:=Tryz.func176.trans (congrArg some Ac)
  f189:=Tryz.func90.trans (congrArg some Ac)
  f215:=Tryz.func197.trans (congrArg some Ac)
  f216:=Tryz.func172.trans (congrArg some Ac)
  f257:=Tryz.func136.trans (congrArg some Ac)
  f294:=Tryz.func166.trans (congrArg some Ac)
  f295:=Tryz.func167.trans (congrArg some Ac)
  f296:=Tryz.func168.trans (congrArg some Ac)
  f297:=Tryz.func169.trans (congrArg some Ac)
  f298:=Tryz.func170.trans (congrArg some Ac)
  f299:=Tryz.func171.trans (congrArg some Ac)
  f300:=Tryz.func173.trans (congrArg some Ac)
  f301:=Tryz.func174.trans (congrArg some Ac)
  f328:=Tryz.func192.trans (congrArg some Ac)
  f329:=Tryz.func193.trans (congrArg some Ac)
  f330:=Tryz.func194.trans (congrArg some Ac)
  f331:=Tryz.func195.trans (congrArg some Ac)
  f332:=Tryz.func196.trans (congrArg some Ac)
  f343:=Tryz.func202.trans (congrArg some Ac)
  t0:=Tryz.underlying0
  a0:=Tryz.isAgg0
  z0:=Tryz.sizeOf0
  v0:=Tryz.zeroValue0
  t3:=Tryz.underlying3
  a3:=Tryz.isAgg3
  z3:=Tryz.sizeOf3
  v3:=Tryz.zeroValue3
  t4:=Tryz.underlying4
  a4:=Tryz.isAgg4
  z4:=Tryz.sizeOf4
  v4:=Tryz.zeroValue4
  t5:=Tryz.underlying5
  a5:=Tryz.isAgg5
  z5:=Tryz.sizeOf5
  v5:=Tryz.zeroValue5
  t9:=Tryz.underlying9
  a9:=Tryz.isAgg9
  z9:=Tryz.sizeOf9
  v9:=Tryz.zeroValue9
  t28:=Tryz.underlying69
  a28:=Tryz.isAgg69
  z28:=Tryz.sizeOf69
  v28:=Tryz.zeroValue69
  t46:=Tryz.underlying84
  a46:=Tryz.isAgg84
  z46:=Tryz.sizeOf84
  v46:=Tryz.zeroValue84
  t51:=Tryz.underlying223
  a51:=Tryz.isAgg223
  z51:=Tryz.sizeOf223
  v51:=Tryz.zeroValue223
  t53:=Tryz.underlying87
  a53:=Tryz.isAgg87
  z53:=Tryz.sizeOf87
  v53:=Tryz.zeroValue87
  t131:=Tryz.underlying211
  a131:=Tryz.isAgg211
  z131:=Tryz.sizeOf211
  v131:=Tryz.zeroValue211
  t182:=Tryz.underlying269
  a182:=Tryz.isAgg269
  z182:=Tryz.sizeOf269
  v182:=Tryz.zeroValue269
  t183:=Tryz.underlying270
  a183:=Tryz.isAgg270
  z183:=Tryz.sizeOf270
  v183:=Tryz.zeroValue270
  t218:=Tryz.underlying286
  a218:=Tryz.isAgg286
  z218:=Tryz.sizeOf286
  v218:=Tryz.zeroValue286
  t222:=Tryz.underlying290
  a222:=Tryz.isAgg290
  z222:=Tryz.sizeOf290
  v222:=Tryz.zeroValue290
  t228:=Tryz.underlying293
  a228:=Tryz.isAgg293
  z228:=Tryz.sizeOf293
  v228:=Tryz.zeroValue293
  t229:=Tryz.underlying294
  a229:=Tryz.isAgg294
  z229:=Tryz.sizeOf294
  v229:=Tryz.zeroValue294}
open Go.Sort Go.RowKit in
theorem Tryz.slices_Sort_int(Co off cap:Nat)(zs:List Int)(w:World)(hH:Holds (Value.int .i64) w Co off zs.toArray)(Po:Co<w.heap.size)(GH:zs.length<4611686018427387904):
    Calls Tryz.prog 90 #[.slice (some ⟨Co,off,none⟩) zs.length cap] w fun e w'=>
      e= .returned (.tuple #[])/\∃n os,w'=grow (putRow (Value.int .i64) (Sort.ahead w n) Co off (zs.mergeSort fun x y=>decide (x≤y)).toArray) os:=Any.slices_Sort_int Tryz.Vo Co off cap zs w hH Po GH
def Tryz.Sk:Go.Shelf.Ren:=⟨fun|212=>76|263=>130|264=>131|n=>n,fun|46=>84|51=>223|146=>224|53=>87|148=>226|n=>n,fun|n=>n⟩
theorem Tryz.Z4:Go.Proofs.Lays.n212 Tryz.prog Tryz.Sk:={
  mixed:=by kernel_rfl
  f212:=Tryz.func76.trans (congrArg some Ac)
  f263:=Tryz.func130.trans (congrArg some Ac)
  f264:=Tryz.func131.trans (congrArg some Ac)
  t46:=Tryz.underlying84
  a46:=Tryz.isAgg84
  z46:=Tryz.sizeOf84
  v46:=Tryz.zeroValue84
  t51:=Tryz.underlying223
  a51:=Tryz.isAgg223
  z51:=Tryz.sizeOf223
  v51:=Tryz.zeroValue223
  t53:=Tryz.underlying87
  a53:=Tryz.isAgg87
  z53:=Tryz.sizeOf87
  v53:=Tryz.zeroValue87
  t146:=Tryz.underlying224
  a146:=Tryz.isAgg224
  z146:=Tryz.sizeOf224
  v146:=Tryz.zeroValue224
  t148:=Tryz.underlying226
  a148:=Tryz.isAgg226
  z148:=Tryz.sizeOf226
  v148:=Tryz.zeroValue226}
open Go.RowKit Go.Lib in
theorem Tryz.bits_Mul(x y:Nat)(hx:x<18446744073709551616)(hy:y<18446744073709551616)(w:World):
    Calls Tryz.prog 76 #[.int .u64 x,.int .u64 y] w fun e w'=>e= .returned (.tuple #[.int .u64 ((x*y/18446744073709551616:Nat):Int),.int .u64 ((x*y%18446744073709551616:Nat):Int)])/\w'=w:=Any.bits_Mul Tryz.Z4 x y hx hy w
def Tryz.Sn:Go.Shelf.Ren:=⟨fun|111=>138|n=>n,fun|28=>69|3=>3|4=>4|0=>0|n=>n,fun|n=>n⟩
theorem Tryz.QP:Go.Proofs.Lays.n111 Tryz.prog Tryz.Sn:={
  mixed:=by kernel_rfl
  f111:=Tryz.func138.trans (congrArg some Ac)
  t0:=Tryz.underlying0
  a0:=Tryz.isAgg0
  z0:=Tryz.sizeOf0
  v0:=Tryz.zeroValue0
  t3:=Tryz.underlying3
  a3:=Tryz.isAgg3
  z3:=Tryz.sizeOf3
  v3:=Tryz.zeroValue3
  t4:=Tryz.underlying4
  a4:=Tryz.isAgg4
  z4:=Tryz.sizeOf4
  v4:=Tryz.zeroValue4
  t28:=Tryz.underlying69
  a28:=Tryz.isAgg69
  z28:=Tryz.sizeOf69
  v28:=Tryz.zeroValue69}
open Go.RowKit Go.Lib in
theorem Tryz.slices_Equal_int(b1 o1 n c b2 o2 m d:Nat)(xs ys:List Int)(w:World)(hx:n≤xs.length)(hy:m≤ys.length)(Ol:n≤9223372036854775807)(YD:m≤9223372036854775807)(P5:∀j,j<xs.length->w.cell? ⟨b1,o1+j,none⟩=some (.int .i64 (xs.getD j 0)))(LD:∀j,j<ys.length->w.cell? ⟨b2,o2+j,none⟩=some (.int .i64 (ys.getD j 0))):
    Calls Tryz.prog 138 #[.slice (some ⟨b1,o1,none⟩) n c,.slice (some ⟨b2,o2,none⟩) m d] w fun e w'=>e= .returned (.bool (xs.take n ==ys.take m))/\∃q,w'=w.drewN q:=Any.slices_Equal_int Tryz.QP b1 o1 n c b2 o2 m d xs ys w hx hy Ol YD P5 LD
open Go.RowKit Go.Lib in
theorem Tryz.slices_Equal_int_empty(a1 a2:Option Addr)(c m d:Nat)(w:World)(YD:m≤9223372036854775807):
    Calls Tryz.prog 138 #[.slice a1 0 c,.slice a2 m d] w fun e w'=>e= .returned (.bool (decide (m=0)))/\w'=w:=Any.slices_Equal_int_empty Tryz.QP a1 a2 c m d w YD
def Tryz.Pj:Go.Shelf.Ren:=⟨fun|20=>91|n=>n,fun|22=>69|3=>3|4=>4|0=>0|n=>n,fun|n=>n⟩
theorem Tryz.PT:Go.Proofs.Lays2.n20 Tryz.prog Tryz.Pj:={
  mixed:=by kernel_rfl
  f20:=Tryz.func91.trans (congrArg some Ac)
  t0:=Tryz.underlying0
  a0:=Tryz.isAgg0
  z0:=Tryz.sizeOf0
  v0:=Tryz.zeroValue0
  t3:=Tryz.underlying3
  a3:=Tryz.isAgg3
  z3:=Tryz.sizeOf3
  v3:=Tryz.zeroValue3
  t4:=Tryz.underlying4
  a4:=Tryz.isAgg4
  z4:=Tryz.sizeOf4
  v4:=Tryz.zeroValue4
  t22:=Tryz.underlying69
  a22:=Tryz.isAgg69
  z22:=Tryz.sizeOf69
  v22:=Tryz.zeroValue69
  i3:=by kernel_rfl}
open Go.RowKit Go.Lib Go.Sort in
theorem Tryz.slices_Compact_int(Co off cap:Nat)(zs:List Int)(w:World)(hH:Holds (Value.int .i64) w Co off zs.toArray)(GH:zs.length≤9223372036854775807)(aj:zs.length≤cap):
    Calls Tryz.prog 91 #[.slice (some ⟨Co,off,none⟩) zs.length cap] w fun e w'=>e= .returned (.slice (some ⟨Co,off,none⟩) (Lib.compact zs).length cap)/\∃q,w'=putRow (Value.int .i64) (Sort.ahead w q) Co off (Lib.compact zs++List.replicate (zs.length - (Lib.compact zs).length) 0).toArray:=Any.slices_Compact_int Tryz.PT Co off cap zs w hH GH aj
open Go.RowKit Go.Lib Go.Sort in
theorem Tryz.slices_Compact_int_empty(a:Option Addr)(cap:Nat)(w:World):
    Calls Tryz.prog 91 #[.slice a 0 cap] w fun e w'=>e= .returned (.slice a 0 cap)/\w'=w:=Any.slices_Compact_int_empty Tryz.PT a cap w
def Tryz.Ph:Go.Shelf.Ren:=⟨fun|25=>177|31=>172|32=>198|37=>197|n=>n,fun|22=>69|3=>3|4=>4|40=>84|0=>0|n=>n,fun|n=>n⟩
theorem Tryz.PS:Go.Proofs.Lays2.n25 Tryz.prog Tryz.Ph:={
  mixed:=by kernel_rfl
  f25:=Tryz.func177.trans (congrArg some Ac)
  f31:=Tryz.func172.trans (congrArg some Ac)
  f32:=Tryz.func198.trans (congrArg some Ac)
  f37:=Tryz.func197.trans (congrArg some Ac)
  t0:=Tryz.underlying0
  a0:=Tryz.isAgg0
  z0:=Tryz.sizeOf0
  v0:=Tryz.zeroValue0
  t3:=Tryz.underlying3
  a3:=Tryz.isAgg3
  z3:=Tryz.sizeOf3
  v3:=Tryz.zeroValue3
  t4:=Tryz.underlying4
  a4:=Tryz.isAgg4
  z4:=Tryz.sizeOf4
  v4:=Tryz.zeroValue4
  t22:=Tryz.underlying69
  a22:=Tryz.isAgg69
  z22:=Tryz.sizeOf69
  v22:=Tryz.zeroValue69
  t40:=Tryz.underlying84
  a40:=Tryz.isAgg84
  z40:=Tryz.sizeOf84
  v40:=Tryz.zeroValue84}
open Go.RowKit Go.Lib in
theorem Tryz.slices_BinarySearch_int(b off n c:Nat)(zs:List Int)(x:Int)(w:World)(hz:n≤zs.length)(Ol:n<4611686018427387904)(hc:∀j,j<zs.length->w.cell? ⟨b,off+j,none⟩=some (.int .i64 (zs.getD j 0)))(hs:(zs.take n).Pairwise (· ≤ ·)):
    Calls Tryz.prog 177 #[.slice (some ⟨b,off,none⟩) n c,.int .i64 x] w fun e w'=>e= .returned (.tuple #[.int .i64 ((zs.take n).countP (· <x):Nat),.bool ((zs.take n).contains x)])/\∃q,w'=w.drewN q:=Any.slices_BinarySearch_int Tryz.PS b off n c zs x w hz Ol hc hs
open Go.RowKit Go.Sort in
theorem Tryz.slices_Sort_int_none(p:Option Addr)(cap:Nat)(w:World):
    Calls Tryz.prog 90 #[.slice p 0 cap] w fun e w'=>e= .returned (.tuple #[])/\w'=w:=Any.slices_Sort_int_none Tryz.Vo p cap w
open Go.RowKit Go.Lib in
theorem Tryz.slices_BinarySearch_int_empty(a:Option Addr)(c:Nat)(x:Int)(w:World):
    Calls Tryz.prog 177 #[.slice a 0 c,.int .i64 x] w fun e w'=>e= .returned (.tuple #[.int .i64 0,.bool false])/\w'=w:=Any.slices_BinarySearch_int_empty Tryz.PS a c x w
open Go.RowKit Go.Lib in
theorem Tryz.slices_Equal_int_lens(a1 a2:Option Addr)(n c m d:Nat)(w:World)(dR:n≠m):
    Calls Tryz.prog 138 #[.slice a1 n c,.slice a2 m d] w fun e w'=>e= .returned (.bool false)/\w'=w:=Any.slices_Equal_int_lens Tryz.QP a1 a2 n c m d w dR
end Go.Proofs
