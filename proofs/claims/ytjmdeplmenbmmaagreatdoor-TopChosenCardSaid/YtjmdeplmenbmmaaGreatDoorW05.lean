/- Joined texts: Shelf, SpNil, SortLay, SpSo. -/
import Derived.Shelf.Strings.Builder1
import Derived.Shelf.Strings.Builder2
import Derived.Shelf.Strings.BuilderF
import Derived.Shelf.Strconv.Itoa0
import Derived.Shelf.Strconv.Itoa1
import Derived.Shelf.LaysM
import Derived.Shelf.Strconv.Itoa2
import Derived.Shelf.Strconv.Itoa3
import Derived.Shelf.Strings.Prefix
import Derived.Shelf.Bits.Mul64
import Derived.Shelf.Strings.Repeat
import Derived.Test.YtjmdeplmenbmmaaGreatDoorProg
import Derived.Test.YtjmdeplmenbmmaaGreatDoorW04
import Derived.Shelf.SlSortCmp.WholeK
import Derived.Test.YtjmdeplmenbmmaaGreatDoorW03
namespace Go.Proofs
open Go.Shelf
open Go.RowKit in
def Tryz.lays169_ren:Go.Shelf.Ren:=⟨fun|169=>214|n=>n,fun|70=>244|9=>9|0=>0|72=>247|37=>245|127=>287|3=>3|5=>5|n=>n,fun|n=>n⟩
theorem Tryz.lays169:Go.Proofs.Lays.n169 Tryz.prog Tryz.lays169_ren:={
 mixed:=by kernel_rfl
 f169:=Tryz.func214.trans (congrArg some (by kernel_rfl))
 t0:=Tryz.underlying0
 a0:=Tryz.isAgg0
 z0:=Tryz.sizeOf0
 v0:=Tryz.zeroValue0
 t3:=Tryz.underlying3
 a3:=Tryz.isAgg3
 z3:=Tryz.sizeOf3
 v3:=Tryz.zeroValue3
 t9:=Tryz.underlying9
 a9:=Tryz.isAgg9
 z9:=Tryz.sizeOf9
 v9:=Tryz.zeroValue9
 t37:=Tryz.underlying245
 a37:=Tryz.isAgg245
 z37:=Tryz.sizeOf245
 v37:=Tryz.zeroValue245
 t70:=Tryz.underlying244
 a70:=Tryz.isAgg244
 z70:=Tryz.sizeOf244
 v70:=Tryz.zeroValue244
 t72:=Tryz.underlying247
 a72:=Tryz.isAgg247
 z72:=Tryz.sizeOf247
 v72:=Tryz.zeroValue247
 t127:=Tryz.underlying287
 a127:=Tryz.isAgg287
 z127:=Tryz.sizeOf287
 v127:=Tryz.zeroValue287 }
theorem Tryz.Builder_Extra_169:Builder.Extra Tryz.prog Tryz.lays169_ren:={
 sizeBuilder:=by kernel_rfl
 liesBuilder:=by kernel_rfl
 t5:=Tryz.underlying5
 a5:=Tryz.isAgg5
 z5:=Tryz.sizeOf5
 v5:=Tryz.zeroValue5
 infoByte:=by kernel_rfl
 cellsByte:=by kernel_rfl
 sizeByte:=by kernel_rfl
 neB5:=by decide }
open Go.RowKit in
open Go.RowKit in
open Go.RowKit in
theorem Tryz.Builder_String_any (B b:Nat) (l:List UInt8) (w:World) (h:Lib.IsBuilder 247 5 B b (Lib.byteCells l) w) (hBw:B≤w.heap.size) :
  Calls Tryz.prog 214 #[.pointer (some ⟨b,0,none⟩)] w fun e w'=>e=.returned (.string ⟨l.toArray⟩)∧Below B w w':=Any.Builder_String_any Tryz.lays169 Tryz.Builder_Extra_169 B b l w h hBw
open Go.RowKit in
def Tryz.lays165_ren:Go.Shelf.Ren:=⟨fun|165=>212|240=>258|241=>259|276=>301|277=>302|n=>n,fun|70=>244|3=>3|0=>0|4=>4|9=>9|20=>20|72=>247|37=>245|164=>322|5=>5|n=>n,fun|n=>n⟩
theorem Tryz.lays165:Go.Proofs.Lays.n165 Tryz.prog Tryz.lays165_ren:={
 mixed:=by kernel_rfl
 f165:=Tryz.func212.trans (congrArg some (by kernel_rfl))
 f240:=Tryz.func258.trans (congrArg some (by kernel_rfl))
 f241:=Tryz.func259.trans (congrArg some (by kernel_rfl))
 f276:=Tryz.func301.trans (congrArg some (by kernel_rfl))
 f277:=Tryz.func302.trans (congrArg some (by kernel_rfl))
 t0:=Tryz.underlying0
 a0:=Tryz.isAgg0
 z0:=Tryz.sizeOf0
 v0:=Tryz.zeroValue0
 t3:=Tryz.underlying3
 a3:=Tryz.isAgg3
 z3:=Tryz.sizeOf3
 v3:=Tryz.zeroValue3
 t4:=Tryz.underlying4
 a4:=Tryz.isAgg4
 z4:=Tryz.sizeOf4
 v4:=Tryz.zeroValue4
 t9:=Tryz.underlying9
 a9:=Tryz.isAgg9
 z9:=Tryz.sizeOf9
 v9:=Tryz.zeroValue9
 t20:=Tryz.underlying20
 a20:=Tryz.isAgg20
 z20:=Tryz.sizeOf20
 v20:=Tryz.zeroValue20
 t37:=Tryz.underlying245
 a37:=Tryz.isAgg245
 z37:=Tryz.sizeOf245
 v37:=Tryz.zeroValue245
 t70:=Tryz.underlying244
 a70:=Tryz.isAgg244
 z70:=Tryz.sizeOf244
 v70:=Tryz.zeroValue244
 t72:=Tryz.underlying247
 a72:=Tryz.isAgg247
 z72:=Tryz.sizeOf247
 v72:=Tryz.zeroValue247
 t164:=Tryz.underlying322
 a164:=Tryz.isAgg322
 z164:=Tryz.sizeOf322
 v164:=Tryz.zeroValue322 }
theorem Tryz.Builder_Extra_165:Builder.Extra Tryz.prog Tryz.lays165_ren:={
 sizeBuilder:=by kernel_rfl
 liesBuilder:=by kernel_rfl
 t5:=Tryz.underlying5
 a5:=Tryz.isAgg5
 z5:=Tryz.sizeOf5
 v5:=Tryz.zeroValue5
 infoByte:=by kernel_rfl
 cellsByte:=by kernel_rfl
 sizeByte:=by kernel_rfl
 neB5:=by decide }
open Go.RowKit in
theorem Tryz.Builder_Grow_fresh (B b n:Nat) (w:World) (hB:B≤b) (hbk:w.heap[b]?=some (.cells #[.pointer none,.slice none 0 0] 247 (0,0))) (hBw:B≤w.heap.size) (hn:n≤281474976710656) :
  Calls Tryz.prog 212 #[.pointer (some ⟨b,0,none⟩),.int .i64 n] w fun e w'=>e=.returned (.tuple #[])∧(Lib.BuilderAt 247 5 B b (.pointer (some ⟨b,0,none⟩)) [] w'∧Below B w w'):=Any.Builder_Grow_fresh Tryz.lays165 Tryz.Builder_Extra_165 B b n w hB hbk hBw hn
open Go.RowKit in
open Go.RowKit in
open Go.RowKit in
open Go.RowKit in
def Tryz.lays129_ren:Go.Shelf.Ren:=⟨fun|129=>294|n=>n,fun|53=>257|3=>3|4=>4|46=>152|5=>5|9=>9|n=>n,fun|n=>n⟩
theorem Tryz.lays129:Go.Proofs.Lays.n129 Tryz.prog Tryz.lays129_ren:={
 mixed:=by kernel_rfl
 f129:=Tryz.func294.trans (congrArg some (by kernel_rfl))
 t3:=Tryz.underlying3
 a3:=Tryz.isAgg3
 z3:=Tryz.sizeOf3
 v3:=Tryz.zeroValue3
 t4:=Tryz.underlying4
 a4:=Tryz.isAgg4
 z4:=Tryz.sizeOf4
 v4:=Tryz.zeroValue4
 t5:=Tryz.underlying5
 a5:=Tryz.isAgg5
 z5:=Tryz.sizeOf5
 v5:=Tryz.zeroValue5
 t9:=Tryz.underlying9
 a9:=Tryz.isAgg9
 z9:=Tryz.sizeOf9
 v9:=Tryz.zeroValue9
 t46:=Tryz.underlying152
 a46:=Tryz.isAgg152
 z46:=Tryz.sizeOf152
 v46:=Tryz.zeroValue152
 t53:=Tryz.underlying257
 a53:=Tryz.isAgg257
 z53:=Tryz.sizeOf257
 v53:=Tryz.zeroValue257 }
theorem Tryz.bits_Len64 (x:Int) (w:World) (h0:0≤x) (h1:x≤18446744073709551615) :
  Calls Tryz.prog 294 #[.int .u64 x] w fun e w'=>e=.returned (.int .i64 (Lib.bitLen x.toNat))∧w'=w:=Any.bits_Len64 Tryz.lays129 x w h0 h1
open Go.Lib in
open Go.Lib in
open Go.Lib in
open Go.Lib in
open Go.RowKit Go.Sort Go.Lib in
open Go.RowKit Go.Sort Go.Lib in
open Go.RowKit Go.Sort Go.Lib in
open Go.RowKit Go.Sort Go.Lib in
def Tryz.lays243_ren:Go.Shelf.Ren:=⟨fun|243=>156|246=>215|283=>260|284=>261|285=>262|286=>263|129=>294|317=>303|318=>304|319=>305|320=>306|337=>330|338=>331|n=>n,fun|3=>3|9=>9|2=>2|4=>4|171=>288|0=>0|53=>257|37=>245|5=>5|173=>291|212=>326|51=>319|20=>20|213=>327|46=>152|232=>357|233=>358|n=>n,fun|17=>0|18=>4|19=>5|n=>n⟩
theorem Tryz.lays243:Go.Proofs.Lays.n243 Tryz.prog Tryz.lays243_ren:={
 mixed:=by kernel_rfl
 f129:=Tryz.func294.trans (congrArg some (by kernel_rfl))
 f243:=Tryz.func156.trans (congrArg some (by kernel_rfl))
 f246:=Tryz.func215.trans (congrArg some (by kernel_rfl))
 f283:=Tryz.func260.trans (congrArg some (by kernel_rfl))
 f284:=Tryz.func261.trans (congrArg some (by kernel_rfl))
 f285:=Tryz.func262.trans (congrArg some (by kernel_rfl))
 f286:=Tryz.func263.trans (congrArg some (by kernel_rfl))
 f317:=Tryz.func303.trans (congrArg some (by kernel_rfl))
 f318:=Tryz.func304.trans (congrArg some (by kernel_rfl))
 f319:=Tryz.func305.trans (congrArg some (by kernel_rfl))
 f320:=Tryz.func306.trans (congrArg some (by kernel_rfl))
 f337:=Tryz.func330.trans (congrArg some (by kernel_rfl))
 f338:=Tryz.func331.trans (congrArg some (by kernel_rfl))
 t0:=Tryz.underlying0
 a0:=Tryz.isAgg0
 z0:=Tryz.sizeOf0
 v0:=Tryz.zeroValue0
 t2:=Tryz.underlying2
 a2:=Tryz.isAgg2
 z2:=Tryz.sizeOf2
 v2:=Tryz.zeroValue2
 t3:=Tryz.underlying3
 a3:=Tryz.isAgg3
 z3:=Tryz.sizeOf3
 v3:=Tryz.zeroValue3
 t4:=Tryz.underlying4
 a4:=Tryz.isAgg4
 z4:=Tryz.sizeOf4
 v4:=Tryz.zeroValue4
 t5:=Tryz.underlying5
 a5:=Tryz.isAgg5
 z5:=Tryz.sizeOf5
 v5:=Tryz.zeroValue5
 t9:=Tryz.underlying9
 a9:=Tryz.isAgg9
 z9:=Tryz.sizeOf9
 v9:=Tryz.zeroValue9
 t20:=Tryz.underlying20
 a20:=Tryz.isAgg20
 z20:=Tryz.sizeOf20
 v20:=Tryz.zeroValue20
 t37:=Tryz.underlying245
 a37:=Tryz.isAgg245
 z37:=Tryz.sizeOf245
 v37:=Tryz.zeroValue245
 t46:=Tryz.underlying152
 a46:=Tryz.isAgg152
 z46:=Tryz.sizeOf152
 v46:=Tryz.zeroValue152
 t51:=Tryz.underlying319
 a51:=Tryz.isAgg319
 z51:=Tryz.sizeOf319
 v51:=Tryz.zeroValue319
 t53:=Tryz.underlying257
 a53:=Tryz.isAgg257
 z53:=Tryz.sizeOf257
 v53:=Tryz.zeroValue257
 t171:=Tryz.underlying288
 a171:=Tryz.isAgg288
 z171:=Tryz.sizeOf288
 v171:=Tryz.zeroValue288
 t173:=Tryz.underlying291
 a173:=Tryz.isAgg291
 z173:=Tryz.sizeOf291
 v173:=Tryz.zeroValue291
 t212:=Tryz.underlying326
 a212:=Tryz.isAgg326
 z212:=Tryz.sizeOf326
 v212:=Tryz.zeroValue326
 t213:=Tryz.underlying327
 a213:=Tryz.isAgg327
 z213:=Tryz.sizeOf327
 t232:=Tryz.underlying357
 a232:=Tryz.isAgg357
 z232:=Tryz.sizeOf357
 v232:=Tryz.zeroValue357
 t233:=Tryz.underlying358
 a233:=Tryz.isAgg358
 z233:=Tryz.sizeOf358
 v233:=Tryz.zeroValue358
 g17:=by kernel_rfl
 g18:=by kernel_rfl
 g19:=by kernel_rfl }
open Go.RowKit Go.Sort Go.Lib in
theorem Tryz.internal_strconv_Itoa_small (i:Nat) (hi:i<100) (w:World) :
  Calls Tryz.prog 156 #[.int .i64 i] w fun e w'=>e=.returned (.string ⟨(Lib.decDigits i).toArray⟩)∧w'=w:=Any.internal_strconv_Itoa_small Tryz.lays243 i hi w
def Tryz.laysM171_ren:Go.Shelf.Ren:=⟨fun|171=>76|243=>156|246=>215|283=>260|284=>261|285=>262|286=>263|129=>294|317=>303|318=>304|319=>305|320=>306|337=>330|338=>331|n=>n,fun|3=>3|9=>9|2=>2|4=>4|171=>288|0=>0|53=>257|37=>245|5=>5|173=>291|212=>326|51=>319|20=>20|213=>327|46=>152|232=>357|233=>358|n=>n,fun|17=>0|18=>4|19=>5|n=>n⟩
theorem Tryz.laysM171:Go.Proofs.LaysM.n171 Tryz.prog Tryz.laysM171_ren:={
 mixed:=by kernel_rfl
 f129:=Tryz.func294.trans (congrArg some (by kernel_rfl))
 f171:=Tryz.func76.trans (congrArg some (by kernel_rfl))
 f243:=Tryz.func156.trans (congrArg some (by kernel_rfl))
 f246:=Tryz.func215.trans (congrArg some (by kernel_rfl))
 f283:=Tryz.func260.trans (congrArg some (by kernel_rfl))
 f284:=Tryz.func261.trans (congrArg some (by kernel_rfl))
 f285:=Tryz.func262.trans (congrArg some (by kernel_rfl))
 f286:=Tryz.func263.trans (congrArg some (by kernel_rfl))
 f317:=Tryz.func303.trans (congrArg some (by kernel_rfl))
 f318:=Tryz.func304.trans (congrArg some (by kernel_rfl))
 f319:=Tryz.func305.trans (congrArg some (by kernel_rfl))
 f320:=Tryz.func306.trans (congrArg some (by kernel_rfl))
 f337:=Tryz.func330.trans (congrArg some (by kernel_rfl))
 f338:=Tryz.func331.trans (congrArg some (by kernel_rfl))
 t0:=Tryz.underlying0
 a0:=Tryz.isAgg0
 z0:=Tryz.sizeOf0
 v0:=Tryz.zeroValue0
 t2:=Tryz.underlying2
 a2:=Tryz.isAgg2
 z2:=Tryz.sizeOf2
 v2:=Tryz.zeroValue2
 t3:=Tryz.underlying3
 a3:=Tryz.isAgg3
 z3:=Tryz.sizeOf3
 v3:=Tryz.zeroValue3
 t4:=Tryz.underlying4
 a4:=Tryz.isAgg4
 z4:=Tryz.sizeOf4
 v4:=Tryz.zeroValue4
 t5:=Tryz.underlying5
 a5:=Tryz.isAgg5
 z5:=Tryz.sizeOf5
 v5:=Tryz.zeroValue5
 t9:=Tryz.underlying9
 a9:=Tryz.isAgg9
 z9:=Tryz.sizeOf9
 v9:=Tryz.zeroValue9
 t20:=Tryz.underlying20
 a20:=Tryz.isAgg20
 z20:=Tryz.sizeOf20
 v20:=Tryz.zeroValue20
 t37:=Tryz.underlying245
 a37:=Tryz.isAgg245
 z37:=Tryz.sizeOf245
 v37:=Tryz.zeroValue245
 t46:=Tryz.underlying152
 a46:=Tryz.isAgg152
 z46:=Tryz.sizeOf152
 v46:=Tryz.zeroValue152
 t51:=Tryz.underlying319
 a51:=Tryz.isAgg319
 z51:=Tryz.sizeOf319
 v51:=Tryz.zeroValue319
 t53:=Tryz.underlying257
 a53:=Tryz.isAgg257
 z53:=Tryz.sizeOf257
 v53:=Tryz.zeroValue257
 t171:=Tryz.underlying288
 a171:=Tryz.isAgg288
 z171:=Tryz.sizeOf288
 v171:=Tryz.zeroValue288
 t173:=Tryz.underlying291
 a173:=Tryz.isAgg291
 z173:=Tryz.sizeOf291
 v173:=Tryz.zeroValue291
 t212:=Tryz.underlying326
 a212:=Tryz.isAgg326
 z212:=Tryz.sizeOf326
 v212:=Tryz.zeroValue326
 t213:=Tryz.underlying327
 a213:=Tryz.isAgg327
 z213:=Tryz.sizeOf327
 t232:=Tryz.underlying357
 a232:=Tryz.isAgg357
 z232:=Tryz.sizeOf357
 v232:=Tryz.zeroValue357
 t233:=Tryz.underlying358
 a233:=Tryz.isAgg358
 z233:=Tryz.sizeOf358
 v233:=Tryz.zeroValue358
 g17:=by kernel_rfl
 g18:=by kernel_rfl
 g19:=by kernel_rfl
 i0:=by kernel_rfl
 i2:=by kernel_rfl
 i3:=by kernel_rfl
 i4:=by kernel_rfl
 i5:=by kernel_rfl
 i9:=by kernel_rfl
 i20:=by kernel_rfl
 i37:=by kernel_rfl
 i46:=by kernel_rfl
 i51:=by kernel_rfl
 i53:=by kernel_rfl
 i171:=by kernel_rfl
 i173:=by kernel_rfl
 i212:=by kernel_rfl
 i232:=by kernel_rfl
 i233:=by kernel_rfl
 m17:=by kernel_rfl
 m18:=by kernel_rfl
 m19:=by kernel_rfl }
open Go.RowKit Go.Sort Go.Lib in
theorem Tryz.strconv_Itoa (n:Int) (h0 : -9223372036854775808≤n) (h1:n≤9223372036854775807) (w:World) (htab:Lib.TabIs Tryz.prog w "internal/strconv.uint64pow10" .u64 Lib.pow10Tab) :
  Calls Tryz.prog 76 #[.int .i64 n] w fun e w'=>e=.returned (.string ⟨(Lib.itoa n).toArray⟩)∧∃k os,w'=grow (w.drewN k) os:=Any.strconv_Itoa Tryz.laysM171 n h0 h1 w htab
open Go.RowKit Go.Sort Go.Lib in
open Go.RowKit Go.Lib in
open Go.RowKit Go.Lib in
open Go.RowKit Go.Lib in
open Go.RowKit Go.Lib in
def Tryz.lays105_ren:Go.Shelf.Ren:=⟨fun|105=>307|212=>332|99=>333|165=>212|166=>213|170=>334|169=>214|263=>350|264=>224|206=>351|240=>258|241=>259|276=>301|277=>302|n=>n,fun|9=>9|3=>3|4=>4|20=>20|0=>0|46=>152|109=>343|5=>5|72=>247|76=>251|51=>319|146=>359|53=>257|148=>258|70=>244|37=>245|75=>250|127=>287|164=>322|80=>253|n=>n,fun|n=>n⟩
theorem Tryz.lays105:Go.Proofs.Lays.n105 Tryz.prog Tryz.lays105_ren:={
 mixed:=by kernel_rfl
 f99:=Tryz.func333.trans (congrArg some (by kernel_rfl))
 f105:=Tryz.func307.trans (congrArg some (by kernel_rfl))
 f165:=Tryz.func212.trans (congrArg some (by kernel_rfl))
 f166:=Tryz.func213.trans (congrArg some (by kernel_rfl))
 f169:=Tryz.func214.trans (congrArg some (by kernel_rfl))
 f170:=Tryz.func334.trans (congrArg some (by kernel_rfl))
 f206:=Tryz.func351.trans (congrArg some (by kernel_rfl))
 f212:=Tryz.func332.trans (congrArg some (by kernel_rfl))
 f240:=Tryz.func258.trans (congrArg some (by kernel_rfl))
 f241:=Tryz.func259.trans (congrArg some (by kernel_rfl))
 f263:=Tryz.func350.trans (congrArg some (by kernel_rfl))
 f264:=Tryz.func224.trans (congrArg some (by kernel_rfl))
 f276:=Tryz.func301.trans (congrArg some (by kernel_rfl))
 f277:=Tryz.func302.trans (congrArg some (by kernel_rfl))
 t0:=Tryz.underlying0
 a0:=Tryz.isAgg0
 z0:=Tryz.sizeOf0
 v0:=Tryz.zeroValue0
 t3:=Tryz.underlying3
 a3:=Tryz.isAgg3
 z3:=Tryz.sizeOf3
 v3:=Tryz.zeroValue3
 t4:=Tryz.underlying4
 a4:=Tryz.isAgg4
 z4:=Tryz.sizeOf4
 v4:=Tryz.zeroValue4
 t5:=Tryz.underlying5
 a5:=Tryz.isAgg5
 z5:=Tryz.sizeOf5
 v5:=Tryz.zeroValue5
 t9:=Tryz.underlying9
 a9:=Tryz.isAgg9
 z9:=Tryz.sizeOf9
 v9:=Tryz.zeroValue9
 t20:=Tryz.underlying20
 a20:=Tryz.isAgg20
 z20:=Tryz.sizeOf20
 v20:=Tryz.zeroValue20
 t37:=Tryz.underlying245
 a37:=Tryz.isAgg245
 z37:=Tryz.sizeOf245
 v37:=Tryz.zeroValue245
 t46:=Tryz.underlying152
 a46:=Tryz.isAgg152
 z46:=Tryz.sizeOf152
 v46:=Tryz.zeroValue152
 t51:=Tryz.underlying319
 a51:=Tryz.isAgg319
 z51:=Tryz.sizeOf319
 v51:=Tryz.zeroValue319
 t53:=Tryz.underlying257
 a53:=Tryz.isAgg257
 z53:=Tryz.sizeOf257
 v53:=Tryz.zeroValue257
 t70:=Tryz.underlying244
 a70:=Tryz.isAgg244
 z70:=Tryz.sizeOf244
 v70:=Tryz.zeroValue244
 t72:=Tryz.underlying247
 a72:=Tryz.isAgg247
 z72:=Tryz.sizeOf247
 v72:=Tryz.zeroValue247
 t75:=Tryz.underlying250
 a75:=Tryz.isAgg250
 z75:=Tryz.sizeOf250
 v75:=Tryz.zeroValue250
 t76:=Tryz.underlying251
 a76:=Tryz.isAgg251
 z76:=Tryz.sizeOf251
 v76:=Tryz.zeroValue251
 t109:=Tryz.underlying343
 a109:=Tryz.isAgg343
 z109:=Tryz.sizeOf343
 v109:=Tryz.zeroValue343
 t127:=Tryz.underlying287
 a127:=Tryz.isAgg287
 z127:=Tryz.sizeOf287
 v127:=Tryz.zeroValue287
 t146:=Tryz.underlying359
 a146:=Tryz.isAgg359
 z146:=Tryz.sizeOf359
 v146:=Tryz.zeroValue359
 t148:=Tryz.underlying258
 a148:=Tryz.isAgg258
 z148:=Tryz.sizeOf258
 v148:=Tryz.zeroValue258
 t164:=Tryz.underlying322
 a164:=Tryz.isAgg322
 z164:=Tryz.sizeOf322
 v164:=Tryz.zeroValue322 }
theorem Tryz.Builder_Extra_105:Builder.Extra Tryz.prog Tryz.lays105_ren:={
 sizeBuilder:=by kernel_rfl
 liesBuilder:=by kernel_rfl
 t5:=Tryz.underlying5
 a5:=Tryz.isAgg5
 z5:=Tryz.sizeOf5
 v5:=Tryz.zeroValue5
 infoByte:=by kernel_rfl
 cellsByte:=by kernel_rfl
 sizeByte:=by kernel_rfl
 neB5:=by decide }
open Go.RowKit Go.Lib in
open Go.RowKit Go.Lib in
open Go.RowKit Go.Lib in
open Go.RowKit Go.Lib in
open Go.RowKit Go.Lib in
open Go.RowKit Go.Lib in
open Go.RowKit Go.Lib in
theorem Tryz.strings_Repeat (s:ByteArray) (c:Nat) (w:World) (hc:c≤9223372036854775807) (hlen:s.size*c≤140737488355328) :
  Calls Tryz.prog 307 #[.string s,.int .i64 c] w fun e w'=>e=.returned (.string ⟨(Lib.repeatL s.data.toList c).toArray⟩)∧Below w.heap.size w w':=Any.strings_Repeat Tryz.lays105 Tryz.Builder_Extra_105 s c w hc hlen
end Go.Proofs
set_option linter.unusedVariables false
namespace Go.Proofs.YtjmdeplmenbmmaaGreatDoor
open Go.RowKit Go.Sort
set_option maxHeartbeats 1000000 in
theorem len0_world (W:World):Calls Tryz.prog 250 #[.int .u64 0] W fun e w'=>e=.returned (.int .i64 0)∧w'=W:=by
 go_enter Tryz.func250,Tryz.ntmps250
 go_wp2_with (go_at_call 294;refine(Tryz.bits_Len64 0 _ (by decide) (by decide)).mono ?_;rintro e w' ⟨rfl,rfl⟩)
 go_ret
 exact⟨rfl,rfl⟩
set_option maxHeartbeats 1000000 in
theorem ins0_world (p:Option Addr) (cap:Nat) (fv:Value) (W:World):Calls Tryz.prog 285 #[.slice p 0 cap,.int .i64 0,.int .i64 0,fv] W fun e w'=>e=.returned (.tuple #[])∧w'=W:=by
 go_enter Tryz.func285,Tryz.ntmps285
 go_wp2
 refine wp_loop_rounds 1 ?_
 rw[rounds_succ]
 go_wp2
 go_end0
 exact⟨rfl,rfl⟩
set_option maxRecDepth 100000 in
set_option maxHeartbeats 2000000 in
theorem pdq0_world (p:Option Addr) (cap:Nat) (lim:Int) (fv:Value) (W:World):Calls Tryz.prog 249 #[.slice p 0 cap,.int .i64 0,.int .i64 0,.int .i64 lim,fv] W fun e w'=>e=.returned (.tuple #[])∧w'=W:=by
 go_enter Tryz.func249,Tryz.ntmps249
 go_wp2
 refine wp_loop_rounds 1 ?_
 rw[rounds_succ]
 go_wp2_with (go_at_call 285;refine(ins0_world _ _ _ _).mono ?_;rintro e w' ⟨rfl,rfl⟩)
 (try simp only[Exit.inBlock,Exit.then]);refine bodyPost_ret (results_none rfl _ _ _) rfl ?_
 exact⟨rfl,rfl⟩
set_option maxHeartbeats 1000000 in
theorem sort0_world (p:Option Addr) (cap:Nat) (fv:Value) (W:World):Calls Tryz.prog 206 #[.slice p 0 cap,fv] W fun e w'=>e=.returned (.tuple #[])∧w'=W:=by
 go_enter Tryz.func206,Tryz.ntmps206
 go_wp2_with (first|(go_at_call 250;refine(len0_world _).mono ?_;rintro e w' ⟨rfl,rfl⟩)|(go_at_call 249;refine(pdq0_world _ _ _ _ _).mono ?_;rintro e w' ⟨rfl,rfl⟩))
 go_end0
 exact⟨rfl,rfl⟩
end Go.Proofs.YtjmdeplmenbmmaaGreatDoor
namespace Go.Proofs
open Go.Shelf
def Tryz.sortFr_ren:Go.Shelf.Ren:=⟨fun|6=>206|15=>250|14=>249|28=>293|29=>294|20=>285|21=>286|22=>287|23=>288|24=>289|25=>290|26=>291|27=>292|46=>323|47=>324|48=>325|49=>326|50=>327|57=>341|n=>n,fun|22=>188|24=>235|25=>240|3=>3|39=>152|0=>0|53=>319|55=>257|4=>4|46=>313|45=>312|50=>215|5=>5|9=>9|66=>335|70=>339|76=>350|77=>202|n=>n,fun|n=>n⟩
theorem Tryz.sortFr:Go.Proofs.SlLaysF0.n6 Tryz.prog Tryz.sortFr_ren:={
 mixed:=by kernel_rfl
 f6:=⟨Tryz.f206.name,by decide,Tryz.func206.trans (congrArg some (by kernel_rfl))⟩
 f14:=⟨Tryz.f249.name,by decide,Tryz.func249.trans (congrArg some (by kernel_rfl))⟩
 f15:=Tryz.func250.trans (congrArg some (by kernel_rfl))
 f20:=⟨Tryz.f285.name,by decide,Tryz.func285.trans (congrArg some (by kernel_rfl))⟩
 f21:=⟨Tryz.f286.name,by decide,Tryz.func286.trans (congrArg some (by kernel_rfl))⟩
 f22:=⟨Tryz.f287.name,by decide,Tryz.func287.trans (congrArg some (by kernel_rfl))⟩
 f23:=⟨Tryz.f288.name,by decide,Tryz.func288.trans (congrArg some (by kernel_rfl))⟩
 f24:=⟨Tryz.f289.name,by decide,Tryz.func289.trans (congrArg some (by kernel_rfl))⟩
 f25:=⟨Tryz.f290.name,by decide,Tryz.func290.trans (congrArg some (by kernel_rfl))⟩
 f26:=⟨Tryz.f291.name,by decide,Tryz.func291.trans (congrArg some (by kernel_rfl))⟩
 f27:=⟨Tryz.f292.name,by decide,Tryz.func292.trans (congrArg some (by kernel_rfl))⟩
 f28:=Tryz.func293.trans (congrArg some (by kernel_rfl))
 f29:=Tryz.func294.trans (congrArg some (by kernel_rfl))
 f46:=⟨Tryz.f323.name,by decide,Tryz.func323.trans (congrArg some (by kernel_rfl))⟩
 f47:=Tryz.func324.trans (congrArg some (by kernel_rfl))
 f48:=Tryz.func325.trans (congrArg some (by kernel_rfl))
 f49:=⟨Tryz.f326.name,by decide,Tryz.func326.trans (congrArg some (by kernel_rfl))⟩
 f50:=⟨Tryz.f327.name,by decide,Tryz.func327.trans (congrArg some (by kernel_rfl))⟩
 f57:=⟨Tryz.f341.name,by decide,Tryz.func341.trans (congrArg some (by kernel_rfl))⟩
 t0:=Tryz.underlying0
 a0:=Tryz.isAgg0
 z0:=Tryz.sizeOf0
 v0:=Tryz.zeroValue0
 t3:=Tryz.underlying3
 a3:=Tryz.isAgg3
 z3:=Tryz.sizeOf3
 v3:=Tryz.zeroValue3
 t4:=Tryz.underlying4
 a4:=Tryz.isAgg4
 z4:=Tryz.sizeOf4
 v4:=Tryz.zeroValue4
 t5:=Tryz.underlying5
 a5:=Tryz.isAgg5
 z5:=Tryz.sizeOf5
 v5:=Tryz.zeroValue5
 t9:=Tryz.underlying9
 a9:=Tryz.isAgg9
 z9:=Tryz.sizeOf9
 v9:=Tryz.zeroValue9
 t22:=Tryz.underlying188
 a22:=Tryz.isAgg188
 z22:=Tryz.sizeOf188
 v22:=Tryz.zeroValue188
 t25:=Tryz.underlying240
 a25:=Tryz.isAgg240
 z25:=Tryz.sizeOf240
 v25:=Tryz.zeroValue240
 t39:=Tryz.underlying152
 a39:=Tryz.isAgg152
 z39:=Tryz.sizeOf152
 v39:=Tryz.zeroValue152
 t45:=Tryz.underlying312
 a45:=Tryz.isAgg312
 z45:=Tryz.sizeOf312
 v45:=Tryz.zeroValue312
 t46:=Tryz.underlying313
 a46:=Tryz.isAgg313
 z46:=Tryz.sizeOf313
 v46:=Tryz.zeroValue313
 t50:=Tryz.underlying215
 a50:=Tryz.isAgg215
 z50:=Tryz.sizeOf215
 v50:=Tryz.zeroValue215
 t53:=Tryz.underlying319
 a53:=Tryz.isAgg319
 z53:=Tryz.sizeOf319
 v53:=Tryz.zeroValue319
 t55:=Tryz.underlying257
 a55:=Tryz.isAgg257
 z55:=Tryz.sizeOf257
 v55:=Tryz.zeroValue257
 t66:=Tryz.underlying335
 a66:=Tryz.isAgg335
 z66:=Tryz.sizeOf335
 v66:=Tryz.zeroValue335
 t70:=Tryz.underlying339
 a70:=Tryz.isAgg339
 z70:=Tryz.sizeOf339
 v70:=Tryz.zeroValue339
 t76:=Tryz.underlying350
 a76:=Tryz.isAgg350
 z76:=Tryz.sizeOf350
 v76:=Tryz.zeroValue350
 t77:=Tryz.underlying202
 a77:=Tryz.isAgg202
 z77:=Tryz.sizeOf202
 v77:=Tryz.zeroValue202 }
end Go.Proofs
set_option linter.unusedVariables false
namespace Go.Proofs.YtjmdeplmenbmmaaGreatDoor
open Go.RowKit Go.Shelf Go.Lib Go.Sort
def cN2 (x:Nat×Nat):List Value:=[.int .i64 (x.1:Int),.int .i64 (x.2:Int)]
def cfS (x y:Nat×Nat):Int:=cfI x.1 x.2 y.1 y.2
theorem cfS_lt {x y:Nat×Nat} : cfS x y<0↔x.1<y.1∨x.1=y.1∧y.2<x.2:=by
 unfold cfS cfI orI cmpS3
 repeat' split
 all_goals omega
theorem spanLays (blk off size:Nat) (w:World):CmpLays Tryz.prog 207 #[] cN2 2 cfS blk off size w:=fun _ _ _ _ x y=>cover1_world x.1 x.2 y.1 y.2 _
theorem swoS:SWO (ltOf cfS) where
 irrefl x:=decide_eq_false fun h=>by rcases cfS_lt.1 h with h|h<;>omega
 trans x y z h1 h2:=by
  have k1:=cfS_lt.1 (of_decide_eq_true h1)
  have k2:=cfS_lt.1 (of_decide_eq_true h2)
  exact decide_eq_true (cfS_lt.2 (by omega))
 ntrans x y z h1 h2:=by
  have k1:¬cfS x y<0:=of_decide_eq_false h1
  have k2:¬cfS y z<0:=of_decide_eq_false h2
  rw[cfS_lt] at k1 k2
  exact decide_eq_false fun h=>by have:=cfS_lt.1 h;omega
set_option maxHeartbeats 1000000 in
theorem sortS_world (blk off cap:Nat) (d:Array (Nat×Nat)) (w:World) (hH:HoldsK cN2 2 w blk off d) (hblk:blk<w.heap.size) (hsz:d.size≤1000000) :
  Calls Tryz.prog 206 #[.slice (some ⟨blk,off,none⟩) d.size cap,.func (.func 207) #[] #[]] w fun e w'=>e=.returned (.tuple #[])∧∃d' n os,PermIn 0 d.size d d'∧SortedIn (ltOf cfS) 0 d.size d'∧w'=sortWorldK cN2 2 w blk off n d' os:=by
 have eg:∀args w,(callFunc 207 args).run Tryz.prog w=.ok (.enter 207 args) w:=enters_of Tryz.func207 (by kernel_rfl) rfl
 exact AnyQ.slices_SortFunc Tryz.sortFr 2 Tryz.isAgg235 Tryz.sizeOf235 cN2 (fun _=>rfl) (fun x v hv=>by simp[cN2] at hv;rcases hv with rfl|rfl<;>rfl) cfS swoS 207 #[] blk off cap d w eg (spanLays blk off d.size w) hH hblk (by omega)
theorem flatS_get:∀(zs:List (Nat×Nat)) (t:Nat),(zs.flatMap cN2)[t]?=(zs[t/2]?).bind fun x=>(cN2 x)[t%2]?
 |[],t=>by simp
 |x::r,0=>rfl
 |x::r,1=>rfl
 |x::r,t+2=>by
  have:=flatS_get r t
  rw[show (t+2)/2=t/2+1 by omega,show (t+2)%2=t%2 by omega]
  show ([Value.int .i64 (x.1:Int),.int .i64 (x.2:Int)]++r.flatMap cN2)[t+2]?=_
  rw[List.getElem?_append_right (by simp)]
  exact this
theorem flatS_len:∀zs:List (Nat×Nat),(zs.flatMap cN2).length=zs.length*2
 |[]=>rfl
 |x::r=>by
  rw[List.flatMap_cons,List.length_append,flatS_len r,List.length_cons]
  show 2+_=_
  omega
theorem flatKS_list (zs:List (Nat×Nat)):(flatK cN2 2 zs.toArray).toList=zs.flatMap cN2:=by
 apply List.ext_getElem?
 intro t
 by_cases ht:t<zs.length*2
 ·have hs:t<(flatK cN2 2 zs.toArray).size:=by rw[size_flatK];simpa using ht
  have h2:t/2<zs.length:=by omega
  rw[flatS_get,List.getElem?_eq_getElem h2,Array.getElem?_toList,Array.getElem?_eq_getElem hs]
  have hg:=get_flatK cN2 2 zs.toArray t (by simpa using ht)
  rw[getElem!_pos _ t hs] at hg
  rw[hg]
  have hz:zs.toArray[t/2]! = zs[t/2]:=by rw[getElem!_pos _ (t/2) (by simpa using h2)];simp
  rw[hz]
  show some (cN2 zs[t/2])[t%2]! = (cN2 zs[t/2])[t%2]?
  rcases(show t%2=0∨t%2=1 by omega) with e|e<;>rw[e]<;>rfl
 ·have z1:(flatK cN2 2 zs.toArray).toList.length=zs.length*2:=by rw[Array.length_toList,size_flatK];simp
  rw[List.getElem?_eq_none (l:=(flatK cN2 2 zs.toArray).toList) (by omega),List.getElem?_eq_none (l:=zs.flatMap cN2) (by rw[flatS_len];omega)]
theorem holdsS_of {w:World} {g:Nat} {cur:Array Value} {e:TypeId} {zs:List (Nat×Nat)} (hb:w.heap[g]?=some (.cells cur e (0,0))) (ht:cur.toList.take (zs.length*2)=zs.flatMap cN2):HoldsK cN2 2 w g 0 zs.toArray:=by
 intro j hj
 have hj':j<zs.length*2:=by rw[size_flatK] at hj;simpa using hj
 refine⟨?_,by simp[World.frozen?,hb]⟩
 have h1:cur[j]?=some (flatK cN2 2 zs.toArray)[j]!:=by
  have e1:(cur.toList.take (zs.length*2))[j]?=cur[j]?:=by rw[List.getElem?_take_of_lt hj',Array.getElem?_toList]
  rw[←e1,ht,←flatKS_list,Array.getElem?_toList,Array.getElem?_eq_getElem hj,getElem!_pos _ j hj]
 show (match w.heap[g]? with|some (.cells c _ _)=>if (none:Option Nat).isSome then none else c[0+j]?|_=>none)=_
 rw[hb,Nat.zero_add]
 exact h1
theorem heap_sortedS {w:World} {g n:Nat} {os:Array Obj} {cur:Array Value} {e:TypeId} {fr:Nat×Nat} (d:Array Value) (hb:w.heap[g]?=some (.cells cur e fr)) :
  (grow (putRow id (Sort.ahead w n) g 0 d) os).heap[g]?=some (.cells (putCells id 0 d cur) e fr):=by
 have hg:g<w.heap.size:=(Array.getElem?_eq_some_iff.1 hb).1
 rw[heap_grow_old _ _ (by simpa using hg)]
 simp[putRow,mapBlock,Sort.ahead,Array.getElem?_modify,hb,onCells]
theorem grownBy_sortedS {w:World} {g n:Nat} {os:Array Obj} (d:Array Value):w.grownBy (grow (putRow id (Sort.ahead w n) g 0 d) os) (some g):=by
 refine⟨rfl,rfl,rfl,by simp,fun k hk hne=>?_⟩
 rw[heap_grow_old _ _ (by simpa using hk)]
 have:g≠k:=fun e=>hne (by rw[e])
 simp[putRow,mapBlock,Sort.ahead,Array.getElem?_modify,this]
theorem take_putS (cur F:Array Value) (h:F.size≤cur.size):(putCells id 0 F cur).toList.take F.size=F.toList:=by
 apply List.ext_getElem?
 intro j
 by_cases hj:j<F.size
 ·rw[List.getElem?_take_of_lt hj,Array.getElem?_toList,Array.getElem?_toList]
  simp[putCells,hj,show j<cur.size by omega]
 ·rw[List.getElem?_take_eq_none (by omega),List.getElem?_eq_none (by simp;omega)]
theorem ownsRow_sortedS {w:World} {base g cap n:Nat} {e:TypeId} {os:Array Obj} {cur:Array Value} {m:Nat} {ds:List (Nat×Nat)} (hl:ds.length=m) (hbase:base≤g) (hb:w.heap[g]?=some (.cells cur e (0,0)))
  (h1:m≤cap) (h2:cap≤maxLen) (h3:cur.size=cap*2) :
  (sortWorldK cN2 2 w g 0 n ds.toArray os).ownsRow base e 2 (.slice (some ⟨g,0,none⟩) m cap) m (ds.flatMap cN2):=by
 have hsz:(flatK cN2 2 ds.toArray).size=m*2:=by rw[size_flatK];simp[hl]
 refine⟨by rw[flatS_len,hl],.inr ⟨g,cap,_,rfl,hbase,heap_sortedS _ hb,h1,h2,by simp[putCells,h3],?_⟩⟩
 rw[←hsz,take_putS _ _ (by omega),flatKS_list]
theorem permS_of {zs ds:List (Nat×Nat)} (hl:ds.length=zs.length) (h:PermIn 0 zs.length zs.toArray ds.toArray):ds.Perm zs:=by
 have:=h.2.2
 rw[show zs.length=zs.toArray.size by simp,Array.extract_size] at this
 rw[show zs.toArray.size=ds.toArray.size by simp[hl],Array.extract_size] at this
 simpa using this
theorem pairsS_of {ds:List (Nat×Nat)} (h:SortedIn (ltOf cfS) 0 ds.length ds.toArray):ds.Pairwise RR.spanLe:=by
 rw[List.pairwise_iff_getElem]
 intro i j hi hj hij
 have:=h i j (Nat.zero_le _) hij hj
 rw[getElem!_pos _ i (by simpa using hi),getElem!_pos _ j (by simpa using hj)] at this
 have h2:¬cfS ds[j] ds[i]<0:=of_decide_eq_false this
 rw[cfS_lt] at h2
 unfold RR.spanLe
 omega
theorem spanSort_c (z:Sl) (S:List (Nat×Nat)) (hn:S.length≤1000000):ContU Tryz.prog (Hl.rw z.v 235 cN2 2 S) 206 [z.v,.func (.func 207) #[] #[]] (fun S':List (Nat×Nat)=>S'.Perm S∧S'.Pairwise RR.spanLe) (fun _=>.tuple #[]) (fun S'=>[Hl.rw z.v 235 cN2 2 S']):=fun w0 HR w hs=>by
 have hown:w.ownsRow w0.heap.size 235 2 z.v S.length (S.flatMap cN2):=hs.all _ List.mem_cons_self
 obtain⟨zv,hzv⟩:∃v,v=z.v:=⟨_,rfl⟩
 rw[←hzv] at hown hs ⊢
 have h0:S=[]→∃p cap,zv=.slice p 0 cap:=fun hS=>by
  rcases hown.2 with ⟨hv,_⟩|⟨g,cap,cur,hv,_⟩
  ·exact⟨_,_,hv⟩
  ·rw[hS] at hv;exact⟨_,_,hv⟩
 by_cases hS:S=[]
 ·obtain⟨p,cap,hv⟩:=h0 hS
  subst hS
  rw[hv] at hs ⊢
  refine(sort0_world p cap _ w).mono ?_
  rintro e w' ⟨rfl,rfl⟩
  exact⟨[],⟨List.Perm.refl _,List.Pairwise.nil⟩,rfl,hs⟩
 ·rcases hown.2 with ⟨hv,h1⟩|⟨g,cap,cur,hv,hb,hg,hnc,hcm,hcs,htake⟩
  ·exact absurd (List.eq_nil_of_length_eq_zero h1) hS
  have hsz:S.toArray.size=S.length:=by simp
  have hblk:g<w.heap.size:=(Array.getElem?_eq_some_iff.1 hg).1
  rw[hv] at hs ⊢
  have hc:=sortS_world g 0 cap S.toArray w (holdsS_of hg htake) hblk (by rw[hsz];exact hn)
  rw[hsz] at hc
  refine hc.mono ?_
  rintro e w' ⟨rfl,d',n,os,hp,hso,rfl⟩
  obtain⟨ds,rfl⟩:∃ds:List (Nat×Nat),d'=ds.toArray:=⟨d'.toList,by simp⟩
  have hl:ds.length=S.length:=by have:=hp.1;simpa using this
  have sp:∀T:List (Nat×Nat),T≠[]→(Hl.rw (Value.slice (some ⟨g,0,none⟩) S.length cap) 235 cN2 2 T).spot=some g:=fun T hT=>by
   cases T with
   |nil=>exact absurd rfl hT
   |cons a r=>rfl
  refine⟨ds,⟨permS_of hl hp,pairsS_of (by rw[hl];exact hso)⟩,rfl,?_⟩
  refine St.turn hs (Upd.here _) rfl ?_ ?_ ?_
  ·rw[sp S hS]
   exact grownBy_sortedS _
  ·show World.ownsRow _ _ _ _ _ _ _
   rw[hl]
   exact ownsRow_sortedS hl hb hg hnc hcm hcs
  ·intro b hb2
   left
   rw[sp S hS]
   have hd:ds≠[]:=fun h=>hS (List.eq_nil_of_length_eq_zero (by rw[←hl,h];rfl))
   rw[sp ds hd] at hb2
   exact hb2
end Go.Proofs.YtjmdeplmenbmmaaGreatDoor
