/- Contracts of library functions, laid at this program. -/
import Derived.Shelf.Strings.Builder1
import Derived.Shelf.Small.Utf8
import Derived.Shelf.Small.Strs
import Derived.Shelf.Strings.BuilderF
import Derived.Shelf.Strings.BuilderK
import Derived.Shelf.Strings.Search1
import Derived.Shelf.Strings.Search2
import Derived.Shelf.Strings.Search3
import Derived.Shelf.LaysM
import Derived.Shelf.Strings.Shaped
import Derived.Shelf.Strings.Runes
import Derived.Shelf.Strings.IndexAny
import Derived.Shelf.Strings.AsciiSet
import Derived.Shelf.Strings.IndexAnyAll
import Derived.Test.YtnbjogilidfkdaaProg

namespace Go.Proofs
open Go.Shelf
def Try.lays119_ren:Go.Shelf.Ren:=⟨fun|119=>159|n=>n,fun|21=>21|4=>4|n=>n,fun|n=>n⟩
theorem Try.lays119:Go.Proofs.Lays.n119 Try.prog Try.lays119_ren:={
 mixed:=by kernel_rfl
 f119:=Try.func159.trans (congrArg some (by kernel_rfl))
 t4:=Try.underlying4
 a4:=Try.isAgg4
 z4:=Try.sizeOf4
 v4:=Try.zeroValue4
 t21:=Try.underlying21
 a21:=Try.isAgg21
 z21:=Try.sizeOf21
 v21:=Try.zeroValue21 }
theorem Try.utf8_ValidRune (r:Int) (w:World) :
 Calls Try.prog 159 #[.int .i32 r] w fun e w'=>e= .returned (.bool (Lib.validRune r))∧w'=w:=Any.utf8_ValidRune Try.lays119 r w
def Try.lays144_ren:Go.Shelf.Ren:=⟨fun|144=>141|143=>95|219=>139|217=>143|225=>149|224=>150|267=>151|266=>152|314=>158|n=>n,fun|9=>9|4=>4|3=>3|5=>5|46=>128|146=>140|51=>139|n=>n,fun|1=>0|n=>n⟩
theorem Try.lays144:Go.Proofs.Lays.n144 Try.prog Try.lays144_ren:={
 mixed:=by kernel_rfl
 f143:=Try.func95.trans (congrArg some (by kernel_rfl))
 f144:=Try.func141.trans (congrArg some (by kernel_rfl))
 f217:=Try.func143.trans (congrArg some (by kernel_rfl))
 f219:=Try.func139.trans (congrArg some (by kernel_rfl))
 f224:=Try.func150.trans (congrArg some (by kernel_rfl))
 f225:=Try.func149.trans (congrArg some (by kernel_rfl))
 f266:=Try.func152.trans (congrArg some (by kernel_rfl))
 f267:=Try.func151.trans (congrArg some (by kernel_rfl))
 f314:=Try.func158.trans (congrArg some (by kernel_rfl))
 t3:=Try.underlying3
 a3:=Try.isAgg3
 z3:=Try.sizeOf3
 v3:=Try.zeroValue3
 t4:=Try.underlying4
 a4:=Try.isAgg4
 z4:=Try.sizeOf4
 v4:=Try.zeroValue4
 t5:=Try.underlying5
 a5:=Try.isAgg5
 z5:=Try.sizeOf5
 v5:=Try.zeroValue5
 t9:=Try.underlying9
 a9:=Try.isAgg9
 z9:=Try.sizeOf9
 v9:=Try.zeroValue9
 t46:=Try.underlying128
 a46:=Try.isAgg128
 z46:=Try.sizeOf128
 v46:=Try.zeroValue128
 t51:=Try.underlying139
 a51:=Try.isAgg139
 z51:=Try.sizeOf139
 v51:=Try.zeroValue139
 t146:=Try.underlying140
 a146:=Try.isAgg140
 z146:=Try.sizeOf140
 v146:=Try.zeroValue140
 g1:=by kernel_rfl }
open Go.RowKit Go.Lib in
theorem Try.strings_Contains (s sub:ByteArray) (m:Int) (w:World) (hs:s.size<4294967281) (hm:w.cell? ⟨0,0,none⟩=some (.int .i64 m)) :
 Calls Try.prog 141 #[.string s,.string sub] w fun e w'=>e= .returned (.bool (Lib.contains s.data.toList sub.data.toList))∧w'=w:=Any.strings_Contains Try.lays144 s sub m w hs hm
def Try.lays152_ren:Go.Shelf.Ren:=⟨fun|152=>153|137=>117|119=>159|224=>150|225=>149|217=>143|266=>152|n=>n,fun|9=>9|21=>21|3=>3|4=>4|5=>5|0=>0|46=>128|n=>n,fun|n=>n⟩
theorem Try.lays152:Go.Proofs.Lays.n152 Try.prog Try.lays152_ren:={
 mixed:=by kernel_rfl
 f119:=Try.func159.trans (congrArg some (by kernel_rfl))
 f137:=Try.func117.trans (congrArg some (by kernel_rfl))
 f152:=Try.func153.trans (congrArg some (by kernel_rfl))
 f217:=Try.func143.trans (congrArg some (by kernel_rfl))
 f224:=Try.func150.trans (congrArg some (by kernel_rfl))
 f225:=Try.func149.trans (congrArg some (by kernel_rfl))
 f266:=Try.func152.trans (congrArg some (by kernel_rfl))
 t0:=Try.underlying0
 a0:=Try.isAgg0
 z0:=Try.sizeOf0
 v0:=Try.zeroValue0
 t3:=Try.underlying3
 a3:=Try.isAgg3
 z3:=Try.sizeOf3
 v3:=Try.zeroValue3
 t4:=Try.underlying4
 a4:=Try.isAgg4
 z4:=Try.sizeOf4
 v4:=Try.zeroValue4
 t5:=Try.underlying5
 a5:=Try.isAgg5
 z5:=Try.sizeOf5
 v5:=Try.zeroValue5
 t9:=Try.underlying9
 a9:=Try.isAgg9
 z9:=Try.sizeOf9
 v9:=Try.zeroValue9
 t21:=Try.underlying21
 a21:=Try.isAgg21
 z21:=Try.sizeOf21
 v21:=Try.zeroValue21
 t46:=Try.underlying128
 a46:=Try.isAgg128
 z46:=Try.sizeOf128
 v46:=Try.zeroValue128 }
open Go.RowKit Go.Lib in
theorem Try.strings_IndexRune_ascii (s:ByteArray) (r:Int) (w:World) (h0:0≤r) (h1:r<128) :
 Calls Try.prog 153 #[.string s,.int .i32 r] w fun e w'=>e= .returned (.int .i64 (Lib.indexByte s.data.toList r.toNat.toUInt8))∧w'=w:=Any.strings_IndexRune_ascii Try.lays152 s r w h0 h1
def Try.lays226_ren:Go.Shelf.Ren:=⟨fun|226=>154|n=>n,fun|3=>3|4=>4|n=>n,fun|n=>n⟩
theorem Try.lays226:Go.Proofs.Lays.n226 Try.prog Try.lays226_ren:={
 mixed:=by kernel_rfl
 f226:=Try.func154.trans (congrArg some (by kernel_rfl))
 t3:=Try.underlying3
 a3:=Try.isAgg3
 z3:=Try.sizeOf3
 v3:=Try.zeroValue3
 t4:=Try.underlying4
 a4:=Try.isAgg4
 z4:=Try.sizeOf4
 v4:=Try.zeroValue4 }
open Go.RowKit Go.Lib in
theorem Try.strings_shouldUseASCIISet (n:Int) (w:World) :
 Calls Try.prog 154 #[.int .i64 n] w fun e w'=>e= .returned (.bool (decide (8<n)))∧w'=w:=Any.strings_shouldUseASCIISet Try.lays226 n w
def Try.lays153_ren:Go.Shelf.Ren:=⟨fun|153=>144|152=>153|226=>154|227=>155|228=>156|137=>117|119=>159|224=>150|225=>149|217=>143|266=>152|n=>n,fun|9=>9|3=>3|4=>4|5=>5|21=>21|117=>136|116=>135|0=>0|46=>128|124=>143|n=>n,fun|n=>n⟩
theorem Try.lays153:Go.Proofs.Lays.n153 Try.prog Try.lays153_ren:={
 mixed:=by kernel_rfl
 f119:=Try.func159.trans (congrArg some (by kernel_rfl))
 f137:=Try.func117.trans (congrArg some (by kernel_rfl))
 f152:=Try.func153.trans (congrArg some (by kernel_rfl))
 f153:=Try.func144.trans (congrArg some (by kernel_rfl))
 f217:=Try.func143.trans (congrArg some (by kernel_rfl))
 f224:=Try.func150.trans (congrArg some (by kernel_rfl))
 f225:=Try.func149.trans (congrArg some (by kernel_rfl))
 f226:=Try.func154.trans (congrArg some (by kernel_rfl))
 f227:=Try.func155.trans (congrArg some (by kernel_rfl))
 f228:=Try.func156.trans (congrArg some (by kernel_rfl))
 f266:=Try.func152.trans (congrArg some (by kernel_rfl))
 t0:=Try.underlying0
 a0:=Try.isAgg0
 z0:=Try.sizeOf0
 v0:=Try.zeroValue0
 t3:=Try.underlying3
 a3:=Try.isAgg3
 z3:=Try.sizeOf3
 v3:=Try.zeroValue3
 t4:=Try.underlying4
 a4:=Try.isAgg4
 z4:=Try.sizeOf4
 v4:=Try.zeroValue4
 t5:=Try.underlying5
 a5:=Try.isAgg5
 z5:=Try.sizeOf5
 v5:=Try.zeroValue5
 t9:=Try.underlying9
 a9:=Try.isAgg9
 z9:=Try.sizeOf9
 v9:=Try.zeroValue9
 t21:=Try.underlying21
 a21:=Try.isAgg21
 z21:=Try.sizeOf21
 v21:=Try.zeroValue21
 t46:=Try.underlying128
 a46:=Try.isAgg128
 z46:=Try.sizeOf128
 v46:=Try.zeroValue128
 t116:=Try.underlying135
 a116:=Try.isAgg135
 z116:=Try.sizeOf135
 t117:=Try.underlying136
 a117:=Try.isAgg136
 z117:=Try.sizeOf136
 v117:=Try.zeroValue136
 t124:=Try.underlying143
 a124:=Try.isAgg143
 z124:=Try.sizeOf143
 v124:=Try.zeroValue143 }
open Go.RowKit Go.Lib in
theorem Try.strings_IndexAny_long (hv116: ∀ w,(zeroValue 135).run Try.prog w= .ok (.agg (Array.replicate 256 (.bool false))) w) (s chars:ByteArray) (w:World) (h2:2≤chars.size) (h8:8<s.size) (hs:s.size<4294967281) (hcs:chars.size<4294967281) (hascii: ∀ (j:Nat) b,chars.data.toList[j]?=some b→b.toNat<128) :
 Calls Try.prog 144 #[.string s,.string chars] w fun e w'=>e= .returned (.int .i64 (Lib.indexAny s.data.toList chars.data.toList))∧w'=((w.alloc (.cells (Lib.setCells chars.data.toList) 135)).alloc (.cells (Lib.setCells chars.data.toList) 135)):=Any.strings_IndexAny_long Try.lays153 hv116 (by kernel_rfl) s chars w h2 h8 hs hcs hascii
end Go.Proofs
