/- What the program's tables say of its types. -/
import Derived.Test.YtcagfbgplpokkaaF12
import Derived.Test.YtcagfbgplpokkaaRows
namespace Go.Proofs.Ytcagfbgplpokkaa
set_option maxRecDepth 100000
set_option linter.unusedVariables false
set_option linter.unusedSimpArgs false
open Go.RowKit

theorem mixed : Try.prog.follows .mixedOrders = true := by kernel_rfl
@[go_sem] theorem ty_ag3 : aggOf Try.prog 3 = some none := by kernel_rfl
@[go_sem] theorem ty_ze3 : zeroOf Try.prog 3 = some [.int .i64 0] := by kernel_rfl
@[go_sem] theorem ty_kd3 : kindOf Try.prog 3 = some (.inl .i64) := by kernel_rfl
@[go_sem] theorem ty_ag4 : aggOf Try.prog 4 = some none := by kernel_rfl
@[go_sem] theorem ty_ze4 : zeroOf Try.prog 4 = some [.bool false] := by kernel_rfl
@[go_sem] theorem ty_un4 : Try.prog.underlying 4 = some .bool := by kernel_rfl
@[go_sem] theorem ty_ag5 : aggOf Try.prog 5 = some none := by kernel_rfl
@[go_sem] theorem ty_ze5 : zeroOf Try.prog 5 = some [.int .u8 0] := by kernel_rfl
@[go_sem] theorem ty_kd5 : kindOf Try.prog 5 = some (.inl .u8) := by kernel_rfl
@[go_sem] theorem ty_ag9 : aggOf Try.prog 9 = some none := by kernel_rfl
@[go_sem] theorem ty_ze9 : zeroOf Try.prog 9 = some [.str []] := by kernel_rfl
@[go_sem] theorem ty_kd9 : kindOf Try.prog 9 = some (.inr .str) := by kernel_rfl
@[go_sem] theorem ty_un9 : Try.prog.underlying 9 = some .string := by kernel_rfl
@[go_sem] theorem ty_el22 : elOf Try.prog 22 = some (86, 2, 24) := by kernel_rfl
@[go_sem] theorem ty_ag22 : aggOf Try.prog 22 = some none := by kernel_rfl
@[go_sem] theorem ty_el24 : elOf Try.prog 24 = some (9, 1, 16) := by kernel_rfl
@[go_sem] theorem ty_ag24 : aggOf Try.prog 24 = some none := by kernel_rfl
@[go_sem] theorem ty_el26 : elOf Try.prog 26 = some (87, 2, 24) := by kernel_rfl
@[go_sem] theorem ty_ag26 : aggOf Try.prog 26 = some none := by kernel_rfl
@[go_sem] theorem ty_ag34 : aggOf Try.prog 34 = some (some 2) := by kernel_rfl
@[go_sem] theorem ty_ze34 : zeroOf Try.prog 34 = some [.str [], .str []] := by kernel_rfl
@[go_sem] theorem ty_pl34 : plOf Try.prog 34 = some [(0, 1), (1, 1)] := by kernel_rfl
@[go_sem] theorem ty_fl34_0 : fldOf Try.prog 34 0 = some (0, true) := by kernel_rfl
@[go_sem] theorem ty_fl34_1 : fldOf Try.prog 34 1 = some (1, true) := by kernel_rfl
@[go_sem] theorem ty_ek34 : eksOf Try.prog 34 = some [.s, .s] := by kernel_rfl
@[go_sem] theorem ty_ag37 : aggOf Try.prog 37 = some (some 2) := by kernel_rfl
@[go_sem] theorem ty_ze37 : zeroOf Try.prog 37 = some [.str [], .str []] := by kernel_rfl
@[go_sem] theorem ty_pl37 : plOf Try.prog 37 = some [(0, 1), (1, 1)] := by kernel_rfl
@[go_sem] theorem ty_fl37_0 : fldOf Try.prog 37 0 = some (0, true) := by kernel_rfl
@[go_sem] theorem ty_fl37_1 : fldOf Try.prog 37 1 = some (1, true) := by kernel_rfl
@[go_sem] theorem ty_ek37 : eksOf Try.prog 37 = some [.s, .s] := by kernel_rfl
@[go_sem] theorem ty_el40 : elOf Try.prog 40 = some (5, 1, 1) := by kernel_rfl
@[go_sem] theorem ty_ag40 : aggOf Try.prog 40 = some none := by kernel_rfl
@[go_sem] theorem ty_kd40 : kindOf Try.prog 40 = some (.inr .bytes) := by kernel_rfl
@[go_sem] theorem ty_ag47 : aggOf Try.prog 47 = some (some 4) := by kernel_rfl
@[go_sem] theorem ty_ze47 : zeroOf Try.prog 47 = some [.int .i64 0, .str [], .str [], .bool false] := by kernel_rfl
@[go_sem] theorem ty_pl47 : plOf Try.prog 47 = some [(0, 1), (1, 1), (2, 1), (3, 1)] := by kernel_rfl
@[go_sem] theorem ty_fl47_0 : fldOf Try.prog 47 0 = some (0, true) := by kernel_rfl
@[go_sem] theorem ty_fl47_1 : fldOf Try.prog 47 1 = some (1, true) := by kernel_rfl
@[go_sem] theorem ty_fl47_2 : fldOf Try.prog 47 2 = some (2, true) := by kernel_rfl
@[go_sem] theorem ty_fl47_3 : fldOf Try.prog 47 3 = some (3, true) := by kernel_rfl
@[go_sem] theorem ty_ek47 : eksOf Try.prog 47 = some [.i, .s, .s, .b] := by kernel_rfl
@[go_sem] theorem ty_el53 : elOf Try.prog 53 = some (99, 5, 88) := by kernel_rfl
@[go_sem] theorem ty_ag53 : aggOf Try.prog 53 = some none := by kernel_rfl
@[go_sem] theorem ty_el56 : elOf Try.prog 56 = some (80, 5, 88) := by kernel_rfl
@[go_sem] theorem ty_ag56 : aggOf Try.prog 56 = some none := by kernel_rfl
@[go_sem] theorem ty_ag67 : aggOf Try.prog 67 = some (some 4) := by kernel_rfl
@[go_sem] theorem ty_ze67 : zeroOf Try.prog 67 = some [.int .i64 0, .str [], .str [], .bool false] := by kernel_rfl
@[go_sem] theorem ty_pl67 : plOf Try.prog 67 = some [(0, 1), (1, 1), (2, 1), (3, 1)] := by kernel_rfl
@[go_sem] theorem ty_fl67_0 : fldOf Try.prog 67 0 = some (0, true) := by kernel_rfl
@[go_sem] theorem ty_fl67_1 : fldOf Try.prog 67 1 = some (1, true) := by kernel_rfl
@[go_sem] theorem ty_fl67_2 : fldOf Try.prog 67 2 = some (2, true) := by kernel_rfl
@[go_sem] theorem ty_fl67_3 : fldOf Try.prog 67 3 = some (3, true) := by kernel_rfl
@[go_sem] theorem ty_ek67 : eksOf Try.prog 67 = some [.i, .s, .s, .b] := by kernel_rfl
@[go_sem] theorem ty_ag80 : aggOf Try.prog 80 = some (some 5) := by kernel_rfl
@[go_sem] theorem ty_ze80 : zeroOf Try.prog 80 = some [.int .i64 0, .str [], .str [], .nil, .nil] := by kernel_rfl
@[go_sem] theorem ty_pl80 : plOf Try.prog 80 = some [(0, 1), (1, 1), (2, 1), (3, 1), (4, 1)] := by kernel_rfl
@[go_sem] theorem ty_fl80_0 : fldOf Try.prog 80 0 = some (0, true) := by kernel_rfl
@[go_sem] theorem ty_fl80_1 : fldOf Try.prog 80 1 = some (1, true) := by kernel_rfl
@[go_sem] theorem ty_fl80_2 : fldOf Try.prog 80 2 = some (2, true) := by kernel_rfl
@[go_sem] theorem ty_fl80_3 : fldOf Try.prog 80 3 = some (3, true) := by kernel_rfl
@[go_sem] theorem ty_fl80_4 : fldOf Try.prog 80 4 = some (4, true) := by kernel_rfl
@[go_sem] theorem ty_ag86 : aggOf Try.prog 86 = some (some 2) := by kernel_rfl
@[go_sem] theorem ty_ze86 : zeroOf Try.prog 86 = some [.int .i64 0, .str []] := by kernel_rfl
@[go_sem] theorem ty_pl86 : plOf Try.prog 86 = some [(0, 1), (1, 1)] := by kernel_rfl
@[go_sem] theorem ty_fl86_0 : fldOf Try.prog 86 0 = some (0, true) := by kernel_rfl
@[go_sem] theorem ty_fl86_1 : fldOf Try.prog 86 1 = some (1, true) := by kernel_rfl
@[go_sem] theorem ty_ek86 : eksOf Try.prog 86 = some [.i, .s] := by kernel_rfl
@[go_sem] theorem ty_ag87 : aggOf Try.prog 87 = some (some 2) := by kernel_rfl
@[go_sem] theorem ty_ze87 : zeroOf Try.prog 87 = some [.int .i64 0, .str []] := by kernel_rfl
@[go_sem] theorem ty_pl87 : plOf Try.prog 87 = some [(0, 1), (1, 1)] := by kernel_rfl
@[go_sem] theorem ty_fl87_0 : fldOf Try.prog 87 0 = some (0, true) := by kernel_rfl
@[go_sem] theorem ty_fl87_1 : fldOf Try.prog 87 1 = some (1, true) := by kernel_rfl
@[go_sem] theorem ty_ek87 : eksOf Try.prog 87 = some [.i, .s] := by kernel_rfl
@[go_sem] theorem ty_ag99 : aggOf Try.prog 99 = some (some 5) := by kernel_rfl
@[go_sem] theorem ty_ze99 : zeroOf Try.prog 99 = some [.int .i64 0, .str [], .str [], .nil, .nil] := by kernel_rfl
@[go_sem] theorem ty_pl99 : plOf Try.prog 99 = some [(0, 1), (1, 1), (2, 1), (3, 1), (4, 1)] := by kernel_rfl
@[go_sem] theorem ty_fl99_0 : fldOf Try.prog 99 0 = some (0, true) := by kernel_rfl
@[go_sem] theorem ty_fl99_1 : fldOf Try.prog 99 1 = some (1, true) := by kernel_rfl
@[go_sem] theorem ty_fl99_2 : fldOf Try.prog 99 2 = some (2, true) := by kernel_rfl
@[go_sem] theorem ty_fl99_3 : fldOf Try.prog 99 3 = some (3, true) := by kernel_rfl
@[go_sem] theorem ty_fl99_4 : fldOf Try.prog 99 4 = some (4, true) := by kernel_rfl
@[go_sem] theorem ty_el103 : elOf Try.prog 103 = some (3, 1, 8) := by kernel_rfl
@[go_sem] theorem ty_ag103 : aggOf Try.prog 103 = some none := by kernel_rfl
@[go_sem] theorem ty_ag117 : aggOf Try.prog 117 = some (some 2) := by kernel_rfl
@[go_sem] theorem ty_ze117 : zeroOf Try.prog 117 = some [.nil, .int .i64 0] := by kernel_rfl
@[go_sem] theorem ty_pl117 : plOf Try.prog 117 = some [(0, 1), (1, 1)] := by kernel_rfl
@[go_sem] theorem ty_fl117_0 : fldOf Try.prog 117 0 = some (0, true) := by kernel_rfl
@[go_sem] theorem ty_fl117_1 : fldOf Try.prog 117 1 = some (1, true) := by kernel_rfl
@[go_sem] theorem ty_ze124 : zeroOf Try.prog 124 = some [.raw (.pointer none), .nil] := by kernel_rfl
@[go_sem] theorem ty_bl124 : bldT Try.prog 124 = some 5 := by kernel_rfl
end Go.Proofs.Ytcagfbgplpokkaa
