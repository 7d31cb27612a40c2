/- What the program's tables say of its types. -/
import Derived.Test.YtdehpafflbhadaaF12
import Derived.Test.YtdehpafflbhadaaRows
namespace Go.Proofs.Ytdehpafflbhadaa
set_option maxRecDepth 100000
set_option linter.unusedVariables false
set_option linter.unusedSimpArgs false
open Go.RowKit

theorem mixed : Try.prog.follows .mixedOrders = true := by kernel_rfl
@[go_sem] theorem ty_ag3 : aggOf Try.prog 3 = some none := by kernel_rfl
@[go_sem] theorem ty_ze3 : zeroOf Try.prog 3 = some [.int .i64 0] := by kernel_rfl
@[go_sem] theorem ty_kd3 : kindOf Try.prog 3 = some (.inl .i64) := by kernel_rfl
@[go_sem] theorem ty_ag4 : aggOf Try.prog 4 = some none := by kernel_rfl
@[go_sem] theorem ty_ze4 : zeroOf Try.prog 4 = some [.bool false] := by kernel_rfl
@[go_sem] theorem ty_un4 : Try.prog.underlying 4 = some .bool := by kernel_rfl
@[go_sem] theorem ty_ag5 : aggOf Try.prog 5 = some none := by kernel_rfl
@[go_sem] theorem ty_ze5 : zeroOf Try.prog 5 = some [.int .u8 0] := by kernel_rfl
@[go_sem] theorem ty_kd5 : kindOf Try.prog 5 = some (.inl .u8) := by kernel_rfl
@[go_sem] theorem ty_ag9 : aggOf Try.prog 9 = some none := by kernel_rfl
@[go_sem] theorem ty_ze9 : zeroOf Try.prog 9 = some [.str []] := by kernel_rfl
@[go_sem] theorem ty_kd9 : kindOf Try.prog 9 = some (.inr .str) := by kernel_rfl
@[go_sem] theorem ty_un9 : Try.prog.underlying 9 = some .string := by kernel_rfl
@[go_sem] theorem ty_el22 : elOf Try.prog 22 = some (77, 5, 88) := by kernel_rfl
@[go_sem] theorem ty_ag22 : aggOf Try.prog 22 = some none := by kernel_rfl
@[go_sem] theorem ty_el25 : elOf Try.prog 25 = some (74, 5, 88) := by kernel_rfl
@[go_sem] theorem ty_ag25 : aggOf Try.prog 25 = some none := by kernel_rfl
@[go_sem] theorem ty_el28 : elOf Try.prog 28 = some (82, 2, 24) := by kernel_rfl
@[go_sem] theorem ty_ag28 : aggOf Try.prog 28 = some none := by kernel_rfl
@[go_sem] theorem ty_el30 : elOf Try.prog 30 = some (9, 1, 16) := by kernel_rfl
@[go_sem] theorem ty_ag30 : aggOf Try.prog 30 = some none := by kernel_rfl
@[go_sem] theorem ty_el32 : elOf Try.prog 32 = some (83, 2, 24) := by kernel_rfl
@[go_sem] theorem ty_ag32 : aggOf Try.prog 32 = some none := by kernel_rfl
@[go_sem] theorem ty_ag40 : aggOf Try.prog 40 = some (some 4) := by kernel_rfl
@[go_sem] theorem ty_ze40 : zeroOf Try.prog 40 = some [.int .i64 0, .str [], .str [], .bool false] := by kernel_rfl
@[go_sem] theorem ty_pl40 : plOf Try.prog 40 = some [(0, 1), (1, 1), (2, 1), (3, 1)] := by kernel_rfl
@[go_sem] theorem ty_fl40_0 : fldOf Try.prog 40 0 = some (0, true) := by kernel_rfl
@[go_sem] theorem ty_fl40_1 : fldOf Try.prog 40 1 = some (1, true) := by kernel_rfl
@[go_sem] theorem ty_fl40_2 : fldOf Try.prog 40 2 = some (2, true) := by kernel_rfl
@[go_sem] theorem ty_fl40_3 : fldOf Try.prog 40 3 = some (3, true) := by kernel_rfl
@[go_sem] theorem ty_ek40 : eksOf Try.prog 40 = some [.i, .s, .s, .b] := by kernel_rfl
@[go_sem] theorem ty_ag43 : aggOf Try.prog 43 = some (some 4) := by kernel_rfl
@[go_sem] theorem ty_ze43 : zeroOf Try.prog 43 = some [.int .i64 0, .str [], .str [], .bool false] := by kernel_rfl
@[go_sem] theorem ty_pl43 : plOf Try.prog 43 = some [(0, 1), (1, 1), (2, 1), (3, 1)] := by kernel_rfl
@[go_sem] theorem ty_fl43_0 : fldOf Try.prog 43 0 = some (0, true) := by kernel_rfl
@[go_sem] theorem ty_fl43_1 : fldOf Try.prog 43 1 = some (1, true) := by kernel_rfl
@[go_sem] theorem ty_fl43_2 : fldOf Try.prog 43 2 = some (2, true) := by kernel_rfl
@[go_sem] theorem ty_fl43_3 : fldOf Try.prog 43 3 = some (3, true) := by kernel_rfl
@[go_sem] theorem ty_ek43 : eksOf Try.prog 43 = some [.i, .s, .s, .b] := by kernel_rfl
@[go_sem] theorem ty_ag49 : aggOf Try.prog 49 = some (some 2) := by kernel_rfl
@[go_sem] theorem ty_ze49 : zeroOf Try.prog 49 = some [.str [], .str []] := by kernel_rfl
@[go_sem] theorem ty_pl49 : plOf Try.prog 49 = some [(0, 1), (1, 1)] := by kernel_rfl
@[go_sem] theorem ty_fl49_0 : fldOf Try.prog 49 0 = some (0, true) := by kernel_rfl
@[go_sem] theorem ty_fl49_1 : fldOf Try.prog 49 1 = some (1, true) := by kernel_rfl
@[go_sem] theorem ty_ek49 : eksOf Try.prog 49 = some [.s, .s] := by kernel_rfl
@[go_sem] theorem ty_ag52 : aggOf Try.prog 52 = some (some 2) := by kernel_rfl
@[go_sem] theorem ty_ze52 : zeroOf Try.prog 52 = some [.str [], .str []] := by kernel_rfl
@[go_sem] theorem ty_pl52 : plOf Try.prog 52 = some [(0, 1), (1, 1)] := by kernel_rfl
@[go_sem] theorem ty_fl52_0 : fldOf Try.prog 52 0 = some (0, true) := by kernel_rfl
@[go_sem] theorem ty_fl52_1 : fldOf Try.prog 52 1 = some (1, true) := by kernel_rfl
@[go_sem] theorem ty_ek52 : eksOf Try.prog 52 = some [.s, .s] := by kernel_rfl
@[go_sem] theorem ty_el55 : elOf Try.prog 55 = some (5, 1, 1) := by kernel_rfl
@[go_sem] theorem ty_ag55 : aggOf Try.prog 55 = some none := by kernel_rfl
@[go_sem] theorem ty_kd55 : kindOf Try.prog 55 = some (.inr .bytes) := by kernel_rfl
@[go_sem] theorem ty_ag74 : aggOf Try.prog 74 = some (some 5) := by kernel_rfl
@[go_sem] theorem ty_ze74 : zeroOf Try.prog 74 = some [.int .i64 0, .str [], .str [], .nil, .nil] := by kernel_rfl
@[go_sem] theorem ty_pl74 : plOf Try.prog 74 = some [(0, 1), (1, 1), (2, 1), (3, 1), (4, 1)] := by kernel_rfl
@[go_sem] theorem ty_fl74_0 : fldOf Try.prog 74 0 = some (0, true) := by kernel_rfl
@[go_sem] theorem ty_fl74_1 : fldOf Try.prog 74 1 = some (1, true) := by kernel_rfl
@[go_sem] theorem ty_fl74_2 : fldOf Try.prog 74 2 = some (2, true) := by kernel_rfl
@[go_sem] theorem ty_fl74_3 : fldOf Try.prog 74 3 = some (3, true) := by kernel_rfl
@[go_sem] theorem ty_fl74_4 : fldOf Try.prog 74 4 = some (4, true) := by kernel_rfl
@[go_sem] theorem ty_ag77 : aggOf Try.prog 77 = some (some 5) := by kernel_rfl
@[go_sem] theorem ty_ze77 : zeroOf Try.prog 77 = some [.int .i64 0, .str [], .str [], .nil, .nil] := by kernel_rfl
@[go_sem] theorem ty_pl77 : plOf Try.prog 77 = some [(0, 1), (1, 1), (2, 1), (3, 1), (4, 1)] := by kernel_rfl
@[go_sem] theorem ty_fl77_0 : fldOf Try.prog 77 0 = some (0, true) := by kernel_rfl
@[go_sem] theorem ty_fl77_1 : fldOf Try.prog 77 1 = some (1, true) := by kernel_rfl
@[go_sem] theorem ty_fl77_2 : fldOf Try.prog 77 2 = some (2, true) := by kernel_rfl
@[go_sem] theorem ty_fl77_3 : fldOf Try.prog 77 3 = some (3, true) := by kernel_rfl
@[go_sem] theorem ty_fl77_4 : fldOf Try.prog 77 4 = some (4, true) := by kernel_rfl
@[go_sem] theorem ty_ag82 : aggOf Try.prog 82 = some (some 2) := by kernel_rfl
@[go_sem] theorem ty_ze82 : zeroOf Try.prog 82 = some [.int .i64 0, .str []] := by kernel_rfl
@[go_sem] theorem ty_pl82 : plOf Try.prog 82 = some [(0, 1), (1, 1)] := by kernel_rfl
@[go_sem] theorem ty_fl82_0 : fldOf Try.prog 82 0 = some (0, true) := by kernel_rfl
@[go_sem] theorem ty_fl82_1 : fldOf Try.prog 82 1 = some (1, true) := by kernel_rfl
@[go_sem] theorem ty_ek82 : eksOf Try.prog 82 = some [.i, .s] := by kernel_rfl
@[go_sem] theorem ty_ag83 : aggOf Try.prog 83 = some (some 2) := by kernel_rfl
@[go_sem] theorem ty_ze83 : zeroOf Try.prog 83 = some [.int .i64 0, .str []] := by kernel_rfl
@[go_sem] theorem ty_pl83 : plOf Try.prog 83 = some [(0, 1), (1, 1)] := by kernel_rfl
@[go_sem] theorem ty_fl83_0 : fldOf Try.prog 83 0 = some (0, true) := by kernel_rfl
@[go_sem] theorem ty_fl83_1 : fldOf Try.prog 83 1 = some (1, true) := by kernel_rfl
@[go_sem] theorem ty_ek83 : eksOf Try.prog 83 = some [.i, .s] := by kernel_rfl
@[go_sem] theorem ty_ag100 : aggOf Try.prog 100 = some (some 2) := by kernel_rfl
@[go_sem] theorem ty_ze100 : zeroOf Try.prog 100 = some [.nil, .int .i64 0] := by kernel_rfl
@[go_sem] theorem ty_pl100 : plOf Try.prog 100 = some [(0, 1), (1, 1)] := by kernel_rfl
@[go_sem] theorem ty_fl100_0 : fldOf Try.prog 100 0 = some (0, true) := by kernel_rfl
@[go_sem] theorem ty_fl100_1 : fldOf Try.prog 100 1 = some (1, true) := by kernel_rfl
@[go_sem] theorem ty_el105 : elOf Try.prog 105 = some (3, 1, 8) := by kernel_rfl
@[go_sem] theorem ty_ag105 : aggOf Try.prog 105 = some none := by kernel_rfl
@[go_sem] theorem ty_ze111 : zeroOf Try.prog 111 = some [.raw (.pointer none), .nil] := by kernel_rfl
@[go_sem] theorem ty_bl111 : bldT Try.prog 111 = some 5 := by kernel_rfl
end Go.Proofs.Ytdehpafflbhadaa
