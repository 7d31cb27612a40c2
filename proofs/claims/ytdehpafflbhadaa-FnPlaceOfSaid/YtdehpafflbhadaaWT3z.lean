/- The reference's step (whole). Printed by gen_step.py. -/
import Derived.Test.YtdehpafflbhadaaWT3a
import Derived.Test.YtdehpafflbhadaaWT3b
import Derived.Test.YtdehpafflbhadaaWT3c
namespace Go.Proofs.Ytdehpafflbhadaa
set_option maxRecDepth 100000
set_option linter.unusedVariables false
set_option linter.unusedSimpArgs false
open Go.RowKit

theorem stepState_s (m : Int) (tag attr : ByteArray) (seen : Bool) (b : UInt8) (ht : tag.size ≤ maxLen) (ha : attr.size ≤ maxLen) (w : World) :
    Calls Try.prog 124 #[.agg #[.int .i64 m, .string tag, .string attr, .bool seen], .int .u8 (b.toNat : Int)] w fun e w' => e = .returned (stV (step m tag.data.toList attr.data.toList seen b)) ∧ Below w.heap.size w w' := by
  cases hv : stOk m tag.data.toList attr.data.toList seen with
  | false => exact stepState_s_bad m tag attr seen b ht ha hv w
  | true =>
    obtain ⟨h0, h1⟩ := stOk_in hv
    rcases mode_cases h0 h1 with rfl | rfl | rfl | rfl | rfl | rfl | rfl | rfl | rfl | rfl | rfl | rfl | rfl | rfl | rfl | rfl
    · exact stepState_s_0 tag attr seen b ht ha hv w
    · exact stepState_s_1 tag attr seen b ht ha hv w
    · exact stepState_s_2 tag attr seen b ht ha hv w
    · exact stepState_s_3 tag attr seen b ht ha hv w
    · exact stepState_s_4 tag attr seen b ht ha hv w
    · exact stepState_s_5 tag attr seen b ht ha hv w
    · exact stepState_s_6 tag attr seen b ht ha hv w
    · exact stepState_s_7 tag attr seen b ht ha hv w
    · exact stepState_s_8 tag attr seen b ht ha hv w
    · exact stepState_s_9 tag attr seen b ht ha hv w
    · exact stepState_s_10 tag attr seen b ht ha hv w
    · exact stepState_s_11 tag attr seen b ht ha hv w
    · exact stepState_s_12 tag attr seen b ht ha hv w
    · exact stepState_s_13 tag attr seen b ht ha hv w
    · exact stepState_s_14 tag attr seen b ht ha hv w
    · exact stepState_s_15 tag attr seen b ht ha hv w

end Go.Proofs.Ytdehpafflbhadaa
