/- Walks of the small functions: what they compute, in the words of Plain. -/
import Derived.Test.YtdehpafflbhadaaRows
import Derived.Test.YtdehpafflbhadaaM
namespace Go.Proofs.Ytdehpafflbhadaa
set_option maxRecDepth 100000
set_option linter.unusedVariables false
set_option linter.unusedSimpArgs false
open Go.RowKit

def tagB (l : List UInt8) : Bool := l == [98] || l == [105] || l == [112] || l == [97] || l == [117, 108] || l == [108, 105] || l == [98, 114] || l == [105, 109, 103]



def digB (n : Int) : Bool := decide (48 ≤ n) && decide (n ≤ 57)
theorem digB_t {n : Int} (h : 48 ≤ n) (h' : n ≤ 57) : digB n = true := by simp [digB, h, h']
theorem digB_f {n : Int} (h : n < 48 ∨ 57 < n) : digB n = false := by simp [digB]; omega

set_option maxHeartbeats 400000 in
theorem isDigit_any (b : Int) (w : World) :
    Calls Try.prog 97 #[.int .u8 b] w fun e w' => e = .returned (.bool (digB b)) ∧ w = w' := by
  go_enter Try.func97, Try.ntmps97
  go_wp2
  all_goals go_ret
  all_goals exact ⟨by simp_all [digB] <;> omega, rfl⟩

def inB (n lo hi : Int) : Bool := decide (lo ≤ n) && decide (n ≤ hi)
theorem inB_t {n lo hi : Int} (h : lo ≤ n) (h' : n ≤ hi) : inB n lo hi = true := by simp [inB, h, h']
theorem inB_f {n lo hi : Int} (h : n < lo ∨ hi < n) : inB n lo hi = false := by simp [inB]; omega

set_option maxHeartbeats 400000 in
theorem l1In_any (n lo hi : Int) (w : World) :
    Calls Try.prog 90 #[.int .i64 n, .int .i64 lo, .int .i64 hi] w fun e w' => e = .returned (.bool (inB n lo hi)) ∧ w = w' := by
  go_enter Try.func90, Try.ntmps90
  go_wp2
  all_goals go_ret
  all_goals exact ⟨by simp_all [inB] <;> omega, rfl⟩

def addrB (l : List UInt8) : Bool := l == [104, 114, 101, 102] || l == [115, 114, 99] || l == [97, 99, 116, 105, 111, 110]

set_option maxHeartbeats 400000 in
theorem addressName_i (s : ByteArray) (w : World) :
    Calls Try.prog 64 #[.string s] w fun e w' => e = .returned (.bool (addrB s.toList)) ∧ w = w' := by
  go_enter Try.func64, Try.ntmps64
  go_wp2
  all_goals go_ret
  all_goals exact ⟨by simp_all [addrB], rfl⟩

set_option maxHeartbeats 400000 in
theorem addressName_s (s : ByteArray) (w : World) :
    Calls Try.prog 62 #[.string s] w fun e w' => e = .returned (.bool (addrB s.toList)) ∧ w = w' := by
  go_enter Try.func62, Try.ntmps62
  go_wp2
  all_goals go_ret
  all_goals exact ⟨by simp_all [addrB], rfl⟩
end Go.Proofs.Ytdehpafflbhadaa
