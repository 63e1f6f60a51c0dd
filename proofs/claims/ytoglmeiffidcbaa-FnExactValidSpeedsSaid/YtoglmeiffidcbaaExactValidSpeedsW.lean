/- The walk of the law FnExactValidSpeeds: whatever the four numbers are, both functions agree. No condition. -/
import Derived.Test.YtoglmeiffidcbaaKit
import Derived.Handy
namespace Go.Proofs.Ytoglmeiffidcbaa.fnExactValidSpeeds
open Go.RowKit
set_option maxHeartbeats 4000000 in
theorem walk (a b c d : Int) (_ : -9223372036854775808 ≤ a ∧ a ≤ 9223372036854775807) (_ : -9223372036854775808 ≤ b ∧ b ≤ 9223372036854775807) (_ : -9223372036854775808 ≤ c ∧ c ≤ 9223372036854775807) (_ : -9223372036854775808 ≤ d ∧ d ≤ 9223372036854775807) (w : World) :
    Calls Try.prog 3 #[.agg #[.int .i64 a, .int .i64 b, .int .i64 c, .int .i64 d]] w fun e w' => e = .returned (.bool true) ∧ Below w.heap.size w w' := by
  by_cases h1 : 1 ≤ a
  case neg => go_enter Try.func3, Try.ntmps3; go_wp2; go_ret; exact ⟨rfl, by go_grown⟩
  by_cases h2 : a ≤ 600
  case neg => go_enter Try.func3, Try.ntmps3; go_wp2; go_ret; exact ⟨rfl, by go_grown⟩
  by_cases h3 : 1 ≤ b
  case neg => go_enter Try.func3, Try.ntmps3; go_wp2; go_ret; exact ⟨rfl, by go_grown⟩
  by_cases h4 : b ≤ 600
  case neg => go_enter Try.func3, Try.ntmps3; go_wp2; go_ret; exact ⟨rfl, by go_grown⟩
  by_cases h5 : 1 ≤ c
  case neg => go_enter Try.func3, Try.ntmps3; go_wp2; go_ret; exact ⟨rfl, by go_grown⟩
  by_cases h6 : c ≤ 600
  case neg => go_enter Try.func3, Try.ntmps3; go_wp2; go_ret; exact ⟨rfl, by go_grown⟩
  by_cases h7 : 1 ≤ d
  case neg => go_enter Try.func3, Try.ntmps3; go_wp2; go_ret; exact ⟨rfl, by go_grown⟩
  by_cases h8 : d ≤ 600
  case neg => go_enter Try.func3, Try.ntmps3; go_wp2; go_ret; exact ⟨rfl, by go_grown⟩
  go_enter Try.func3, Try.ntmps3
  go_wp2
  go_ret
  exact ⟨rfl, by go_grown⟩
end Go.Proofs.Ytoglmeiffidcbaa.fnExactValidSpeeds
