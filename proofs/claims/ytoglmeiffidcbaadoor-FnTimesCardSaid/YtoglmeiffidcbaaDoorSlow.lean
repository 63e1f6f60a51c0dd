/- Contracts of SlowerSpeeds, both sides. -/
import Derived.Test.YtoglmeiffidcbaaDoorSlew
import Derived.Deep.RegionHeld3
namespace Go.Proofs.YtoglmeiffidcbaaDoor
open Go.RowKit
def slV (g : Bool) (x : Int) : Int := if g = true then x else 0
theorem slV_y {g : Bool} {x : Int} (h : g = true) : slV g x = x := if_pos h
theorem slV_n {g : Bool} {x : Int} (h : g = false) : slV g x = 0 := if_neg (by simp [h])
theorem ret_slow {a b c d e a2 b2 c2 d2 e2 : Int} (h0 : a = a2) (h1 : b = b2) (h2 : c = c2) (h3 : d = d2) (h4 : e = e2) : Ending.returned (.tuple #[.agg #[.int .i64 a, .int .i64 b, .int .i64 c, .int .i64 d], .int .i64 e]) = .returned (.tuple #[.agg #[.int .i64 a2, .int .i64 b2, .int .i64 c2, .int .i64 d2], .int .i64 e2]) := by rw [h0, h1, h2, h3, h4]
end Go.Proofs.YtoglmeiffidcbaaDoor
