/- Squares of distances and radii, both sides. -/
import Derived.Test.YtoglmeiffidcbaaDoorBase
import Derived.Test.YtoglmeiffidcbaaDoorDirP
import Derived.Test.YtoglmeiffidcbaaDoorRoot
import Derived.Test.YtoglmeiffidcbaaDoorCrn
import Derived.BigQuiet
import Derived.IntWalk
namespace Go.Proofs.YtoglmeiffidcbaaDoor
open Go.RowKit Go.Deep
set_option maxHeartbeats 2000000 in
set_option maxRecDepth 20000 in
theorem sq02_any (a b c d : Int) (w : World) (hu : -400000 ≤ a - c ∧ a - c ≤ 400000) (hv : -400000 ≤ b - d ∧ b - d ≤ 400000) : Calls Tryd.prog 61 #[.agg #[.int .i64 a, .int .i64 b], .agg #[.int .i64 c, .int .i64 d]] w fun e w' => e = .returned (.int .i64 (sqI (a - c) (b - d))) ∧ Below w.heap.size w w' := by
  obtain ⟨h1, h2, h3, h4⟩ := sqI_bd hu hv
  have hw1 : IntKind.i64.wrap (a - c) = a - c := IntWalk.i64_in _ (by omega)
  have hw2 : IntKind.i64.wrap (b - d) = b - d := IntWalk.i64_in _ (by omega)
  have hw3 : IntKind.i64.wrap ((a - c) * (a - c)) = (a - c) * (a - c) := IntWalk.i64_in _ (by omega)
  have hw4 : IntKind.i64.wrap ((b - d) * (b - d)) = (b - d) * (b - d) := IntWalk.i64_in _ (by omega)
  have hw5 : IntKind.i64.wrap ((a - c) * (a - c) + (b - d) * (b - d)) = (a - c) * (a - c) + (b - d) * (b - d) := IntWalk.i64_in _ (by omega)
  clear h3 h4
  go_enter Tryd.func61, Tryd.ntmps61; go_wp2
  go_returns
  exact ⟨rfl, by repeat' first | exact gr_refl _ | with_reducible apply gr_drewN | with_reducible assumption | with_reducible apply gr_alloc | with_reducible apply gr_set | with_reducible apply gr_drew | with_reducible apply gr_drewN | exact Nat.le_add_right _ _ | exact Nat.le_refl _ | (refine gr_then (by with_reducible assumption) ?_)⟩
set_option maxHeartbeats 2000000 in
set_option maxRecDepth 20000 in
theorem square_any (a b c d : Int) (w : World) (hu : -400000 ≤ a - c ∧ a - c ≤ 400000) (hv : -400000 ≤ b - d ∧ b - d ≤ 400000) : Calls Tryd.prog 83 #[.agg #[.int .i64 a, .int .i64 b], .agg #[.int .i64 c, .int .i64 d]] w fun e w' => e = .returned (.int .i64 (sqI (a - c) (b - d))) ∧ Below w.heap.size w w' := by
  obtain ⟨h1, h2, h3, h4⟩ := sqI_bd hu hv
  have hw1 : IntKind.i64.wrap (a - c) = a - c := IntWalk.i64_in _ (by omega)
  have hw2 : IntKind.i64.wrap (b - d) = b - d := IntWalk.i64_in _ (by omega)
  have hw3 : IntKind.i64.wrap ((a - c) * (a - c)) = (a - c) * (a - c) := IntWalk.i64_in _ (by omega)
  have hw4 : IntKind.i64.wrap ((b - d) * (b - d)) = (b - d) * (b - d) := IntWalk.i64_in _ (by omega)
  have hw5 : IntKind.i64.wrap ((a - c) * (a - c) + (b - d) * (b - d)) = (a - c) * (a - c) + (b - d) * (b - d) := IntWalk.i64_in _ (by omega)
  clear h3 h4
  go_enter Tryd.func83, Tryd.ntmps83; go_wp2
  go_quiet (fail)
  go_wp2
  go_returns
  exact ⟨rfl, by repeat' first | exact gr_refl _ | with_reducible apply gr_drewN | with_reducible assumption | with_reducible apply gr_alloc | with_reducible apply gr_set | with_reducible apply gr_drew | with_reducible apply gr_drewN | exact Nat.le_add_right _ _ | exact Nat.le_refl _ | (refine gr_then (by with_reducible assumption) ?_)⟩
end Go.Proofs.YtoglmeiffidcbaaDoor
