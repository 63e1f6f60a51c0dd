/- Contracts of the square roots rounded up, and of the fractions in lowest terms. -/
import Derived.Test.YtnmldhkcbekecaaDoorBase
import Derived.Test.YtnmldhkcbekecaaDoorPlain
namespace Go.Proofs.YtnmldhkcbekecaaDoor
open Go.RowKit
theorem quo_bd {d g : Int} (hd : 1 ≤ d) (hg : 1 ≤ g) : 0 ≤ d / g ∧ d / g ≤ d := ⟨Int.ediv_nonneg (by omega) (by omega), Int.ediv_le_self g (by omega)⟩
theorem tquo_bd {n g : Int} (hn : -9223372036854775807 ≤ n ∧ n ≤ 9223372036854775807) : -9223372036854775807 ≤ n.tdiv g ∧ n.tdiv g ≤ 9223372036854775807 := by
  have h := Int.natAbs_tdiv n g
  have h2 := Nat.div_le_self n.natAbs g.natAbs
  have h3 : (n.tdiv g).natAbs ≤ n.natAbs := by rw [h]; exact h2
  omega
end Go.Proofs.YtnmldhkcbekecaaDoor
