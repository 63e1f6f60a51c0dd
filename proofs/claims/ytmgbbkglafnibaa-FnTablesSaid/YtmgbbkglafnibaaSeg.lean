/- Contracts of the functions that say whether points and segments are valid, both sides. -/
import Derived.Test.YtmgbbkglafnibaaBase
namespace Go.Proofs.Ytmgbbkglafnibaa
open Go.RowKit
def okPt (x y : Int) : Bool := decide (-11000 ≤ x ∧ x ≤ 11000 ∧ -11000 ≤ y ∧ y ≤ 11000)
theorem okPt_t {x y : Int} (h : okPt x y = true) : -11000 ≤ x ∧ x ≤ 11000 ∧ -11000 ≤ y ∧ y ≤ 11000 := of_decide_eq_true h
theorem okPt_y {x y : Int} (h : -11000 ≤ x ∧ x ≤ 11000 ∧ -11000 ≤ y ∧ y ≤ 11000) : okPt x y = true := decide_eq_true h
theorem okPt_n {x y : Int} (h : ¬ (-11000 ≤ x ∧ x ≤ 11000 ∧ -11000 ≤ y ∧ y ≤ 11000)) : okPt x y = false := decide_eq_false h
def okSg (a b c d : Int) : Bool := okPt a b && okPt c d
end Go.Proofs.Ytmgbbkglafnibaa
