/- Contracts of SameMotion, both sides. -/
import Derived.Test.YtoojnfdphjdocaaDoorMotB
namespace Go.Proofs.YtoojnfdphjdocaaDoor
open Go.RowKit
theorem eq_of_at {xs ys : List Int} (hl : xs.length = ys.length) (h : ∀ (j : Nat) x y, xs[j]? = some x → ys[j]? = some y → x = y) : xs = ys := by
  apply List.ext_getElem? 
  intro j
  rcases Nat.lt_or_ge j xs.length with hj | hj
  · obtain ⟨x, hx⟩ := at_of_lt hj
    obtain ⟨y, hy⟩ := at_of_lt (xs := ys) (k := j) (by omega)
    rw [hx, hy, h j x y hx hy]
  · rw [List.getElem?_eq_none hj, List.getElem?_eq_none (by omega)]
theorem ne_of_at {xs ys : List Int} {j : Nat} {x y : Int} (hx : xs[j]? = some x) (hy : ys[j]? = some y) (h : ¬ x = y) : ¬ xs = ys := by
  rintro rfl
  rw [hx] at hy
  exact h (Option.some.inj hy)
def sameM (s t : Int) (xs ys : List Int) : Bool := decide (s = t) && decide (xs = ys)
end Go.Proofs.YtoojnfdphjdocaaDoor
