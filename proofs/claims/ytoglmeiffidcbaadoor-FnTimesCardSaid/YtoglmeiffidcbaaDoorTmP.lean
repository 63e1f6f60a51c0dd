/- The plain laws of times: to and fro takes the same time, no way around is faster, slower speeds never are. -/
import Derived.Test.YtoglmeiffidcbaaDoorDirP
import Derived.Test.YtoglmeiffidcbaaDoorSlew
namespace Go.Proofs.YtoglmeiffidcbaaDoor
open Go.RowKit
theorem absI_sym (a b : Int) : absI (a - b) = absI (b - a) := by unfold absI; split <;> split <;> omega
theorem absI_nn (a : Int) : 0 ≤ absI a := by unfold absI; split <;> omega
theorem turn_sym (a b : Int) : absI (turnI a b) = absI (turnI b a) := by
  unfold absI turnI
  split <;> split <;> split <;> split <;> omega
theorem turn_tri (a b c : Int) : absI (turnI a c) ≤ absI (turnI a b) + absI (turnI b c) := by
  have e : ∀ x : Int, absI (if x % 24 > 12 then x % 24 - 24 else x % 24) = if x % 24 > 12 then 24 - x % 24 else x % 24 := by
    intro x
    unfold absI
    split <;> split <;> omega
  unfold turnI
  rw [e, e, e]
  split <;> split <;> split <;> omega
theorem turn_abs (a b : Int) : 0 ≤ absI (turnI a b) ∧ absI (turnI a b) ≤ 12 := by
  have := turnI_bd a b
  unfold absI
  split <;> omega
theorem rad_tri (a b c : Int) : absI (a - c) ≤ absI (a - b) + absI (b - c) := by
  unfold absI
  split <;> split <;> split <;> omega
theorem mv_sym (s t a b c d : Int) : mvI s t a b c d = mvI s t c d a b := by
  unfold mvI
  rw [turn_sym (dirN a b : Nat) (dirN c d : Nat), absI_sym (radN a b)]
theorem mv_nn {s t : Int} (ht : 1 ≤ t) (a b c d : Int) : 0 ≤ mvI s t a b c d := by
  have := (upI_pos (absI_nn (radN a b - radN c d)) ht).1
  unfold mvI
  omega
theorem mv_tri {s t : Int} (hs : 1 ≤ s) (ht : 1 ≤ t) (a b c d x y : Int) : mvI s t a b x y ≤ mvI s t a b c d + mvI s t c d x y := by
  have h1 := upI_tri ht (rad_tri (radN a b) (radN c d) (radN x y))
  have h2 := Int.mul_le_mul_of_nonneg_right (turn_tri (dirN a b : Nat) (dirN c d : Nat) (dirN x y : Nat)) (show 0 ≤ s by omega)
  rw [Int.add_mul] at h2
  unfold mvI
  omega
theorem mv_slow {s t s' t' : Int} (hs : s ≤ s') (ht : 1 ≤ t') (ht' : t' ≤ t) (a b c d : Int) : mvI s t a b c d ≤ mvI s' t' a b c d := by
  have h1 := upI_slow (absI_nn (radN a b - radN c d)) ht ht'
  have h2 := Int.mul_le_mul_of_nonneg_left hs (absI_nn (turnI (dirN a b : Nat) (dirN c d : Nat)))
  unfold mvI
  omega
theorem slowA_ge {a p : Int} (h : 1 ≤ a) (h2 : 100 ≤ p) : a ≤ slowA a p := by
  unfold slowA
  have := Int.mul_le_mul_of_nonneg_left h2 (show 0 ≤ a by omega)
  omega
theorem slowB_le {b p : Int} (h : 1 ≤ b) (h2 : 100 ≤ p) : slowB b p ≤ b := by
  unfold slowB
  have := Int.mul_le_mul_of_nonneg_left h2 (show 0 ≤ b by omega)
  exact Int.ediv_le_of_le_mul (by omega) (by omega)
end Go.Proofs.YtoglmeiffidcbaaDoor
