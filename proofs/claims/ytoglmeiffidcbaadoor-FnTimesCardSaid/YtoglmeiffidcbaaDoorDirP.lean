/- Directions and radii of places, and the times between them: plain arithmetic. -/
import Derived.Test.YtoglmeiffidcbaaDoorVct
import Derived.Test.YtoglmeiffidcbaaDoorTurns
import Derived.Test.YtoglmeiffidcbaaDoorPlain
namespace Go.Proofs.YtoglmeiffidcbaaDoor
open Go.RowKit
def prdD (u v : Int) (k : Nat) : Int := vX k * u + vY k * v
def bstD (u v : Int) : Nat → Nat
  | 0 => 0
  | k + 1 => if prdD u v (bstD u v k) < prdD u v k then k else bstD u v k
theorem bstD_y {u v : Int} {k : Nat} (h : prdD u v (bstD u v k) < prdD u v k) : bstD u v (k + 1) = k := if_pos h
theorem bstD_n {u v : Int} {k : Nat} (h : ¬ prdD u v (bstD u v k) < prdD u v k) : bstD u v (k + 1) = bstD u v k := if_neg h
theorem bstD_1 (u v : Int) : bstD u v 1 = 0 := bstD_n (by show ¬ prdD u v 0 < prdD u v 0; omega)
theorem bstD_le (u v : Int) : ∀ k, k ≤ 24 → bstD u v k ≤ 23
  | 0, _ => Nat.zero_le _
  | k + 1, h => by
    have ih := bstD_le u v k (by omega)
    unfold bstD
    split <;> omega
theorem bstD_zero : ∀ k, bstD 0 0 k = 0
  | 0 => rfl
  | k + 1 => by
    rw [bstD_n (by unfold prdD; simp)]
    exact bstD_zero k
def dirN (u v : Int) : Nat := bstD u v 24
theorem dirN_le (u v : Int) : dirN u v ≤ 23 := bstD_le u v 24 (Nat.le_refl _)
theorem dirN_zero : dirN 0 0 = 0 := bstD_zero 24
theorem mul_bd2 {a b : Int} {A B : Int} (ha : -A ≤ a ∧ a ≤ A) (hb : -B ≤ b ∧ b ≤ B) : -(A * B) ≤ a * b ∧ a * b ≤ A * B := by
  have h1 : 0 ≤ (A - a) * (B + b) := Int.mul_nonneg (by omega) (by omega)
  have h2 : 0 ≤ (A + a) * (B - b) := Int.mul_nonneg (by omega) (by omega)
  have h3 : 0 ≤ (A - a) * (B - b) := Int.mul_nonneg (by omega) (by omega)
  have h4 : 0 ≤ (A + a) * (B + b) := Int.mul_nonneg (by omega) (by omega)
  simp only [Int.sub_mul, Int.add_mul, Int.mul_sub, Int.mul_add] at h1 h2 h3 h4
  omega
theorem prd_bd {u v : Int} (hu : -400000 ≤ u ∧ u ≤ 400000) (hv : -400000 ≤ v ∧ v ≤ 400000) (k : Nat) : (-400000000 ≤ vX k * u ∧ vX k * u ≤ 400000000) ∧ (-400000000 ≤ vY k * v ∧ vY k * v ≤ 400000000) ∧ (-800000000 ≤ prdD u v k ∧ prdD u v k ≤ 800000000) := by
  obtain ⟨a, b⟩ := vXY_bd k
  have h1 := mul_bd2 a hu
  have h2 := mul_bd2 b hv
  unfold prdD
  omega
def sqI (u v : Int) : Int := u * u + v * v
theorem sqI_bd {u v : Int} (hu : -400000 ≤ u ∧ u ≤ 400000) (hv : -400000 ≤ v ∧ v ≤ 400000) : (0 ≤ u * u ∧ u * u ≤ 160000000000) ∧ (0 ≤ v * v ∧ v * v ≤ 160000000000) ∧ 0 ≤ sqI u v ∧ sqI u v ≤ 320000000000 := by
  have h1 := mul_bd2 hu hu
  have h2 := mul_bd2 hv hv
  have h3 : 0 ≤ u * u := by rw [← Int.natAbs_mul_self]; omega
  have h4 : 0 ≤ v * v := by rw [← Int.natAbs_mul_self]; omega
  unfold sqI
  omega
noncomputable def radN (u v : Int) : Int := rt (sqI u v)
theorem radN_bd {u v : Int} (hu : -400000 ≤ u ∧ u ≤ 400000) (hv : -400000 ≤ v ∧ v ≤ 400000) : 0 ≤ radN u v ∧ radN u v ≤ 1000000 := by
  obtain ⟨_, _, a, b⟩ := sqI_bd hu hv
  exact rt_bd (by omega) (by omega) (by omega)
theorem sqI_neg (u v : Int) : sqI (-u) (-v) = sqI u v := by unfold sqI; rw [Int.neg_mul_neg, Int.neg_mul_neg]
theorem radN_neg (u v : Int) : radN (-u) (-v) = radN u v := by unfold radN; rw [sqI_neg]
/-- a quotient rounded up -/
def upI (n d : Int) : Int := (n + d - 1) / d
theorem upI_le {n m d : Int} (hd : 1 ≤ d) (h : n ≤ m * d) : upI n d ≤ m := by
  have h1 := Int.ediv_lt_of_lt_mul (a := n + d - 1) (b := m + 1) (c := d) (by omega) (by rw [Int.add_mul]; omega)
  unfold upI
  omega
theorem upI_ge {d : Int} (n : Int) (hd : 1 ≤ d) : n ≤ upI n d * d := by
  have h1 := Int.emod_add_mul_ediv (n + d - 1) d
  have h2 := Int.emod_lt_of_pos (n + d - 1) (show 0 < d by omega)
  unfold upI
  rw [Int.mul_comm]
  omega
theorem upI_pos {n d : Int} (hn : 0 ≤ n) (hd : 1 ≤ d) : 0 ≤ upI n d ∧ upI n d ≤ n := by
  refine ⟨Int.ediv_nonneg (by omega) (by omega), upI_le hd ?_⟩
  have := Int.mul_le_mul_of_nonneg_left hd hn
  omega
theorem upI_tri {n1 n2 n3 d : Int} (hd : 1 ≤ d) (h : n3 ≤ n1 + n2) : upI n3 d ≤ upI n1 d + upI n2 d := by
  have h1 := upI_ge n1 hd
  have h2 := upI_ge n2 hd
  refine upI_le hd ?_
  rw [Int.add_mul]
  omega
theorem upI_slow {n d d' : Int} (hn : 0 ≤ n) (h1 : 1 ≤ d') (h2 : d' ≤ d) : upI n d ≤ upI n d' := by
  have h3 := upI_ge n h1
  refine upI_le (by omega) ?_
  have := Int.mul_le_mul_of_nonneg_left h2 (upI_pos hn h1).1
  omega
/-- the time from one place to another one: the places seen from the crane -/
noncomputable def mvI (s t a b c d : Int) : Int := max (absI (turnI (dirN a b : Nat) (dirN c d : Nat)) * s) (upI (absI (radN a b - radN c d)) t)
end Go.Proofs.YtoglmeiffidcbaaDoor
