/- The plain law of the ends of a jib: an end is as far away as the jib is long, but for rounding; the counter jib's end lies on the other side. -/
import Derived.Test.YtbdhmadgflmhmaaDoorEnds
import Derived.Test.YtbdhmadgflmhmaaDoorPlain
namespace Go.Proofs.YtbdhmadgflmhmaaDoor
open Go.RowKit
def lenB (a b J : Nat) : Bool := decide (a * J / 1000 * (a * J / 1000) + b * J / 1000 * (b * J / 1000) ≤ (J + 1) * (J + 1)) && (decide (J < 4) || decide ((J - 4) * (J - 4) < a * J / 1000 * (a * J / 1000) + b * J / 1000 * (b * J / 1000)))
def lenA (a b : Nat) : Bool := (List.range 1000).all (lenB a b)
theorem lenA_all : (List.range 24).all (fun k => lenA (vxL.getD k 0).natAbs (vyL.getD k 0).natAbs) = true := by decide +kernel
theorem sq_abs (n : Int) : n * n = ((n.natAbs * n.natAbs : Nat) : Int) := Int.natAbs_mul_self.symm
theorem tdiv_abs (v : Int) (J : Nat) : ((v * (J : Int)).tdiv 1000).natAbs = v.natAbs * J / 1000 := by
  rw [Int.natAbs_tdiv, Int.natAbs_mul]
  rfl
/-- the square of how far an end lies away -/
def endS (k : Nat) (J : Int) : Int := (vX k * J).tdiv 1000 * (vX k * J).tdiv 1000 + (vY k * J).tdiv 1000 * (vY k * J).tdiv 1000
theorem endS_len {k : Nat} (hk : k ≤ 23) {J : Int} (h0 : 0 ≤ J) (h1 : J < 1000) : endS k J ≤ (J + 1) * (J + 1) ∧ (4 ≤ J → (J - 4) * (J - 4) < endS k J) := by
  obtain ⟨j, rfl⟩ := Int.eq_ofNat_of_zero_le h0
  have hj : j < 1000 := by omega
  have a := List.all_eq_true.1 lenA_all k (List.mem_range.2 (by omega))
  have b := List.all_eq_true.1 a j (List.mem_range.2 hj)
  unfold lenB at b
  simp only [Bool.and_eq_true, Bool.or_eq_true, decide_eq_true_eq] at b
  have e : endS k (j : Int) = (((vxL.getD k 0).natAbs * j / 1000 * ((vxL.getD k 0).natAbs * j / 1000) + (vyL.getD k 0).natAbs * j / 1000 * ((vyL.getD k 0).natAbs * j / 1000) : Nat) : Int) := by
    unfold endS
    rw [sq_abs, sq_abs ((vY k * (j : Int)).tdiv 1000), tdiv_abs, tdiv_abs]
    rfl
  generalize hE : (vxL.getD k 0).natAbs * j / 1000 * ((vxL.getD k 0).natAbs * j / 1000) + (vyL.getD k 0).natAbs * j / 1000 * ((vyL.getD k 0).natAbs * j / 1000) = E at b e
  rw [e]
  refine ⟨?_, fun h4 => ?_⟩
  · have : ((E : Nat) : Int) ≤ (((j + 1) * (j + 1) : Nat) : Int) := by omega
    simpa using this
  · rcases b.2 with h5 | h5
    · omega
    · have h6 : (((j - 4) * (j - 4) : Nat) : Int) < (E : Int) := by omega
      rw [Int.natCast_mul, show ((j - 4 : Nat) : Int) = (j : Int) - 4 by omega] at h6
      exact h6
theorem endS_rt {k : Nat} (hk : k ≤ 23) {J : Int} (h0 : 0 ≤ J) (h1 : J < 1000) : (0 ≤ rt (endS k J) ∧ rt (endS k J) ≤ 1001) ∧ rt (endS k J) ≤ J + 1 ∧ J - 3 ≤ rt (endS k J) := by
  obtain ⟨a, b⟩ := endS_len hk h0 h1
  have hm := sq_mono (a := J + 1) (b := 1000) (by omega) (by omega)
  obtain ⟨r0, r1, r2⟩ := rt_spec (n := endS k J) (by omega)
  generalize rt (endS k J) = r at *
  have hr : r ≤ J + 1 := by
    rcases Int.lt_or_le (J + 1) r with h | h
    · have := r2 (J + 1) (by omega) h
      omega
    · exact h
  refine ⟨⟨r0, by omega⟩, hr, ?_⟩
  rcases Int.lt_or_le r (J - 3) with h | h
  · have h5 := b (by omega)
    have h6 := sq_mono (a := r) (b := J - 4) r0 (by omega)
    omega
  · exact h
theorem endS_bd {k : Nat} (hk : k ≤ 23) {J : Int} (h0 : 0 ≤ J) (h1 : J < 1000) : 0 ≤ endS k J ∧ endS k J ≤ 1000000 := by
  obtain ⟨a, b⟩ := endS_len hk h0 h1
  have hm := sq_mono (a := J + 1) (b := 1000) (by omega) (by omega)
  refine ⟨?_, by omega⟩
  unfold endS
  rw [sq_abs, sq_abs ((vY k * J).tdiv 1000)]
  omega
theorem opp_vec {k : Nat} (hk : k ≤ 23) : vX (opp k : Nat) = -vX k ∧ vY (opp k : Nat) = -vY k := by
  have : ∀ m < 24, vxL.getD ((m + 12) % 24) 0 = -vxL.getD m 0 ∧ vyL.getD ((m + 12) % 24) 0 = -vyL.getD m 0 := by decide
  exact this k (by omega)
theorem same_sign (v : Int) {J B : Int} (h0 : 0 ≤ J) (h1 : 0 ≤ B) : 0 ≤ (v * J).tdiv 1000 * (v * B).tdiv 1000 := by
  rcases Int.lt_or_le v 0 with h | h
  · have e : ∀ X : Int, (v * X).tdiv 1000 = -((-v * X).tdiv 1000) := fun X => by rw [Int.neg_mul, Int.neg_tdiv, Int.neg_neg]
    rw [e, e, Int.neg_mul_neg]
    exact Int.mul_nonneg (Int.tdiv_nonneg (Int.mul_nonneg (by omega) h0) (by decide)) (Int.tdiv_nonneg (Int.mul_nonneg (by omega) h1) (by decide))
  · exact Int.mul_nonneg (Int.tdiv_nonneg (Int.mul_nonneg h h0) (by decide)) (Int.tdiv_nonneg (Int.mul_nonneg h h1) (by decide))
theorem opp_dot {k : Nat} (hk : k ≤ 23) {J B : Int} (h0 : 0 ≤ J) (h1 : 0 ≤ B) : (vX k * J).tdiv 1000 * (vX (opp k : Nat) * B).tdiv 1000 + (vY k * J).tdiv 1000 * (vY (opp k : Nat) * B).tdiv 1000 ≤ 0 := by
  obtain ⟨e1, e2⟩ := opp_vec hk
  have a := same_sign (vX k) h0 h1
  have b := same_sign (vY k) h0 h1
  rw [e1, e2, Int.neg_mul, Int.neg_mul, Int.neg_tdiv, Int.neg_tdiv, Int.mul_neg, Int.mul_neg]
  omega
end Go.Proofs.YtbdhmadgflmhmaaDoor
