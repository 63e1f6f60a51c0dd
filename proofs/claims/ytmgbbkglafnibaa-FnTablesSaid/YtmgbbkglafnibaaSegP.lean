/- Plain facts on segments, points and their distances: no program. -/
import Derived.Test.YtmgbbkglafnibaaSeg
import Derived.Test.YtmgbbkglafnibaaPlain
namespace Go.Proofs.Ytmgbbkglafnibaa
theorem mul_in {x y : Int} (M N : Nat) (hx : -(M : Int) ≤ x ∧ x ≤ M) (hy : -(N : Int) ≤ y ∧ y ≤ N) : -((M * N : Nat) : Int) ≤ x * y ∧ x * y ≤ ((M * N : Nat) : Int) := by
  have h1 : x.natAbs ≤ M := by omega
  have h2 : y.natAbs ≤ N := by omega
  have h3 := Nat.mul_le_mul h1 h2
  rw [← Int.natAbs_mul] at h3
  generalize x * y = z at *
  generalize M * N = k at *
  omega
theorem okSg_t {a b c d : Int} (h : okSg a b c d = true) : okPt a b = true ∧ okPt c d = true := by simpa [okSg] using h
theorem okSg_y {a b c d : Int} (h : okPt a b = true) (h' : okPt c d = true) : okSg a b c d = true := by simp [okSg, h, h']
theorem dif_bd {x y : Int} (h : -11000 ≤ x ∧ x ≤ 11000) (h' : -11000 ≤ y ∧ y ≤ 11000) : -22000 ≤ x - y ∧ x - y ≤ 22000 := by omega
theorem pr_bd {x y z u : Int} (hx : -11000 ≤ x ∧ x ≤ 11000) (hy : -11000 ≤ y ∧ y ≤ 11000) (hz : -11000 ≤ z ∧ z ≤ 11000) (hu : -11000 ≤ u ∧ u ≤ 11000) : -484000000 ≤ (x - y) * (z - u) ∧ (x - y) * (z - u) ≤ 484000000 := by
  have := mul_in 22000 22000 (dif_bd hx hy) (dif_bd hz hu)
  omega
def crs (a b c d x y : Int) : Int := (c - a) * (y - b) - (d - b) * (x - a)
def dtI (a b c d x y : Int) : Int := (c - a) * (x - a) + (d - b) * (y - b)
def sq2 (a b x y : Int) : Int := (a - x) * (a - x) + (b - y) * (b - y)
def sgI (n : Int) : Int := if 0 < n then 1 else if n < 0 then -1 else 0
theorem sgI_bd (n : Int) : -1 ≤ sgI n ∧ sgI n ≤ 1 := by unfold sgI; split; omega; split <;> omega
theorem sgI_0 {n : Int} : sgI n = 0 ↔ n = 0 := by
  unfold sgI
  split
  · omega
  · split <;> omega
theorem crs_bd {a b c d x y : Int} (h1 : okSg a b c d = true) (h2 : okPt x y = true) : -968000000 ≤ crs a b c d x y ∧ crs a b c d x y ≤ 968000000 := by
  obtain ⟨p, q⟩ := okSg_t h1
  obtain ⟨p0, p1, p2, p3⟩ := okPt_t p
  obtain ⟨q0, q1, q2, q3⟩ := okPt_t q
  obtain ⟨r0, r1, r2, r3⟩ := okPt_t h2
  have k1 := pr_bd ⟨q0, q1⟩ ⟨p0, p1⟩ ⟨r2, r3⟩ ⟨p2, p3⟩
  have k2 := pr_bd ⟨q2, q3⟩ ⟨p2, p3⟩ ⟨r0, r1⟩ ⟨p0, p1⟩
  unfold crs
  omega
theorem sq2_bd {a b x y : Int} (h1 : okPt a b = true) (h2 : okPt x y = true) : 0 ≤ sq2 a b x y ∧ sq2 a b x y ≤ 968000000 := by
  obtain ⟨p0, p1, p2, p3⟩ := okPt_t h1
  obtain ⟨r0, r1, r2, r3⟩ := okPt_t h2
  have k1 := pr_bd ⟨p0, p1⟩ ⟨r0, r1⟩ ⟨p0, p1⟩ ⟨r0, r1⟩
  have k2 := pr_bd ⟨p2, p3⟩ ⟨r2, r3⟩ ⟨p2, p3⟩ ⟨r2, r3⟩
  have s1 : 0 ≤ (a - x) * (a - x) := by rcases Int.le_total 0 (a - x) with h | h; exact Int.mul_nonneg h h; exact Int.mul_nonneg_of_nonpos_of_nonpos h h
  have s2 : 0 ≤ (b - y) * (b - y) := by rcases Int.le_total 0 (b - y) with h | h; exact Int.mul_nonneg h h; exact Int.mul_nonneg_of_nonpos_of_nonpos h h
  unfold sq2
  omega
theorem sq2_comm (a b x y : Int) : sq2 a b x y = sq2 x y a b := by
  unfold sq2
  rw [show a - x = -(x - a) by omega, show b - y = -(y - b) by omega, Int.neg_mul_neg, Int.neg_mul_neg]
def onB (a b c d x y : Int) : Bool := inI x (minI a c) (maxI a c) && inI y (minI b d) (maxI b d)
def covB (a b c d x y : Int) : Bool := decide (crs a b c d x y = 0) && onB a b c d x y
def optB (a b c d e f g h : Int) : Bool := decide (sgI (crs a b c d e f) * sgI (crs a b c d g h) < 0) && decide (sgI (crs e f g h a b) * sgI (crs e f g h c d) < 0)
def meetB (a b c d e f g h : Int) : Bool := covB a b c d e f || covB a b c d g h || covB e f g h a b || covB e f g h c d || optB a b c d e f g h
end Go.Proofs.Ytmgbbkglafnibaa
