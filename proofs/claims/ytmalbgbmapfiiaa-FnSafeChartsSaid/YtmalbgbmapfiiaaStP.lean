/- Plain laws of stability: masses, moments, codes, the least ballast, the greatest load. No program in sight. -/
import Derived.Test.YtmalbgbmapfiiaaPlain
import Derived.Test.YtmalbgbmapfiiaaBaseV
namespace Go.Proofs.Ytmalbgbmapfiiaa
def totB (x1 x2 x3 x5 ld : Int) : Int := x1 + x2 + x3 + x5 + ld
def momB (x3 x4 x5 x6 ld r : Int) : Int := ld * r + x3 * x4 - x5 * x6
def codB (ok : Bool) (ld r pc : Int) : Int := if ok = true then (if inI ld 0 50000 = true ∧ inI r 0 1000 = true ∧ inI pc 100 1000 = true then 0 else 2) else 1
/-- a value that stands behind an error code -/
def zif (k v : Int) : Int := if k = 0 then v else 0
theorem zif_y {k v : Int} (h : k = 0) : zif k v = v := if_pos h
theorem zif_n {k v : Int} (h : ¬ k = 0) : zif k v = 0 := if_neg h
theorem codB_t {ok : Bool} {ld r pc : Int} (h : codB ok ld r pc = 0) : ok = true ∧ (0 ≤ ld ∧ ld ≤ 50000) ∧ (0 ≤ r ∧ r ≤ 1000) ∧ (100 ≤ pc ∧ pc ≤ 1000) := by
  unfold codB at h
  by_cases h0 : ok = true
  · rw [if_pos h0] at h
    by_cases h1 : inI ld 0 50000 = true ∧ inI r 0 1000 = true ∧ inI pc 100 1000 = true
    · exact ⟨h0, inI_t h1.1, inI_t h1.2.1, inI_t h1.2.2⟩
    · rw [if_neg h1] at h; omega
  · rw [if_neg h0] at h; omega
theorem codB_bd (ok : Bool) (ld r pc : Int) : 0 ≤ codB ok ld r pc ∧ codB ok ld r pc ≤ 2 := by unfold codB; split; split <;> omega; omega
theorem codB_1 {ok : Bool} (ld r pc : Int) (h : ok = false) : codB ok ld r pc = 1 := if_neg (by simp [h])
theorem codB_2 {ok : Bool} {ld r pc : Int} (h : ok = true) (h1 : inI ld 0 50000 = false ∨ inI r 0 1000 = false ∨ inI pc 100 1000 = false) : codB ok ld r pc = 2 :=
  (if_pos h).trans (if_neg (by rcases h1 with h1 | h1 | h1 <;> simp [h1]))
theorem codB_0 {ok : Bool} {ld r pc : Int} (h : ok = true) (h1 : inI ld 0 50000 = true) (h2 : inI r 0 1000 = true) (h3 : inI pc 100 1000 = true) : codB ok ld r pc = 0 := (if_pos h).trans (if_pos ⟨h1, h2, h3⟩)
theorem codB_100 {ok : Bool} {ld r pc : Int} (h : inI pc 100 1000 = true) : codB ok ld r 100 = codB ok ld r pc := by
  unfold codB; rw [h, inI_y (show (100 : Int) ≤ 100 ∧ (100 : Int) ≤ 1000 by omega)]
theorem mul_bd {a b A B : Int} (h0 : 0 ≤ a) (h1 : a ≤ A) (h2 : 0 ≤ b) (h3 : b ≤ B) : 0 ≤ a * b ∧ a * b ≤ A * B := ⟨Int.mul_nonneg h0 h2, Int.mul_le_mul h1 h3 h2 (by omega)⟩
theorem tot_bd {x0 x1 x2 x3 x4 x5 x6 ld : Int} (h : okB x0 x1 x2 x3 x4 x5 x6 = true) (hl : 0 ≤ ld ∧ ld ≤ 50000) : 1 ≤ totB x1 x2 x3 x5 ld ∧ totB x1 x2 x3 x5 ld ≤ 2050000 := by
  have := okB_t h; unfold totB; omega
theorem mom_bd {x0 x1 x2 x3 x4 x5 x6 ld r : Int} (h : okB x0 x1 x2 x3 x4 x5 x6 = true) (hl : 0 ≤ ld ∧ ld ≤ 50000) (hr : 0 ≤ r ∧ r ≤ 1000) :
    (0 ≤ ld * r ∧ ld * r ≤ 50000000) ∧ (0 ≤ x3 * x4 ∧ x3 * x4 ≤ 500000000) ∧ (0 ≤ x5 * x6 ∧ x5 * x6 ≤ 500000000) ∧ (-500000000 ≤ momB x3 x4 x5 x6 ld r ∧ momB x3 x4 x5 x6 ld r ≤ 550000000) := by
  obtain ⟨h0, h1, h2, h3, h4, h5, h6⟩ := okB_t h
  have a := mul_bd hl.1 hl.2 hr.1 hr.2
  have b := mul_bd h3.1 h3.2 h4.1 h4.2
  have c := mul_bd h5.1 h5.2 h6.1 h6.2
  unfold momB
  omega
theorem abs_bd {x A : Int} (h : -A ≤ x ∧ x ≤ A) : 0 ≤ absI x ∧ absI x ≤ A := by unfold absI; split <;> omega
/-- whether a base is stable -/
def stB (x0 tot mom pc : Int) : Bool := decide (2 * pc * absI mom ≤ 100 * tot * x0)
theorem stab_bd {x0 x1 x2 x3 x4 x5 x6 ld r pc : Int} (h : okB x0 x1 x2 x3 x4 x5 x6 = true) (hl : 0 ≤ ld ∧ ld ≤ 50000) (hr : 0 ≤ r ∧ r ≤ 1000) (hp : 100 ≤ pc ∧ pc ≤ 1000) :
    (100 ≤ 100 * totB x1 x2 x3 x5 ld ∧ 100 * totB x1 x2 x3 x5 ld ≤ 205000000) ∧ (0 ≤ 100 * totB x1 x2 x3 x5 ld * x0 ∧ 100 * totB x1 x2 x3 x5 ld * x0 ≤ 41000000000) ∧ (200 ≤ 2 * pc ∧ 2 * pc ≤ 2000) ∧
    (0 ≤ absI (momB x3 x4 x5 x6 ld r) ∧ absI (momB x3 x4 x5 x6 ld r) ≤ 550000000) ∧ (0 ≤ 2 * pc * absI (momB x3 x4 x5 x6 ld r) ∧ 2 * pc * absI (momB x3 x4 x5 x6 ld r) ≤ 1100000000000) := by
  have t := tot_bd h hl
  have m := (mom_bd h hl hr).2.2.2
  obtain ⟨h0, _⟩ := okB_t h
  have a := abs_bd (x := momB x3 x4 x5 x6 ld r) (A := 550000000) (by omega)
  have p := mul_bd (a := 100 * totB x1 x2 x3 x5 ld) (b := x0) (A := 205000000) (B := 200) (by omega) (by omega) (by omega) (by omega)
  have q := mul_bd (a := 2 * pc) (b := absI (momB x3 x4 x5 x6 ld r)) (A := 2000) (B := 550000000) (by omega) (by omega) a.1 a.2
  exact ⟨by omega, by omega, by omega, a, by omega⟩
/-- the least ballast, before it is compared with the greatest mass -/
def lbB (x0 x1 x3 x4 x5 x6 ld r pc : Int) : Int := maxI ((2 * pc * absI (momB x3 x4 x5 x6 ld r) + 100 * x0 - 1) / (100 * x0) - totB x1 0 x3 x5 ld) 0
/-- stable from the least ballast on -/
theorem st_lb {x0 x1 x3 x4 x5 x6 ld r pc b : Int} (h0 : 10 ≤ x0) (hb : 0 ≤ b) : stB x0 (totB x1 b x3 x5 ld) (momB x3 x4 x5 x6 ld r) pc = decide (lbB x0 x1 x3 x4 x5 x6 ld r pc ≤ b) := by
  have e : (2 * pc * absI (momB x3 x4 x5 x6 ld r) + 100 * x0 - 1) / (100 * x0) ≤ totB x1 b x3 x5 ld ↔ 2 * pc * absI (momB x3 x4 x5 x6 ld r) ≤ totB x1 b x3 x5 ld * (100 * x0) := up_le (by omega)
  have e2 : totB x1 b x3 x5 ld * (100 * x0) = 100 * totB x1 b x3 x5 ld * x0 := by rw [← Int.mul_assoc, Int.mul_comm (totB x1 b x3 x5 ld) 100]
  rw [e2] at e
  have e3 : totB x1 b x3 x5 ld = totB x1 0 x3 x5 ld + b := by unfold totB; omega
  unfold stB
  rw [decide_eq_decide, ← e, e3]
  unfold lbB maxI
  split <;> omega
theorem lb_nn (x0 x1 x3 x4 x5 x6 ld r pc : Int) : 0 ≤ lbB x0 x1 x3 x4 x5 x6 ld r pc := by unfold lbB maxI; split <;> omega
/-- a binary search for the least ballast -/
def LbInv (L lo hi : Int) : Prop := -1 ≤ lo ∧ lo < hi ∧ hi ≤ 500000 ∧ lo < L ∧ L ≤ hi
theorem LbInv.bd {L lo hi : Int} (h : LbInv L lo hi) : -1 ≤ lo ∧ lo < hi ∧ hi ≤ 500000 := ⟨h.1, h.2.1, h.2.2.1⟩
theorem LbInv.start {L : Int} (h0 : 0 ≤ L) (h1 : L ≤ 500000) : LbInv L (-1) 500000 := by unfold LbInv; omega
theorem LbInv.up {L lo hi m : Int} (h : LbInv L lo hi) (h0 : lo < m) (h1 : m < hi) (ht : ¬ L ≤ m) : LbInv L m hi := by unfold LbInv at *; omega
theorem LbInv.down {L lo hi m : Int} (h : LbInv L lo hi) (h0 : lo < m) (h1 : m < hi) (ht : L ≤ m) : LbInv L lo m := by unfold LbInv at *; omega
theorem LbInv.fin {L lo hi : Int} (h : LbInv L lo hi) (he : ¬ 1 < hi - lo) : L = hi := by unfold LbInv at *; omega
/-- the pressure as a fraction, before it is reduced -/
def prN (x0 tot m : Int) : Int := if 6 * m ≤ tot * x0 then tot * x0 + 6 * m else 4 * tot * tot
def prD (x0 tot m : Int) : Int := if 6 * m ≤ tot * x0 then x0 * x0 * x0 else 3 * x0 * (x0 * tot - 2 * m)
/-- fractions of one value have one form in lowest terms -/
theorem low_mul {g a b : Int} (hg : 1 ≤ g) : (g * a).tdiv (gcdI (g * a) (g * b)) = a.tdiv (gcdI a b) ∧ (g * b) / gcdI (g * a) (g * b) = b / gcdI a b := by
  have e : gcdI (g * a) (g * b) = g * gcdI a b := by
    unfold gcdI
    rw [Int.gcd_mul_left]
    have : ((g.natAbs : Nat) : Int) = g := by omega
    rw [Int.natCast_mul, this]
  rw [e]
  exact ⟨Int.mul_tdiv_mul_of_pos _ _ (by omega), Int.mul_ediv_mul_of_pos _ _ (by omega)⟩
/-- a safety is enough just where the base is stable -/
theorem safe_iff {t m p g : Int} (hg : 1 ≤ g) (h1 : g ∣ t) (h2 : g ∣ 2 * m) : (p * (2 * m / g) ≤ 100 * (t / g)) ↔ 2 * p * m ≤ 100 * t := by
  obtain ⟨t', rfl⟩ := h1
  obtain ⟨m', hm⟩ := h2
  rw [hm, Int.mul_ediv_cancel_left _ (by omega), Int.mul_ediv_cancel_left _ (by omega)]
  have e1 : 2 * p * m = g * (p * m') := by
    rw [show 2 * p * m = p * (2 * m) by rw [Int.mul_comm 2 p, Int.mul_assoc], hm, Int.mul_left_comm]
  have e2 : 100 * (g * t') = g * (100 * t') := Int.mul_left_comm ..
  rw [e1, e2]
  constructor
  · intro h; exact Int.mul_le_mul_of_nonneg_left h (by omega)
  · intro h; exact Int.le_of_mul_le_mul_left h (by omega)
end Go.Proofs.Ytmalbgbmapfiiaa
