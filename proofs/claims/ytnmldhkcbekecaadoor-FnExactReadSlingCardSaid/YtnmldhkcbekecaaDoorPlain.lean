/- Plain arithmetic, no program: square roots rounded up, greatest common divisors, quotients rounded up. -/
namespace Go.Proofs.YtnmldhkcbekecaaDoor
/-- r is the least number from 0 on whose square is at least n. -/
def IsRoot (n r : Int) : Prop := 0 ≤ r ∧ n ≤ r * r ∧ ∀ s, 0 ≤ s → s < r → s * s < n
theorem IsRoot.one {n r s : Int} (h : IsRoot n r) (k : IsRoot n s) : r = s := by
  rcases Int.lt_trichotomy r s with hl | he | hg
  · have := k.2.2 r h.1 hl
    have := h.2.1
    omega
  · exact he
  · have := h.2.2 s k.1 hg
    have := k.2.1
    omega
noncomputable def rt (n : Int) : Int := Classical.epsilon (IsRoot n)
theorem rt_eq {n r : Int} (h : IsRoot n r) : rt n = r := (Classical.epsilon_spec (p := IsRoot n) ⟨r, h⟩).one h
/-- the halving search's invariant -/
def RootInv (n lo hi top : Int) : Prop := 0 ≤ lo ∧ lo ≤ hi ∧ hi ≤ top ∧ n ≤ hi * hi ∧ ∀ s, 0 ≤ s → s < lo → s * s < n
theorem sq_mono {a b : Int} (h0 : 0 ≤ a) (h : a ≤ b) : a * a ≤ b * b := Int.mul_le_mul h h h0 (by omega)
theorem RootInv.start {n top : Int} (ht : 0 ≤ top) (h : n ≤ top * top) : RootInv n 0 top top := ⟨by omega, ht, by omega, h, fun s h0 h1 => by omega⟩
theorem RootInv.fin {n lo hi top : Int} (h : RootInv n lo hi top) (he : ¬ lo < hi) : rt n = lo := by
  obtain ⟨h0, h1, h2, h3, h4⟩ := h
  have e : lo = hi := by omega
  subst e
  exact rt_eq ⟨h0, h3, h4⟩
theorem RootInv.down {n lo hi top m : Int} (h : RootInv n lo hi top) (h0 : lo ≤ m) (h1 : m < hi) (ht : n ≤ m * m) : RootInv n lo m top :=
  ⟨h.1, h0, by have := h.2.2.1; omega, ht, h.2.2.2.2⟩
theorem RootInv.up {n lo hi top m : Int} (h : RootInv n lo hi top) (h0 : lo ≤ m) (h1 : m < hi) (ht : m * m < n) : RootInv n (m + 1) hi top :=
  ⟨by have := h.1; omega, by omega, h.2.2.1, h.2.2.2.1, fun s hs0 hs => Int.lt_of_le_of_lt (sq_mono hs0 (by omega)) ht⟩
theorem RootInv.bd {n lo hi top : Int} (h : RootInv n lo hi top) : 0 ≤ lo ∧ lo ≤ hi ∧ hi ≤ top := ⟨h.1, h.2.1, h.2.2.1⟩
theorem rt_spec {n : Int} (h : n ≤ 4000000000000) : IsRoot n (rt n) := by
  have hex : ∃ r, IsRoot n r := by
    have key : ∀ k : Nat, n ≤ (k : Int) * k → ∃ r, IsRoot n r := by
      intro k
      induction k with
      | zero => intro hk; exact ⟨0, by omega, by simpa using hk, fun s h0 h1 => by omega⟩
      | succ k ih =>
        intro hk
        by_cases hc : n ≤ (k : Int) * k
        · exact ih hc
        · refine ⟨((k + 1 : Nat) : Int), by omega, hk, fun s h0 h1 => ?_⟩
          have : s * s ≤ (k : Int) * k := sq_mono h0 (by omega)
          omega
    exact key 2000000 (by omega)
  exact Classical.epsilon_spec hex
theorem rt_bd {n top : Int} (h : n ≤ top * top) (ht : 0 ≤ top) (h2 : n ≤ 4000000000000) : 0 ≤ rt n ∧ rt n ≤ top := by
  have hr := rt_spec h2
  refine ⟨hr.1, ?_⟩
  by_cases hc : rt n ≤ top
  · exact hc
  · have := hr.2.2 top ht (by omega)
    omega
theorem rt_pos {n : Int} (h : 0 < n) (h2 : n ≤ 4000000000000) : 1 ≤ rt n := by
  have hr := rt_spec h2
  by_cases hc : rt n = 0
  · have := hr.2.1
    rw [hc] at this
    omega
  · have := hr.1
    omega
/-- the greatest common divisor of two numbers -/
def gcdI (a b : Int) : Int := (Int.gcd a b : Int)
theorem gcdI_zero {a : Int} (h : 0 ≤ a) : gcdI a 0 = a := by unfold gcdI; simp; omega
theorem gcdI_step {a b : Int} (ha : 0 ≤ a) (hb : 0 < b) : gcdI b (a % b) = gcdI a b := by
  obtain ⟨n, rfl⟩ := Int.eq_ofNat_of_zero_le ha
  obtain ⟨m, rfl⟩ := Int.eq_ofNat_of_zero_le (Int.le_of_lt hb)
  unfold gcdI
  congr 1
  show Nat.gcd _ _ = Nat.gcd _ _
  have e : ((n : Int) % (m : Int)).natAbs = n % m := by rw [← Int.natCast_emod]; rfl
  rw [e]
  show Nat.gcd m (n % m) = Nat.gcd n m
  rw [Nat.gcd_comm m (n % m), ← Nat.gcd_rec, Nat.gcd_comm]
theorem gcdI_pos {a b : Int} (hb : 0 < b) : 1 ≤ gcdI a b := by
  unfold gcdI
  have : 0 < Int.gcd a b := Nat.gcd_pos_of_pos_right _ (by omega)
  omega
theorem gcdI_nonneg (a b : Int) : 0 ≤ gcdI a b := by unfold gcdI; omega
theorem gcdI_le {a b : Int} (hb : 0 < b) : gcdI a b ≤ b := by
  unfold gcdI
  have : Int.gcd a b ≤ b.natAbs := Nat.gcd_le_right _ (by omega)
  omega
theorem gcdI_dvd_left (a b : Int) : gcdI a b ∣ a := Int.gcd_dvd_left ..
theorem gcdI_dvd_right (a b : Int) : gcdI a b ∣ b := Int.gcd_dvd_right ..
/-- a quotient rounded up is that of the fraction in lowest terms -/
theorem up_reduced {n d g : Int} (hd : 0 < d) (hg : 0 < g) (h1 : g ∣ n) (h2 : g ∣ d) : (n / g + d / g - 1) / (d / g) = (n + d - 1) / d := by
  obtain ⟨n', rfl⟩ := h1
  obtain ⟨d', rfl⟩ := h2
  have hg0 : g ≠ 0 := by omega
  rw [Int.mul_ediv_cancel_left _ hg0, Int.mul_ediv_cancel_left _ hg0]
  have e : (g * n' + g * d' - 1) / g = n' + d' - 1 := by
    have e1 : g * n' + g * d' - 1 = (g - 1) + g * (n' + d' - 1) := by rw [Int.mul_sub, Int.mul_add]; omega
    rw [e1, Int.add_mul_ediv_left _ _ hg0, Int.ediv_eq_zero_of_lt (by omega) (by omega)]
    omega
  rw [← Int.ediv_ediv_of_nonneg (by omega), e]
theorem up_le {n d m : Int} (hd : 0 < d) : (n + d - 1) / d ≤ m ↔ n ≤ m * d := by
  constructor
  · intro h
    have h1 := Int.lt_ediv_add_one_mul_self (n + d - 1) hd
    have h2 : ((n + d - 1) / d + 1) * d ≤ (m + 1) * d := Int.mul_le_mul_of_nonneg_right (by omega) (by omega)
    have h3 : (m + 1) * d = m * d + d := by rw [Int.add_mul]; omega
    omega
  · intro h
    have h1 : (n + d - 1) / d < m + 1 := Int.ediv_lt_of_lt_mul hd (by rw [Int.add_mul]; omega)
    omega
end Go.Proofs.YtnmldhkcbekecaaDoor
