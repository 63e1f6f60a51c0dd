/- Plain facts on the squares of distances of two segments. -/
import Derived.Test.YtmgbbkglafnibaaSegG
namespace Go.Proofs.Ytmgbbkglafnibaa
open Go.RowKit
theorem lagr (u v p q : Int) : (u * q - v * p) * (u * q - v * p) + (u * p + v * q) * (u * p + v * q) = (u * u + v * v) * (p * p + q * q) := by grind
theorem sq_nonneg' (x : Int) : 0 ≤ x * x := by
  rcases Int.le_total 0 x with h | h
  · exact Int.mul_nonneg h h
  · exact Int.mul_nonneg_of_nonpos_of_nonpos h h
theorem crs_le {a b c d x y : Int} : crs a b c d x y * crs a b c d x y ≤ sq2 a b c d * sq2 a b x y := by
  have h := lagr (c - a) (d - b) (x - a) (y - b)
  have k := sq_nonneg' ((c - a) * (x - a) + (d - b) * (y - b))
  have e1 : sq2 a b c d = (c - a) * (c - a) + (d - b) * (d - b) := by unfold sq2; grind
  have e2 : sq2 a b x y = (x - a) * (x - a) + (y - b) * (y - b) := by unfold sq2; grind
  rw [e1, e2, ← h]
  unfold crs
  omega
def okF (p : Int × Int) : Prop := 0 ≤ p.1 ∧ p.1 ≤ 937024000000000000 ∧ 1 ≤ p.2 ∧ p.2 ≤ 968000000 ∧ p.1 ≤ 968000000 * p.2
def psF (a b c d x y : Int) : Int × Int := (psN a b c d x y, psD a b c d x y)
theorem psF_ok {a b c d x y : Int} (h1 : okSg a b c d = true) (h2 : okPt x y = true) : okF (psF a b c d x y) := by
  obtain ⟨u1, u2⟩ := okSg_t h1
  have z1 := sq2_bd u1 u2
  have z2 := sq2_bd u1 h2
  have z3 := sq2_bd u2 h2
  have z4 := crs2_bd h1 h2
  by_cases t1 : dtI a b c d x y ≤ 0
  · rw [show psF a b c d x y = (sq2 a b x y, 1) by simp [psF, psN, psD, t1]]
    exact ⟨z2.1, by show sq2 a b x y ≤ _; omega, by show (1 : Int) ≤ 1; omega, by show (1 : Int) ≤ _; omega, by show sq2 a b x y ≤ 968000000 * 1; omega⟩
  by_cases t2 : sq2 a b c d ≤ dtI a b c d x y
  · rw [show psF a b c d x y = (sq2 c d x y, 1) by simp [psF, psN, psD, t1, t2]]
    exact ⟨z3.1, by show sq2 c d x y ≤ _; omega, by show (1 : Int) ≤ 1; omega, by show (1 : Int) ≤ _; omega, by show sq2 c d x y ≤ 968000000 * 1; omega⟩
  have hL : 0 < sq2 a b c d := by omega
  have g1 := gcdI_pos (a := crs a b c d x y * crs a b c d x y) hL
  have g2 := gcdI_le (a := crs a b c d x y * crs a b c d x y) hL
  have d1 := gcdI_dvd_left (crs a b c d x y * crs a b c d x y) (sq2 a b c d)
  have d2 := gcdI_dvd_right (crs a b c d x y * crs a b c d x y) (sq2 a b c d)
  have k := crs_le (a := a) (b := b) (c := c) (d := d) (x := x) (y := y)
  have k2 : sq2 a b c d * sq2 a b x y ≤ sq2 a b c d * 968000000 := Int.mul_le_mul_of_nonneg_left z2.2 (by omega)
  rw [show psF a b c d x y = (crs a b c d x y * crs a b c d x y / gcdI (crs a b c d x y * crs a b c d x y) (sq2 a b c d), sq2 a b c d / gcdI (crs a b c d x y * crs a b c d x y) (sq2 a b c d)) by simp [psF, psN, psD, t1, t2]]
  generalize crs a b c d x y * crs a b c d x y = C at *
  generalize sq2 a b c d = L at *
  generalize gcdI C L = G at *
  obtain ⟨n, rfl⟩ := d1
  obtain ⟨m, rfl⟩ := d2
  have hG : G ≠ 0 := by omega
  have e1 : G * n / G = n := Int.mul_ediv_cancel_left _ hG
  have e2 : G * m / G = m := Int.mul_ediv_cancel_left _ hG
  have n0 : 0 ≤ n := Int.le_of_mul_le_mul_left (a := G) (by rw [Int.mul_zero]; exact z4.1) (by omega)
  have m0 : 0 < m := Int.lt_of_mul_lt_mul_left (a := G) (by rw [Int.mul_zero]; exact hL) (by omega)
  have n1 : n ≤ G * n := by have := Int.mul_le_mul_of_nonneg_right g1 n0; omega
  have m1 : m ≤ G * m := by have := Int.mul_le_mul_of_nonneg_right g1 (show 0 ≤ m by omega); omega
  have nm : n ≤ 968000000 * m := by
    refine Int.le_of_mul_le_mul_left (a := G) ?_ (by omega)
    have : G * (968000000 * m) = G * m * 968000000 := by grind
    omega
  show okF (G * n / G, G * m / G)
  rw [e1, e2]
  exact ⟨n0, by show n ≤ _; omega, by show 1 ≤ m; omega, by show m ≤ _; omega, nm⟩
def stepB (b f : Int × Int) : Int × Int := if lsB f.1 f.2 b.1 b.2 = true then f else b
theorem stepB_y {a b c d : Int} (t : lsB c d a b = true) : stepB (a, b) (c, d) = (c, d) := if_pos t
theorem stepB_n {a b c d : Int} (t : lsB c d a b = false) : stepB (a, b) (c, d) = (a, b) := if_neg (by simp [t])
theorem stepB_ok {b f : Int × Int} (hb : okF b) (hf : okF f) : okF (stepB b f) := by unfold stepB; split <;> assumption
def foldZ (zs : List Int) (b : Int × Int) : Nat → Int × Int
  | 0 => b
  | k + 1 => stepB (foldZ zs b k) (zs.getD (k * 2) 0, zs.getD (k * 2 + 1) 0)
theorem foldZ_ok {zs : List Int} {b : Int × Int} (hb : okF b) : ∀ k : Nat, (∀ j, j < k → okF (zs.getD (j * 2) 0, zs.getD (j * 2 + 1) 0)) → okF (foldZ zs b k)
  | 0, _ => hb
  | k + 1, h => stepB_ok (foldZ_ok hb k fun j hj => h j (by omega)) (h k (by omega))
def ssL (a b c d e f g h : Int) : List Int := [psN a b c d g h, psD a b c d g h, psN e f g h a b, psD e f g h a b, psN e f g h c d, psD e f g h c d]
theorem ssL_ok {a b c d e f g h : Int} (h1 : okSg a b c d = true) (h2 : okSg e f g h = true) : ∀ k : Nat, k < 3 → okF ((ssL a b c d e f g h).getD (k * 2) 0, (ssL a b c d e f g h).getD (k * 2 + 1) 0) := by
  obtain ⟨u1, u2⟩ := okSg_t h1
  obtain ⟨u3, u4⟩ := okSg_t h2
  intro k hk
  rcases (show k = 0 ∨ k = 1 ∨ k = 2 by omega) with rfl | rfl | rfl
  · exact psF_ok h1 u4
  · exact psF_ok h2 u1
  · exact psF_ok h2 u2
def ssF (a b c d e f g h : Int) : Int × Int := if meetB a b c d e f g h = true then (0, 1) else foldZ (ssL a b c d e f g h) (psF a b c d e f) 3
theorem ssF_ok {a b c d e f g h : Int} (h1 : okSg a b c d = true) (h2 : okSg e f g h = true) : okF (ssF a b c d e f g h) := by
  obtain ⟨u3, u4⟩ := okSg_t h2
  unfold ssF
  split
  · exact ⟨by show (0 : Int) ≤ 0; omega, by show (0 : Int) ≤ _; omega, by show (1 : Int) ≤ 1; omega, by show (1 : Int) ≤ _; omega, by show (0 : Int) ≤ 968000000 * 1; omega⟩
  · exact foldZ_ok (psF_ok h1 u3) 3 (ssL_ok h1 h2)
theorem sgI_neg {n : Int} : sgI n < 0 ↔ n < 0 := by
  unfold sgI
  split
  · omega
  · split <;> omega
theorem BI.two {W : World} {g t : Nat} {x y : Int} (h : BI W g t [x, y]) : W.cell? ⟨g, 0, none⟩ = some (.int .i64 x) ∧ W.cell? ⟨g, 1, none⟩ = some (.int .i64 y) ∧ W.frozen? ⟨g, 0, none⟩ = false ∧ W.frozen? ⟨g, 1, none⟩ = false :=
  ⟨h.cell 0 (by simp), h.cell 1 (by simp), h.free 0, h.free 1⟩
/-- the greatest number from 0 on whose square is at most n -/
noncomputable def flr (n : Int) : Int := if n < rt n * rt n then rt n - 1 else rt n
theorem flr_eq {n r : Int} (h0 : 0 ≤ r) (h1 : r * r ≤ n) (h2 : n < (r + 1) * (r + 1)) : flr n = r := by
  by_cases e : r * r = n
  · have hr : rt n = r := rt_eq ⟨h0, by omega, fun s hs hl => by
      have := sq_mono hs (show s ≤ r - 1 by omega)
      have e2 : (r - 1) * (r - 1) = r * r - 2 * r + 1 := by grind
      omega⟩
    unfold flr
    rw [hr, if_neg (by omega)]
  · have hr : rt n = r + 1 := rt_eq ⟨by omega, by omega, fun s hs hl => by
      have := sq_mono hs (show s ≤ r by omega)
      omega⟩
    unfold flr
    rw [hr, if_pos (by omega)]
    omega
theorem flr_frac {N D lo : Int} (hD : 1 ≤ D) (h0 : 0 ≤ lo) (h1 : lo * lo * D ≤ N) (h2 : N < (lo + 1) * (lo + 1) * D) : flr (N / D) = lo :=
  flr_eq h0 (Int.le_ediv_of_mul_le (by omega) h1) (Int.ediv_lt_of_lt_mul (by omega) h2)
end Go.Proofs.Ytmgbbkglafnibaa
