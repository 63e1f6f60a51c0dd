/- The point at a radius in a direction, both sides. -/
import Derived.Test.YtmgbbkglafnibaaVct
namespace Go.Proofs.Ytmgbbkglafnibaa
open Go.RowKit Go.Deep
theorem keepc {W w1 : World} {b o : Nat} {v : Value} (hb : Below W.heap.size W w1) (h : W.cell? ⟨b, o, none⟩ = some v) : w1.cell? ⟨b, o, none⟩ = some v := (hb.cell (p := ⟨b, o, none⟩) (lt_of_cell h)).trans h
def atI (x v r : Int) : Int := x + (v * r).tdiv 1000
theorem tdiv_bd {n : Int} {K : Nat} (h : -(1000 * (K : Int)) ≤ n ∧ n ≤ 1000 * (K : Int)) : -(K : Int) ≤ n.tdiv 1000 ∧ n.tdiv 1000 ≤ (K : Int) := by
  by_cases h0 : 0 ≤ n
  · rw [Int.tdiv_eq_ediv_of_nonneg h0]; omega
  · have e : n = -(-n) := by omega
    rw [e, Int.neg_tdiv, Int.tdiv_eq_ediv_of_nonneg (by omega)]; omega
theorem mul_bd {v r : Int} (hv : -1000 ≤ v ∧ v ≤ 1000) (hr : 0 ≤ r ∧ r ≤ 1000) : -(1000 * ((1000 : Nat) : Int)) ≤ v * r ∧ v * r ≤ 1000 * ((1000 : Nat) : Int) := by
  have h1 : 0 ≤ (v + 1000) * r := Int.mul_nonneg (by omega) hr.1
  have h2 : 0 ≤ (1000 - v) * r := Int.mul_nonneg (by omega) hr.1
  rw [Int.add_mul] at h1
  rw [Int.sub_mul] at h2
  omega
theorem atI_bd {x v r : Int} (hv : -1000 ≤ v ∧ v ≤ 1000) (hr : 0 ≤ r ∧ r ≤ 1000) : x - 1000 ≤ atI x v r ∧ atI x v r ≤ x + 1000 := by
  have h := tdiv_bd (mul_bd hv hr)
  unfold atI
  omega
set_option maxHeartbeats 4000000 in
set_option maxRecDepth 20000 in
theorem at02_any (x y r : Int) (n : Nat) (w : World) (hx : -100000 ≤ x ∧ x ≤ 100000) (hy : -100000 ≤ y ∧ y ≤ 100000) (hn : n ≤ 23) (hr : 0 ≤ r ∧ r ≤ 1000) : Calls Try.prog 80 #[.agg #[.int .i64 x, .int .i64 y], .int .i64 (n : Int), .int .i64 r] w fun e w' => e = .returned (.agg #[.int .i64 (atI x (vX n) r), .int .i64 (atI y (vY n) r)]) ∧ Below w.heap.size w w' := by
  obtain ⟨hvx, hvy⟩ := vXY_bd n
  obtain ⟨vx, evx⟩ : ∃ q, vX n = q := ⟨_, rfl⟩
  obtain ⟨vy, evy⟩ : ∃ q, vY n = q := ⟨_, rfl⟩
  rw [evx] at hvx
  rw [evy] at hvy
  rw [evx, evy]
  have HVX := Lib.hid evx
  have HVY := Lib.hid evy
  clear evx evy
  have m1 := mul_bd hvx hr
  have m2 := mul_bd hvy hr
  have t1 := tdiv_bd m1
  have t2 := tdiv_bd m2
  have hs : True := trivial
  have HX0 := Lib.hid (show Box2 ((w.alloc (.cells #[.int .i64 x, .int .i64 y] 79)).alloc (.cells #[.int .i64 0, .int .i64 0] 79)) (w.heap.size) 79 (.int .i64 x) (.int .i64 y) by have h := (Box2.new (w) 79 (.int .i64 x) (.int .i64 y)).late (gr_alloc (o := .cells #[.int .i64 0, .int .i64 0] 79) (gr_refl _)); (try simp only [World.size_alloc] at h); exact h)
  have q0_0 := HX0.out.c0
  have q0_1 := HX0.out.c1
  have HX1 := Lib.hid (show Box2 ((w.alloc (.cells #[.int .i64 x, .int .i64 y] 79)).alloc (.cells #[.int .i64 0, .int .i64 0] 79)) (w.heap.size + 1) 79 (.int .i64 0) (.int .i64 0) by have h := Box2.new (w.alloc (.cells #[.int .i64 x, .int .i64 y] 79)) 79 (.int .i64 0) (.int .i64 0); (try simp only [World.size_alloc] at h); exact h)
  have q1_0 := HX1.out.c0
  have q1_1 := HX1.out.c1
  have HB := Lib.hid (show Below w.heap.size w ((w.alloc (.cells #[.int .i64 x, .int .i64 y] 79)).alloc (.cells #[.int .i64 0, .int .i64 0] 79)) by repeat' first | exact gr_refl _ | with_reducible assumption | with_reducible apply gr_alloc | with_reducible apply gr_set | with_reducible apply gr_drew | with_reducible apply gr_drewN | exact Nat.le_add_right _ _ | exact Nat.le_refl _ | (refine gr_then (by with_reducible assumption) ?_))
  have hz : w.heap.size + 2 ≤ ((w.alloc (.cells #[.int .i64 x, .int .i64 y] 79)).alloc (.cells #[.int .i64 0, .int .i64 0] 79)).heap.size := by simp
  go_enter Try.func80, Try.ntmps80
  go_wp2_with fail
  generalize (w.alloc (.cells #[.int .i64 x, .int .i64 y] 79)).alloc (.cells #[.int .i64 0, .int .i64 0] 79) = v0 at *
  have f0 := HX1.out.f0 0
  have f1 := HX1.out.f0 1
  go_at_call 87
  (with_reducible refine (specVec_any n _ hn).mono ?_)
  rintro e u1 ⟨he, hb⟩
  have hy1 := hb.size
  replace q0_0 := keepc hb q0_0
  replace q0_1 := keepc hb q0_1
  replace q1_0 := keepc hb q1_0
  replace q1_1 := keepc hb q1_1
  replace HX0 := Lib.hid (HX0.out.late hb)
  replace HX1 := Lib.hid (HX1.out.late hb)
  replace f0 := HX1.out.f0 0
  replace f1 := HX1.out.f0 1
  replace HB := Lib.hid (gr_then hb HB.out)
  clear hb
  rw [HVX.out, HVY.out] at he
  subst he
  have hp0 : w.heap.size < u1.heap.size := by omega
  have hp1 : w.heap.size + 1 < u1.heap.size := by omega
  go_wp2_with fail
  refine bodyPost_ret (v := .agg #[.int .i64 (x + (vx * r).tdiv 1000), .int .i64 (y + (vy * r).tdiv 1000)]) (by simp [results, Try.results80, go_sem, *]) rfl ⟨rfl, by repeat' first | exact HB.out | (refine gr_set (by dsimp only; omega) ?_) | (refine gr_alloc ?_)⟩
end Go.Proofs.Ytmgbbkglafnibaa
