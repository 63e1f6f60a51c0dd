/- Contracts of the numbers of segments and points, both sides. -/
import Derived.Test.YtmgbbkglafnibaaSegP
import Derived.Test.YtmgbbkglafnibaaGrow
namespace Go.Proofs.Ytmgbbkglafnibaa
open Go.RowKit
set_option maxHeartbeats 1000000 in
theorem cross14_any (a b c d x y : Int) (w : World) (h1 : okSg a b c d = true) (h2 : okPt x y = true) : Calls Try.prog 99 #[.agg #[.int .i64 a, .int .i64 b, .int .i64 c, .int .i64 d], .agg #[.int .i64 x, .int .i64 y]] w fun e w' => e = .returned (.int .i64 (crs a b c d x y)) ∧ Below w.heap.size w w' := by
  obtain ⟨p, q⟩ := okSg_t h1
  obtain ⟨p0, p1, p2, p3⟩ := okPt_t p
  obtain ⟨q0, q1, q2, q3⟩ := okPt_t q
  obtain ⟨r0, r1, r2, r3⟩ := okPt_t h2
  have k1 := pr_bd ⟨q0, q1⟩ ⟨p0, p1⟩ ⟨r2, r3⟩ ⟨p2, p3⟩
  have k2 := pr_bd ⟨q2, q3⟩ ⟨p2, p3⟩ ⟨r0, r1⟩ ⟨p0, p1⟩
  clear h1 h2 p q
  go_enter Try.func99, Try.ntmps99
  go_wp2
  go_returns; exact ⟨rfl, by repeat' first | exact gr_refl _ | with_reducible assumption | with_reducible apply gr_alloc | with_reducible apply gr_set | with_reducible apply gr_drew | with_reducible apply gr_drewN | exact Nat.le_add_right _ _ | exact Nat.le_refl _ | (refine gr_then (by with_reducible assumption) ?_)⟩
set_option maxHeartbeats 1000000 in
theorem dot14_any (a b c d x y : Int) (w : World) (h1 : okSg a b c d = true) (h2 : okPt x y = true) : Calls Try.prog 102 #[.agg #[.int .i64 a, .int .i64 b, .int .i64 c, .int .i64 d], .agg #[.int .i64 x, .int .i64 y]] w fun e w' => e = .returned (.int .i64 (dtI a b c d x y)) ∧ Below w.heap.size w w' := by
  obtain ⟨p, q⟩ := okSg_t h1
  obtain ⟨p0, p1, p2, p3⟩ := okPt_t p
  obtain ⟨q0, q1, q2, q3⟩ := okPt_t q
  obtain ⟨r0, r1, r2, r3⟩ := okPt_t h2
  have k1 := pr_bd ⟨q0, q1⟩ ⟨p0, p1⟩ ⟨r0, r1⟩ ⟨p0, p1⟩
  have k2 := pr_bd ⟨q2, q3⟩ ⟨p2, p3⟩ ⟨r2, r3⟩ ⟨p2, p3⟩
  clear h1 h2 p q
  go_enter Try.func102, Try.ntmps102
  go_wp2
  go_returns; exact ⟨rfl, by repeat' first | exact gr_refl _ | with_reducible assumption | with_reducible apply gr_alloc | with_reducible apply gr_set | with_reducible apply gr_drew | with_reducible apply gr_drewN | exact Nat.le_add_right _ _ | exact Nat.le_refl _ | (refine gr_then (by with_reducible assumption) ?_)⟩
set_option maxHeartbeats 1000000 in
theorem square02_any (a b x y : Int) (w : World) (h1 : okPt a b = true) (h2 : okPt x y = true) : Calls Try.prog 101 #[.agg #[.int .i64 a, .int .i64 b], .agg #[.int .i64 x, .int .i64 y]] w fun e w' => e = .returned (.int .i64 (sq2 a b x y)) ∧ Below w.heap.size w w' := by
  obtain ⟨p0, p1, p2, p3⟩ := okPt_t h1
  obtain ⟨r0, r1, r2, r3⟩ := okPt_t h2
  have k1 := pr_bd ⟨p0, p1⟩ ⟨r0, r1⟩ ⟨p0, p1⟩ ⟨r0, r1⟩
  have k2 := pr_bd ⟨p2, p3⟩ ⟨r2, r3⟩ ⟨p2, p3⟩ ⟨r2, r3⟩
  clear h1 h2
  go_enter Try.func101, Try.ntmps101
  go_wp2
  go_returns; exact ⟨rfl, by repeat' first | exact gr_refl _ | with_reducible assumption | with_reducible apply gr_alloc | with_reducible apply gr_set | with_reducible apply gr_drew | with_reducible apply gr_drewN | exact Nat.le_add_right _ _ | exact Nat.le_refl _ | (refine gr_then (by with_reducible assumption) ?_)⟩
set_option maxHeartbeats 1000000 in
theorem sign14_any (n : Int) (w : World) : Calls Try.prog 98 #[.int .i64 n] w fun e w' => e = .returned (.int .i64 (sgI n)) ∧ w = w' := by
  by_cases h0 : 0 < n
  · have h1 : decide (n < 0) = false := decide_eq_false (by omega)
    rw [show sgI n = 1 from if_pos h0]; go_enter Try.func98, Try.ntmps98; go_wp2; go_ret; exact ⟨rfl, rfl⟩
  have hd := decide_eq_false h0
  by_cases h1 : n < 0
  · rw [show sgI n = -1 from (if_neg h0).trans (if_pos h1)]; go_enter Try.func98, Try.ntmps98; go_wp2; go_ret; exact ⟨rfl, rfl⟩
  have he := decide_eq_false h1
  rw [show sgI n = 0 from (if_neg h0).trans (if_neg h1)]; go_enter Try.func98, Try.ntmps98; go_wp2; go_ret; exact ⟨rfl, rfl⟩
set_option maxHeartbeats 1000000 in
theorem in_is {n a b : Int} {r : Bool} (h : inI n a b = r) (w : World) : Calls Try.prog 62 #[.int .i64 n, .int .i64 a, .int .i64 b] w fun e w' => e = .returned (.bool r) ∧ w = w' := by
  subst h
  exact in_any n a b w
set_option maxHeartbeats 1000000 in
theorem within_is {n a b : Int} {r : Bool} (h : inI n a b = r) (w : World) : Calls Try.prog 63 #[.int .i64 n, .int .i64 a, .int .i64 b] w fun e w' => e = .returned (.bool r) ∧ w = w' := by
  subst h
  exact within_any n a b w
end Go.Proofs.Ytmgbbkglafnibaa
