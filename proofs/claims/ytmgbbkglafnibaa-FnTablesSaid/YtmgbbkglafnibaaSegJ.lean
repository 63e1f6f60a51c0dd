/- Contracts of SegmentSquare, NearerThan and GapOf, both sides. -/
import Derived.Test.YtmgbbkglafnibaaSegI
namespace Go.Proofs.Ytmgbbkglafnibaa
open Go.RowKit
def sqN (a b c d e f g h : Int) : Int := if (okSg a b c d && okSg e f g h) = true then (ssF a b c d e f g h).1 else 0
def sqD (a b c d e f g h : Int) : Int := if (okSg a b c d && okSg e f g h) = true then (ssF a b c d e f g h).2 else 0
def sqE (a b c d e f g h : Int) : Int := if (okSg a b c d && okSg e f g h) = true then 0 else 1
def nrB (a b c d e f g h n : Int) : Bool := decide ((ssF a b c d e f g h).1 < n * n * (ssF a b c d e f g h).2)
theorem nrB_eq (a b c d e f g h n : Int) : lsB (ssF a b c d e f g h).1 (ssF a b c d e f g h).2 (n * n) 1 = nrB a b c d e f g h n := by unfold lsB nrB; rw [Int.mul_one]
def ntB (a b c d e f g h n : Int) : Bool := if (okSg a b c d && okSg e f g h) = true then (if inI n 0 50000 = true then nrB a b c d e f g h n else false) else false
def ntE (a b c d e f g h n : Int) : Int := if (okSg a b c d && okSg e f g h) = true then (if inI n 0 50000 = true then 0 else 2) else 1
noncomputable def gpN (a b c d e f g h : Int) : Int := if (okSg a b c d && okSg e f g h) = true then flr ((ssF a b c d e f g h).1 / (ssF a b c d e f g h).2) else 0
set_option maxHeartbeats 4000000 in
theorem near14_any (a b c d e f g h n : Int) (w : World) (h1 : okSg a b c d = true) (h2 : okSg e f g h = true) (hn : 0 ≤ n ∧ n ≤ 50000) : Calls Try.prog 88 #[.agg #[.int .i64 a, .int .i64 b, .int .i64 c, .int .i64 d], .agg #[.int .i64 e, .int .i64 f, .int .i64 g, .int .i64 h], .int .i64 n] w fun ee w' => ee = .returned (.bool (nrB a b c d e f g h n)) ∧ Below w.heap.size w w' := by
  obtain ⟨o1, o2, o3, o4, o5⟩ := ssF_ok h1 h2
  have m1 := mul_in 50000 50000 (x := n) (y := n) (by omega) (by omega)
  have m0 := sq_nonneg' n
  rw [← nrB_eq]
  go_enter Try.func88, Try.ntmps88
  go_wp2_with (first | (go_at_call 93; (with_reducible refine (square14_any _ _ _ _ _ _ _ _ _ (by assumption) (by assumption)).mono ?_); rintro e w1 ⟨rfl, hb⟩; have hB : Below (((w).alloc (.cells #[.int .i64 a, .int .i64 b, .int .i64 c, .int .i64 d] 102)).alloc (.cells #[.int .i64 e, .int .i64 f, .int .i64 g, .int .i64 h] 102)).heap.size (((w).alloc (.cells #[.int .i64 a, .int .i64 b, .int .i64 c, .int .i64 d] 102)).alloc (.cells #[.int .i64 e, .int .i64 f, .int .i64 g, .int .i64 h] 102)) w1 := gr_then hb (by repeat' first | exact gr_refl _ | with_reducible assumption | with_reducible apply gr_alloc | with_reducible apply gr_set | with_reducible apply gr_drew | with_reducible apply gr_drewN | exact Nat.le_add_right _ _ | exact Nat.le_refl _ | (refine gr_then (by with_reducible assumption) ?_)); obtain ⟨hc, hf⟩ := bcell hB; have hz := hB.size) | (go_at_call 92; (with_reducible refine (less14_any _ _ _ _ _ (by omega) (by omega) (by omega) (by omega)).mono ?_); rintro e w1 ⟨rfl, hb⟩; have hB : Below (((w).alloc (.cells #[.int .i64 a, .int .i64 b, .int .i64 c, .int .i64 d] 102)).alloc (.cells #[.int .i64 e, .int .i64 f, .int .i64 g, .int .i64 h] 102)).heap.size (((w).alloc (.cells #[.int .i64 a, .int .i64 b, .int .i64 c, .int .i64 d] 102)).alloc (.cells #[.int .i64 e, .int .i64 f, .int .i64 g, .int .i64 h] 102)) w1 := gr_then hb (by repeat' first | exact gr_refl _ | with_reducible assumption | with_reducible apply gr_alloc | with_reducible apply gr_set | with_reducible apply gr_drew | with_reducible apply gr_drewN | exact Nat.le_add_right _ _ | exact Nat.le_refl _ | (refine gr_then (by with_reducible assumption) ?_)); obtain ⟨hc, hf⟩ := bcell hB; have hz := hB.size))
  go_returns; exact ⟨rfl, by repeat' first | exact gr_refl _ | with_reducible assumption | with_reducible apply gr_alloc | with_reducible apply gr_set | with_reducible apply gr_drew | with_reducible apply gr_drewN | exact Nat.le_add_right _ _ | exact Nat.le_refl _ | (refine gr_then (by with_reducible assumption) ?_)⟩
end Go.Proofs.Ytmgbbkglafnibaa
