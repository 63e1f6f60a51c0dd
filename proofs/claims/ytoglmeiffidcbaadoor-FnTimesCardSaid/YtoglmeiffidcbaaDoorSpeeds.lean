/- Contracts of the functions on speeds: each computes only; new blocks alone. -/
import Derived.Test.YtoglmeiffidcbaaDoorBase
namespace Go.Proofs.YtoglmeiffidcbaaDoor
open Go.RowKit
def okSp (a b c d : Int) : Bool := decide (1 ≤ a ∧ a ≤ 600 ∧ 1 ≤ b ∧ b ≤ 600 ∧ 1 ≤ c ∧ c ≤ 600 ∧ 1 ≤ d ∧ d ≤ 600)
theorem okSp_t {a b c d : Int} (h : okSp a b c d = true) : 1 ≤ a ∧ a ≤ 600 ∧ 1 ≤ b ∧ b ≤ 600 ∧ 1 ≤ c ∧ c ≤ 600 ∧ 1 ≤ d ∧ d ≤ 600 := of_decide_eq_true h
theorem okSp_y {a b c d : Int} (h : 1 ≤ a ∧ a ≤ 600 ∧ 1 ≤ b ∧ b ≤ 600 ∧ 1 ≤ c ∧ c ≤ 600 ∧ 1 ≤ d ∧ d ≤ 600) : okSp a b c d = true := decide_eq_true h
theorem okSp_n {a b c d : Int} (h : ¬ (1 ≤ a ∧ a ≤ 600 ∧ 1 ≤ b ∧ b ≤ 600 ∧ 1 ≤ c ∧ c ≤ 600 ∧ 1 ≤ d ∧ d ≤ 600)) : okSp a b c d = false := decide_eq_false h
set_option maxHeartbeats 1000000 in
theorem toSpeeds_any (a b c d : Int) (w : World) : Calls Tryd.prog 11 #[.agg #[.int .i64 a, .int .i64 b, .int .i64 c, .int .i64 d]] w fun e w' => e = .returned (.agg #[.int .i64 a, .int .i64 b, .int .i64 c, .int .i64 d]) ∧ Below w.heap.size w w' := by
  go_enter Tryd.func11, Tryd.ntmps11
  go_wp2
  go_returns
  refine ⟨rfl, ?_⟩
  repeat' first | exact gr_refl _ | with_reducible apply gr_alloc | with_reducible apply gr_set | with_reducible apply gr_drew | exact Nat.le_add_right _ _ | exact Nat.le_refl _
set_option maxHeartbeats 2000000 in
theorem l10Ok_any (a b c d : Int) (w : World) : Calls Tryd.prog 32 #[.agg #[.int .i64 a, .int .i64 b, .int .i64 c, .int .i64 d]] w fun e w' => e = .returned (.bool (okSp a b c d)) ∧ Below w.heap.size w w' := by
  by_cases h0 : 1 ≤ a
  case neg => go_enter Tryd.func32, Tryd.ntmps32; go_wp2; go_ret; refine ⟨ret_bool (by rw [okSp_n (by omega)]), ?_⟩; repeat' first | exact gr_refl _ | with_reducible apply gr_alloc | with_reducible apply gr_set | with_reducible apply gr_drew | exact Nat.le_add_right _ _ | exact Nat.le_refl _
  by_cases h1 : a ≤ 600
  case neg => go_enter Tryd.func32, Tryd.ntmps32; go_wp2; go_ret; refine ⟨ret_bool (by rw [okSp_n (by omega)]), ?_⟩; repeat' first | exact gr_refl _ | with_reducible apply gr_alloc | with_reducible apply gr_set | with_reducible apply gr_drew | exact Nat.le_add_right _ _ | exact Nat.le_refl _
  by_cases h2 : 1 ≤ b
  case neg => go_enter Tryd.func32, Tryd.ntmps32; go_wp2; go_ret; refine ⟨ret_bool (by rw [okSp_n (by omega)]), ?_⟩; repeat' first | exact gr_refl _ | with_reducible apply gr_alloc | with_reducible apply gr_set | with_reducible apply gr_drew | exact Nat.le_add_right _ _ | exact Nat.le_refl _
  by_cases h3 : b ≤ 600
  case neg => go_enter Tryd.func32, Tryd.ntmps32; go_wp2; go_ret; refine ⟨ret_bool (by rw [okSp_n (by omega)]), ?_⟩; repeat' first | exact gr_refl _ | with_reducible apply gr_alloc | with_reducible apply gr_set | with_reducible apply gr_drew | exact Nat.le_add_right _ _ | exact Nat.le_refl _
  by_cases h4 : 1 ≤ c
  case neg => go_enter Tryd.func32, Tryd.ntmps32; go_wp2; go_ret; refine ⟨ret_bool (by rw [okSp_n (by omega)]), ?_⟩; repeat' first | exact gr_refl _ | with_reducible apply gr_alloc | with_reducible apply gr_set | with_reducible apply gr_drew | exact Nat.le_add_right _ _ | exact Nat.le_refl _
  by_cases h5 : c ≤ 600
  case neg => go_enter Tryd.func32, Tryd.ntmps32; go_wp2; go_ret; refine ⟨ret_bool (by rw [okSp_n (by omega)]), ?_⟩; repeat' first | exact gr_refl _ | with_reducible apply gr_alloc | with_reducible apply gr_set | with_reducible apply gr_drew | exact Nat.le_add_right _ _ | exact Nat.le_refl _
  by_cases h6 : 1 ≤ d
  case neg => go_enter Tryd.func32, Tryd.ntmps32; go_wp2; go_ret; refine ⟨ret_bool (by rw [okSp_n (by omega)]), ?_⟩; repeat' first | exact gr_refl _ | with_reducible apply gr_alloc | with_reducible apply gr_set | with_reducible apply gr_drew | exact Nat.le_add_right _ _ | exact Nat.le_refl _
  by_cases h7 : d ≤ 600
  case neg => go_enter Tryd.func32, Tryd.ntmps32; go_wp2; go_ret; refine ⟨ret_bool (by rw [okSp_n (by omega)]), ?_⟩; repeat' first | exact gr_refl _ | with_reducible apply gr_alloc | with_reducible apply gr_set | with_reducible apply gr_drew | exact Nat.le_add_right _ _ | exact Nat.le_refl _
  go_enter Tryd.func32, Tryd.ntmps32; go_wp2; go_ret; refine ⟨ret_bool (by rw [okSp_y (by omega)]), ?_⟩; repeat' first | exact gr_refl _ | with_reducible apply gr_alloc | with_reducible apply gr_set | with_reducible apply gr_drew | exact Nat.le_add_right _ _ | exact Nat.le_refl _
set_option maxHeartbeats 2000000 in
theorem validSpeeds_any (a b c d : Int) (w : World) : Calls Tryd.prog 37 #[.agg #[.int .i64 a, .int .i64 b, .int .i64 c, .int .i64 d]] w fun e w' => e = .returned (.bool (okSp a b c d)) ∧ Below w.heap.size w w' := by
  by_cases h0 : 1 ≤ a
  case neg => go_enter Tryd.func37, Tryd.ntmps37; go_wp2; go_ret; refine ⟨ret_bool (by rw [okSp_n (by omega)]), ?_⟩; repeat' first | exact gr_refl _ | with_reducible apply gr_alloc | with_reducible apply gr_set | with_reducible apply gr_drew | exact Nat.le_add_right _ _ | exact Nat.le_refl _
  by_cases h1 : a ≤ 600
  case neg => go_enter Tryd.func37, Tryd.ntmps37; go_wp2; go_ret; refine ⟨ret_bool (by rw [okSp_n (by omega)]), ?_⟩; repeat' first | exact gr_refl _ | with_reducible apply gr_alloc | with_reducible apply gr_set | with_reducible apply gr_drew | exact Nat.le_add_right _ _ | exact Nat.le_refl _
  by_cases h2 : 1 ≤ b
  case neg => go_enter Tryd.func37, Tryd.ntmps37; go_wp2; go_ret; refine ⟨ret_bool (by rw [okSp_n (by omega)]), ?_⟩; repeat' first | exact gr_refl _ | with_reducible apply gr_alloc | with_reducible apply gr_set | with_reducible apply gr_drew | exact Nat.le_add_right _ _ | exact Nat.le_refl _
  by_cases h3 : b ≤ 600
  case neg => go_enter Tryd.func37, Tryd.ntmps37; go_wp2; go_ret; refine ⟨ret_bool (by rw [okSp_n (by omega)]), ?_⟩; repeat' first | exact gr_refl _ | with_reducible apply gr_alloc | with_reducible apply gr_set | with_reducible apply gr_drew | exact Nat.le_add_right _ _ | exact Nat.le_refl _
  by_cases h4 : 1 ≤ c
  case neg => go_enter Tryd.func37, Tryd.ntmps37; go_wp2; go_ret; refine ⟨ret_bool (by rw [okSp_n (by omega)]), ?_⟩; repeat' first | exact gr_refl _ | with_reducible apply gr_alloc | with_reducible apply gr_set | with_reducible apply gr_drew | exact Nat.le_add_right _ _ | exact Nat.le_refl _
  by_cases h5 : c ≤ 600
  case neg => go_enter Tryd.func37, Tryd.ntmps37; go_wp2; go_ret; refine ⟨ret_bool (by rw [okSp_n (by omega)]), ?_⟩; repeat' first | exact gr_refl _ | with_reducible apply gr_alloc | with_reducible apply gr_set | with_reducible apply gr_drew | exact Nat.le_add_right _ _ | exact Nat.le_refl _
  by_cases h6 : 1 ≤ d
  case neg => go_enter Tryd.func37, Tryd.ntmps37; go_wp2; go_ret; refine ⟨ret_bool (by rw [okSp_n (by omega)]), ?_⟩; repeat' first | exact gr_refl _ | with_reducible apply gr_alloc | with_reducible apply gr_set | with_reducible apply gr_drew | exact Nat.le_add_right _ _ | exact Nat.le_refl _
  by_cases h7 : d ≤ 600
  case neg => go_enter Tryd.func37, Tryd.ntmps37; go_wp2; go_ret; refine ⟨ret_bool (by rw [okSp_n (by omega)]), ?_⟩; repeat' first | exact gr_refl _ | with_reducible apply gr_alloc | with_reducible apply gr_set | with_reducible apply gr_drew | exact Nat.le_add_right _ _ | exact Nat.le_refl _
  go_enter Tryd.func37, Tryd.ntmps37; go_wp2; go_ret; refine ⟨ret_bool (by rw [okSp_y (by omega)]), ?_⟩; repeat' first | exact gr_refl _ | with_reducible apply gr_alloc | with_reducible apply gr_set | with_reducible apply gr_drew | exact Nat.le_add_right _ _ | exact Nat.le_refl _
set_option maxHeartbeats 1000000 in
theorem specValidSpeeds_any (a b c d : Int) (w : World) : Calls Tryd.prog 21 #[.agg #[.int .i64 a, .int .i64 b, .int .i64 c, .int .i64 d]] w fun e w' => e = .returned (.bool (okSp a b c d)) ∧ Below w.heap.size w w' := by
  go_enter Tryd.func21, Tryd.ntmps21
  go_wp2_with (go_at_call 32; refine (l10Ok_any _ _ _ _ _).mono ?_; rintro e w1 ⟨rfl, hb⟩)
  go_ret
  exact ⟨rfl, gr_then hb (by repeat' first | exact gr_refl _ | with_reducible apply gr_alloc | with_reducible apply gr_set | with_reducible apply gr_drew | exact Nat.le_add_right _ _ | exact Nat.le_refl _)⟩
end Go.Proofs.YtoglmeiffidcbaaDoor
