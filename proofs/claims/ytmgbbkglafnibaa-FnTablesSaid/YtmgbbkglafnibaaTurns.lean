/- Contracts of the functions on turns. -/
import Derived.Test.YtmgbbkglafnibaaBase
namespace Go.Proofs.Ytmgbbkglafnibaa
open Go.RowKit
def turnI (a b : Int) : Int := if (b - a) % 24 > 12 then (b - a) % 24 - 24 else (b - a) % 24
theorem turnI_bd (a b : Int) : -12 ≤ turnI a b ∧ turnI a b ≤ 12 := by unfold turnI; split <;> omega
theorem tmod24 {n : Int} (h : n < 0) : n.tmod 24 = - ((-n) % 24) := by
  have e : n = - (-n) := by omega
  rw [e, Int.neg_tmod, Int.tmod_eq_emod_of_nonneg (by omega)]; simp
set_option maxHeartbeats 400000 in
theorem mod02_any (n : Int) (w : World) (hn : -1000000 ≤ n ∧ n ≤ 1000000) : Calls Try.prog 84 #[.int .i64 n] w fun e w' => e = .returned (.int .i64 (n % 24)) ∧ w = w' := by
  by_cases h0 : n < 0
  · have ht := tmod24 h0
    go_enter Try.func84, Try.ntmps84
    go_wp2
    go_ret
    exact ⟨ret_int (by omega), rfl⟩
  · go_enter Try.func84, Try.ntmps84
    go_wp2
    go_ret
    exact ⟨ret_int (by omega), rfl⟩
set_option maxHeartbeats 400000 in
theorem turned_any (d y : Int) (w : World) (hd : -1000000 ≤ d ∧ d ≤ 1000000) (hy : -1000000 ≤ y ∧ y ≤ 1000000) : Calls Try.prog 77 #[.int .i64 d, .int .i64 y] w fun e w' => e = .returned (.int .i64 ((d + y) % 24)) ∧ w = w' := by
  by_cases h0 : (d + y) < 0
  · have ht := tmod24 h0
    go_enter Try.func77, Try.ntmps77
    go_wp2
    go_ret
    exact ⟨ret_int (by omega), rfl⟩
  · go_enter Try.func77, Try.ntmps77
    go_wp2
    go_ret
    exact ⟨ret_int (by omega), rfl⟩
set_option maxHeartbeats 400000 in
theorem turn02_any (a b : Int) (w : World) (ha : 0 ≤ a ∧ a ≤ 23) (hb : 0 ≤ b ∧ b ≤ 23) : Calls Try.prog 76 #[.int .i64 a, .int .i64 b] w fun e w' => e = .returned (.int .i64 (turnI a b)) ∧ w = w' := by
  have hs : True := trivial
  by_cases h0 : (b - a) % 24 > 12
  · rw [show turnI a b = (b - a) % 24 - 24 from if_pos h0]
    go_enter Try.func76, Try.ntmps76
    go_wp2_with (go_at_call 84; refine (mod02_any _ _ (by omega)).mono ?_; rintro e w1 ⟨rfl, rfl⟩)
    go_ret
    exact ⟨ret_int (by omega), rfl⟩
  · rw [show turnI a b = (b - a) % 24 from if_neg h0]
    go_enter Try.func76, Try.ntmps76
    go_wp2_with (go_at_call 84; refine (mod02_any _ _ (by omega)).mono ?_; rintro e w1 ⟨rfl, rfl⟩)
    go_ret
    exact ⟨ret_int (by omega), rfl⟩
set_option maxHeartbeats 400000 in
theorem turnBetween_any (a b : Int) (w : World) (ha : 0 ≤ a ∧ a ≤ 23) (hb : 0 ≤ b ∧ b ≤ 23) : Calls Try.prog 66 #[.int .i64 a, .int .i64 b] w fun e w' => e = .returned (.int .i64 (turnI a b)) ∧ w = w' := by
  have hs : b + -a = b - a := by omega
  by_cases h0 : (b - a) % 24 > 12
  · rw [show turnI a b = (b - a) % 24 - 24 from if_pos h0]
    go_enter Try.func66, Try.ntmps66
    go_wp2_with (go_at_call 77; refine (turned_any _ _ _ (by omega) (by omega)).mono ?_; rintro e w1 ⟨rfl, rfl⟩)
    go_ret
    exact ⟨ret_int (by omega), rfl⟩
  · rw [show turnI a b = (b - a) % 24 from if_neg h0]
    go_enter Try.func66, Try.ntmps66
    go_wp2_with (go_at_call 77; refine (turned_any _ _ _ (by omega) (by omega)).mono ?_; rintro e w1 ⟨rfl, rfl⟩)
    go_ret
    exact ⟨ret_int (by omega), rfl⟩
end Go.Proofs.Ytmgbbkglafnibaa
