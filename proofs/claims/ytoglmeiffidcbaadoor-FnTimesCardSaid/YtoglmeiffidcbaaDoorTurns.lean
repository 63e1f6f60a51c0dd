/- Contracts of the functions on turns. -/
import Derived.Test.YtoglmeiffidcbaaDoorBase
namespace Go.Proofs.YtoglmeiffidcbaaDoor
open Go.RowKit
def turnI (a b : Int) : Int := if (b - a) % 24 > 12 then (b - a) % 24 - 24 else (b - a) % 24
theorem turnI_bd (a b : Int) : -12 ≤ turnI a b ∧ turnI a b ≤ 12 := by unfold turnI; split <;> omega
theorem tmod24 {n : Int} (h : n < 0) : n.tmod 24 = - ((-n) % 24) := by
  have e : n = - (-n) := by omega
  rw [e, Int.neg_tmod, Int.tmod_eq_emod_of_nonneg (by omega)]; simp
set_option maxHeartbeats 400000 in
theorem mod02_any (n : Int) (w : World) (hn : -1000000 ≤ n ∧ n ≤ 1000000) : Calls Tryd.prog 79 #[.int .i64 n] w fun e w' => e = .returned (.int .i64 (n % 24)) ∧ w = w' := by
  by_cases h0 : n < 0
  · have ht := tmod24 h0
    go_enter Tryd.func79, Tryd.ntmps79
    go_wp2
    go_ret
    exact ⟨ret_int (by omega), rfl⟩
  · go_enter Tryd.func79, Tryd.ntmps79
    go_wp2
    go_ret
    exact ⟨ret_int (by omega), rfl⟩
set_option maxHeartbeats 400000 in
theorem turned_any (d y : Int) (w : World) (hd : -1000000 ≤ d ∧ d ≤ 1000000) (hy : -1000000 ≤ y ∧ y ≤ 1000000) : Calls Tryd.prog 87 #[.int .i64 d, .int .i64 y] w fun e w' => e = .returned (.int .i64 ((d + y) % 24)) ∧ w = w' := by
  by_cases h0 : (d + y) < 0
  · have ht := tmod24 h0
    go_enter Tryd.func87, Tryd.ntmps87
    go_wp2
    go_ret
    exact ⟨ret_int (by omega), rfl⟩
  · go_enter Tryd.func87, Tryd.ntmps87
    go_wp2
    go_ret
    exact ⟨ret_int (by omega), rfl⟩
set_option maxHeartbeats 400000 in
theorem turn02_any (a b : Int) (w : World) (ha : 0 ≤ a ∧ a ≤ 23) (hb : 0 ≤ b ∧ b ≤ 23) : Calls Tryd.prog 58 #[.int .i64 a, .int .i64 b] w fun e w' => e = .returned (.int .i64 (turnI a b)) ∧ w = w' := by
  have hs : True := trivial
  by_cases h0 : (b - a) % 24 > 12
  · rw [show turnI a b = (b - a) % 24 - 24 from if_pos h0]
    go_enter Tryd.func58, Tryd.ntmps58
    go_wp2_with (go_at_call 79; refine (mod02_any _ _ (by omega)).mono ?_; rintro e w1 ⟨rfl, rfl⟩)
    go_ret
    exact ⟨ret_int (by omega), rfl⟩
  · rw [show turnI a b = (b - a) % 24 from if_neg h0]
    go_enter Tryd.func58, Tryd.ntmps58
    go_wp2_with (go_at_call 79; refine (mod02_any _ _ (by omega)).mono ?_; rintro e w1 ⟨rfl, rfl⟩)
    go_ret
    exact ⟨ret_int (by omega), rfl⟩
set_option maxHeartbeats 400000 in
theorem turnBetween_any (a b : Int) (w : World) (ha : 0 ≤ a ∧ a ≤ 23) (hb : 0 ≤ b ∧ b ≤ 23) : Calls Tryd.prog 75 #[.int .i64 a, .int .i64 b] w fun e w' => e = .returned (.int .i64 (turnI a b)) ∧ w = w' := by
  have hs : b + -a = b - a := by omega
  by_cases h0 : (b - a) % 24 > 12
  · rw [show turnI a b = (b - a) % 24 - 24 from if_pos h0]
    go_enter Tryd.func75, Tryd.ntmps75
    go_wp2_with (go_at_call 87; refine (turned_any _ _ _ (by omega) (by omega)).mono ?_; rintro e w1 ⟨rfl, rfl⟩)
    go_ret
    exact ⟨ret_int (by omega), rfl⟩
  · rw [show turnI a b = (b - a) % 24 from if_neg h0]
    go_enter Tryd.func75, Tryd.ntmps75
    go_wp2_with (go_at_call 87; refine (turned_any _ _ _ (by omega) (by omega)).mono ?_; rintro e w1 ⟨rfl, rfl⟩)
    go_ret
    exact ⟨ret_int (by omega), rfl⟩
end Go.Proofs.YtoglmeiffidcbaaDoor
