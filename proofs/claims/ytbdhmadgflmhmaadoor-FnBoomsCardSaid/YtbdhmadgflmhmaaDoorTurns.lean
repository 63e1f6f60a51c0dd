/- Contracts of the functions on turns. -/
import Derived.Test.YtbdhmadgflmhmaaDoorBase
namespace Go.Proofs.YtbdhmadgflmhmaaDoor
open Go.RowKit
def turnI (a b : Int) : Int := if (b - a) % 24 > 12 then (b - a) % 24 - 24 else (b - a) % 24
theorem turnI_bd (a b : Int) : -12 ≤ turnI a b ∧ turnI a b ≤ 12 := by unfold turnI; split <;> omega
theorem tmod24 {n : Int} (h : n < 0) : n.tmod 24 = - ((-n) % 24) := by
  have e : n = - (-n) := by omega
  rw [e, Int.neg_tmod, Int.tmod_eq_emod_of_nonneg (by omega)]; simp
set_option maxHeartbeats 400000 in
theorem mod02_any (n : Int) (w : World) (hn : -1000000 ≤ n ∧ n ≤ 1000000) : Calls Tryd.prog 60 #[.int .i64 n] w fun e w' => e = .returned (.int .i64 (n % 24)) ∧ w = w' := by
  by_cases h0 : n < 0
  · have ht := tmod24 h0
    go_enter Tryd.func60, Tryd.ntmps60
    go_wp2
    go_ret
    exact ⟨ret_int (by omega), rfl⟩
  · go_enter Tryd.func60, Tryd.ntmps60
    go_wp2
    go_ret
    exact ⟨ret_int (by omega), rfl⟩
set_option maxHeartbeats 400000 in
theorem turned_any (d y : Int) (w : World) (hd : -1000000 ≤ d ∧ d ≤ 1000000) (hy : -1000000 ≤ y ∧ y ≤ 1000000) : Calls Tryd.prog 66 #[.int .i64 d, .int .i64 y] w fun e w' => e = .returned (.int .i64 ((d + y) % 24)) ∧ w = w' := by
  by_cases h0 : (d + y) < 0
  · have ht := tmod24 h0
    go_enter Tryd.func66, Tryd.ntmps66
    go_wp2
    go_ret
    exact ⟨ret_int (by omega), rfl⟩
  · go_enter Tryd.func66, Tryd.ntmps66
    go_wp2
    go_ret
    exact ⟨ret_int (by omega), rfl⟩
end Go.Proofs.YtbdhmadgflmhmaaDoor
