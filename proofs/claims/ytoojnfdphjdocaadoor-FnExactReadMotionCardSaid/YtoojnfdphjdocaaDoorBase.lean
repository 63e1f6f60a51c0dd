/- Contracts of small functions on numbers: each computes only, and leaves the world alone. -/
import Derived.Test.YtoojnfdphjdocaaDoorKit
namespace Go.Proofs.YtoojnfdphjdocaaDoor
open Go.RowKit
def absI (n : Int) : Int := if n < 0 then - n else n
theorem absI_neg {n : Int} (h : n < 0) : absI n = - n := if_pos h
theorem absI_pos {n : Int} (h : 0 ≤ n) : absI n = n := if_neg (by omega)
def minI (a b : Int) : Int := if a < b then a else b
def maxI (a b : Int) : Int := if a < b then b else a
def inI (n a b : Int) : Bool := decide (a ≤ n ∧ n ≤ b)
theorem inI_y {n a b : Int} (h : a ≤ n ∧ n ≤ b) : inI n a b = true := decide_eq_true h
theorem inI_n {n a b : Int} (h : ¬ (a ≤ n ∧ n ≤ b)) : inI n a b = false := decide_eq_false h
theorem inI_t {n a b : Int} (h : inI n a b = true) : a ≤ n ∧ n ≤ b := of_decide_eq_true h
theorem inI_f {n a b : Int} (h : inI n a b = false) : ¬ (a ≤ n ∧ n ≤ b) := of_decide_eq_false h
set_option maxHeartbeats 400000 in
theorem in_any (n a b : Int) (w : World) : Calls Tryd.prog 31 #[.int .i64 n, .int .i64 a, .int .i64 b] w fun e w' => e = .returned (.bool (inI n a b)) ∧ w = w' := by
  by_cases h0 : a ≤ n
  case neg => have hd := decide_eq_false h0; rw [inI_n (by omega)]; go_enter Tryd.func31, Tryd.ntmps31; go_wp2; go_ret; exact ⟨rfl, rfl⟩
  by_cases h1 : n ≤ b
  case neg => have hd := decide_eq_false h1; rw [inI_n (by omega)]; go_enter Tryd.func31, Tryd.ntmps31; go_wp2; go_ret; exact ⟨rfl, rfl⟩
  rw [inI_y ⟨h0, h1⟩]; go_enter Tryd.func31, Tryd.ntmps31; go_wp2; go_ret; exact ⟨rfl, rfl⟩
set_option maxHeartbeats 400000 in
theorem within_any (n a b : Int) (w : World) : Calls Tryd.prog 45 #[.int .i64 n, .int .i64 a, .int .i64 b] w fun e w' => e = .returned (.bool (inI n a b)) ∧ w = w' := by
  by_cases h0 : a ≤ n
  case neg => have hd := decide_eq_false h0; rw [inI_n (by omega)]; go_enter Tryd.func45, Tryd.ntmps45; go_wp2; go_ret; exact ⟨rfl, rfl⟩
  by_cases h1 : n ≤ b
  case neg => have hd := decide_eq_false h1; rw [inI_n (by omega)]; go_enter Tryd.func45, Tryd.ntmps45; go_wp2; go_ret; exact ⟨rfl, rfl⟩
  rw [inI_y ⟨h0, h1⟩]; go_enter Tryd.func45, Tryd.ntmps45; go_wp2; go_ret; exact ⟨rfl, rfl⟩
set_option maxHeartbeats 400000 in
theorem dir02_any (n : Int) (w : World) : Calls Tryd.prog 32 #[.int .i64 n] w fun e w' => e = .returned (.bool (inI n 0 23)) ∧ w = w' := by
  by_cases h0 : 0 ≤ n
  case neg => have hd := decide_eq_false h0; rw [inI_n (by omega)]; go_enter Tryd.func32, Tryd.ntmps32; go_wp2; go_ret; exact ⟨rfl, rfl⟩
  by_cases h1 : n ≤ 23
  case neg => have hd := decide_eq_false h1; rw [inI_n (by omega)]; go_enter Tryd.func32, Tryd.ntmps32; go_wp2; go_ret; exact ⟨rfl, rfl⟩
  rw [inI_y ⟨h0, h1⟩]; go_enter Tryd.func32, Tryd.ntmps32; go_wp2; go_ret; exact ⟨rfl, rfl⟩
set_option maxHeartbeats 400000 in
theorem isDir_any (n : Int) (w : World) : Calls Tryd.prog 34 #[.int .i64 n] w fun e w' => e = .returned (.bool (inI n 0 23)) ∧ w = w' := by
  by_cases h0 : 0 ≤ n
  case neg => have hd := decide_eq_false h0; rw [inI_n (by omega)]; go_enter Tryd.func34, Tryd.ntmps34; go_wp2; go_ret; exact ⟨rfl, rfl⟩
  by_cases h1 : n ≤ 23
  case neg => have hd := decide_eq_false h1; rw [inI_n (by omega)]; go_enter Tryd.func34, Tryd.ntmps34; go_wp2; go_ret; exact ⟨rfl, rfl⟩
  rw [inI_y ⟨h0, h1⟩]; go_enter Tryd.func34, Tryd.ntmps34; go_wp2; go_ret; exact ⟨rfl, rfl⟩
end Go.Proofs.YtoojnfdphjdocaaDoor
