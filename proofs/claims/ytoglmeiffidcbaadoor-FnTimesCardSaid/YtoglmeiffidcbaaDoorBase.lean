/- Contracts of small functions on numbers: each computes only, and leaves the world alone. -/
import Derived.Test.YtoglmeiffidcbaaDoorKit
namespace Go.Proofs.YtoglmeiffidcbaaDoor
open Go.RowKit
def absI (n : Int) : Int := if n < 0 then - n else n
theorem absI_neg {n : Int} (h : n < 0) : absI n = - n := if_pos h
theorem absI_pos {n : Int} (h : 0 ≤ n) : absI n = n := if_neg (by omega)
def minI (a b : Int) : Int := if a < b then a else b
def maxI (a b : Int) : Int := if a < b then b else a
def inI (n a b : Int) : Bool := decide (a ≤ n ∧ n ≤ b)
theorem inI_y {n a b : Int} (h : a ≤ n ∧ n ≤ b) : inI n a b = true := decide_eq_true h
theorem inI_n {n a b : Int} (h : ¬ (a ≤ n ∧ n ≤ b)) : inI n a b = false := decide_eq_false h
theorem inI_t {n a b : Int} (h : inI n a b = true) : a ≤ n ∧ n ≤ b := of_decide_eq_true h
theorem inI_f {n a b : Int} (h : inI n a b = false) : ¬ (a ≤ n ∧ n ≤ b) := of_decide_eq_false h
set_option maxHeartbeats 400000 in
theorem in_any (n a b : Int) (w : World) : Calls Tryd.prog 25 #[.int .i64 n, .int .i64 a, .int .i64 b] w fun e w' => e = .returned (.bool (inI n a b)) ∧ w = w' := by
  by_cases h0 : a ≤ n
  case neg => have hd := decide_eq_false h0; rw [inI_n (by omega)]; go_enter Tryd.func25, Tryd.ntmps25; go_wp2; go_ret; exact ⟨rfl, rfl⟩
  by_cases h1 : n ≤ b
  case neg => have hd := decide_eq_false h1; rw [inI_n (by omega)]; go_enter Tryd.func25, Tryd.ntmps25; go_wp2; go_ret; exact ⟨rfl, rfl⟩
  rw [inI_y ⟨h0, h1⟩]; go_enter Tryd.func25, Tryd.ntmps25; go_wp2; go_ret; exact ⟨rfl, rfl⟩
set_option maxHeartbeats 400000 in
theorem within_any (n a b : Int) (w : World) : Calls Tryd.prog 28 #[.int .i64 n, .int .i64 a, .int .i64 b] w fun e w' => e = .returned (.bool (inI n a b)) ∧ w = w' := by
  by_cases h0 : a ≤ n
  case neg => have hd := decide_eq_false h0; rw [inI_n (by omega)]; go_enter Tryd.func28, Tryd.ntmps28; go_wp2; go_ret; exact ⟨rfl, rfl⟩
  by_cases h1 : n ≤ b
  case neg => have hd := decide_eq_false h1; rw [inI_n (by omega)]; go_enter Tryd.func28, Tryd.ntmps28; go_wp2; go_ret; exact ⟨rfl, rfl⟩
  rw [inI_y ⟨h0, h1⟩]; go_enter Tryd.func28, Tryd.ntmps28; go_wp2; go_ret; exact ⟨rfl, rfl⟩
set_option maxHeartbeats 400000 in
theorem size_any (n : Int) (w : World) (h : -9223372036854775807 ≤ n ∧ n ≤ 9223372036854775807) : Calls Tryd.prog 57 #[.int .i64 n] w fun e w' => e = .returned (.int .i64 (absI n)) ∧ w = w' := by
  by_cases h0 : n < 0
  · rw [absI_neg h0]; go_enter Tryd.func57, Tryd.ntmps57; go_wp2; go_ret; exact ⟨rfl, rfl⟩
  by_cases h1 : 0 < n
  · rw [absI_pos (by omega)]; go_enter Tryd.func57, Tryd.ntmps57; go_wp2; go_ret; exact ⟨rfl, rfl⟩
  obtain rfl : n = 0 := by omega
  rw [absI_pos (by omega)]; go_enter Tryd.func57, Tryd.ntmps57; go_wp2; go_ret; exact ⟨rfl, rfl⟩
set_option maxHeartbeats 400000 in
theorem abs_any (n : Int) (w : World) (h : -9223372036854775807 ≤ n ∧ n ≤ 9223372036854775807) : Calls Tryd.prog 74 #[.int .i64 n] w fun e w' => e = .returned (.int .i64 (absI n)) ∧ w = w' := by
  by_cases h0 : n < 0
  · rw [absI_neg h0]; go_enter Tryd.func74, Tryd.ntmps74; go_wp2; go_ret; exact ⟨rfl, rfl⟩
  by_cases h1 : 0 < n
  · rw [absI_pos (by omega)]; go_enter Tryd.func74, Tryd.ntmps74; go_wp2; go_ret; exact ⟨rfl, rfl⟩
  obtain rfl : n = 0 := by omega
  rw [absI_pos (by omega)]; go_enter Tryd.func74, Tryd.ntmps74; go_wp2; go_ret; exact ⟨rfl, rfl⟩
set_option maxHeartbeats 400000 in
theorem up_any (n d : Int) (w : World) (h : 0 ≤ n) (h1 : 1 ≤ d) (h2 : n + d ≤ 9223372036854775807) : Calls Tryd.prog 63 #[.int .i64 n, .int .i64 d] w fun e w' => e = .returned (.int .i64 ((n + d - 1) / d)) ∧ w = w' := by
  have h3 := Int.ediv_nonneg (a := n + d - 1) (b := d) (by omega) (by omega)
  have h4 := Int.ediv_le_self (a := n + d - 1) d (by omega)
  go_enter Tryd.func63, Tryd.ntmps63; go_wp2; go_ret; exact ⟨rfl, rfl⟩
set_option maxHeartbeats 400000 in
theorem ceil_any (n d : Int) (w : World) (h : 0 ≤ n) (h1 : 1 ≤ d) (h2 : n + d ≤ 9223372036854775807) : Calls Tryd.prog 47 #[.int .i64 n, .int .i64 d] w fun e w' => e = .returned (.int .i64 ((n + d - 1) / d)) ∧ w = w' := by
  have h3 := Int.ediv_nonneg (a := n + d - 1) (b := d) (by omega) (by omega)
  have h4 := Int.ediv_le_self (a := n + d - 1) d (by omega)
  go_enter Tryd.func47, Tryd.ntmps47; go_wp2; go_ret; exact ⟨rfl, rfl⟩
set_option maxHeartbeats 400000 in
theorem max00_any (a b : Int) (w : World) : Calls Tryd.prog 62 #[.int .i64 a, .int .i64 b] w fun e w' => e = .returned (.int .i64 (maxI a b)) ∧ w = w' := by
  by_cases h0 : b < a
  · rw [show maxI a b = a from if_neg (by omega)]; go_enter Tryd.func62, Tryd.ntmps62; go_wp2; go_ret; exact ⟨rfl, rfl⟩
  by_cases h1 : a < b
  · rw [show maxI a b = b from if_pos (by omega)]; go_enter Tryd.func62, Tryd.ntmps62; go_wp2; go_ret; exact ⟨rfl, rfl⟩
  obtain rfl : a = b := by omega
  rw [show maxI a a = a from if_neg (by omega)]; go_enter Tryd.func62, Tryd.ntmps62; go_wp2; go_ret; exact ⟨rfl, rfl⟩
set_option maxHeartbeats 400000 in
theorem min00_any (a b : Int) (w : World) : Calls Tryd.prog 94 #[.int .i64 a, .int .i64 b] w fun e w' => e = .returned (.int .i64 (minI a b)) ∧ w = w' := by
  by_cases h0 : a < b
  · rw [show minI a b = a from if_pos (by omega)]; go_enter Tryd.func94, Tryd.ntmps94; go_wp2; go_ret; exact ⟨rfl, rfl⟩
  rw [show minI a b = b from if_neg (by omega)]; go_enter Tryd.func94, Tryd.ntmps94; go_wp2; go_ret; exact ⟨rfl, rfl⟩
set_option maxHeartbeats 400000 in
theorem isDir_any (n : Int) (w : World) : Calls Tryd.prog 49 #[.int .i64 n] w fun e w' => e = .returned (.bool (inI n 0 23)) ∧ w = w' := by
  by_cases h0 : 0 ≤ n
  case neg => have hd := decide_eq_false h0; rw [inI_n (by omega)]; go_enter Tryd.func49, Tryd.ntmps49; go_wp2; go_ret; exact ⟨rfl, rfl⟩
  by_cases h1 : n ≤ 23
  case neg => have hd := decide_eq_false h1; rw [inI_n (by omega)]; go_enter Tryd.func49, Tryd.ntmps49; go_wp2; go_ret; exact ⟨rfl, rfl⟩
  rw [inI_y ⟨h0, h1⟩]; go_enter Tryd.func49, Tryd.ntmps49; go_wp2; go_ret; exact ⟨rfl, rfl⟩
end Go.Proofs.YtoglmeiffidcbaaDoor
