/- Contracts of small functions on numbers: each computes only, and leaves the world alone. -/
import Derived.Test.YtmgbbkglafnibaaKit
namespace Go.Proofs.Ytmgbbkglafnibaa
open Go.RowKit
def absI (n : Int) : Int := if n < 0 then - n else n
theorem absI_neg {n : Int} (h : n < 0) : absI n = - n := if_pos h
theorem absI_pos {n : Int} (h : 0 ≤ n) : absI n = n := if_neg (by omega)
def minI (a b : Int) : Int := if a < b then a else b
def maxI (a b : Int) : Int := if a < b then b else a
def inI (n a b : Int) : Bool := decide (a ≤ n ∧ n ≤ b)
theorem inI_y {n a b : Int} (h : a ≤ n ∧ n ≤ b) : inI n a b = true := decide_eq_true h
theorem inI_n {n a b : Int} (h : ¬ (a ≤ n ∧ n ≤ b)) : inI n a b = false := decide_eq_false h
theorem inI_t {n a b : Int} (h : inI n a b = true) : a ≤ n ∧ n ≤ b := of_decide_eq_true h
theorem inI_f {n a b : Int} (h : inI n a b = false) : ¬ (a ≤ n ∧ n ≤ b) := of_decide_eq_false h
set_option maxHeartbeats 400000 in
theorem in_any (n a b : Int) (w : World) : Calls Try.prog 62 #[.int .i64 n, .int .i64 a, .int .i64 b] w fun e w' => e = .returned (.bool (inI n a b)) ∧ w = w' := by
  by_cases h0 : a ≤ n
  case neg => have hd := decide_eq_false h0; rw [inI_n (by omega)]; go_enter Try.func62, Try.ntmps62; go_wp2; go_ret; exact ⟨rfl, rfl⟩
  by_cases h1 : n ≤ b
  case neg => have hd := decide_eq_false h1; rw [inI_n (by omega)]; go_enter Try.func62, Try.ntmps62; go_wp2; go_ret; exact ⟨rfl, rfl⟩
  rw [inI_y ⟨h0, h1⟩]; go_enter Try.func62, Try.ntmps62; go_wp2; go_ret; exact ⟨rfl, rfl⟩
set_option maxHeartbeats 400000 in
theorem within_any (n a b : Int) (w : World) : Calls Try.prog 63 #[.int .i64 n, .int .i64 a, .int .i64 b] w fun e w' => e = .returned (.bool (inI n a b)) ∧ w = w' := by
  by_cases h0 : a ≤ n
  case neg => have hd := decide_eq_false h0; rw [inI_n (by omega)]; go_enter Try.func63, Try.ntmps63; go_wp2; go_ret; exact ⟨rfl, rfl⟩
  by_cases h1 : n ≤ b
  case neg => have hd := decide_eq_false h1; rw [inI_n (by omega)]; go_enter Try.func63, Try.ntmps63; go_wp2; go_ret; exact ⟨rfl, rfl⟩
  rw [inI_y ⟨h0, h1⟩]; go_enter Try.func63, Try.ntmps63; go_wp2; go_ret; exact ⟨rfl, rfl⟩
set_option maxHeartbeats 400000 in
theorem size_any (n : Int) (w : World) (h : -9223372036854775807 ≤ n ∧ n ≤ 9223372036854775807) : Calls Try.prog 75 #[.int .i64 n] w fun e w' => e = .returned (.int .i64 (absI n)) ∧ w = w' := by
  by_cases h0 : n < 0
  · rw [absI_neg h0]; go_enter Try.func75, Try.ntmps75; go_wp2; go_ret; exact ⟨rfl, rfl⟩
  by_cases h1 : 0 < n
  · rw [absI_pos (by omega)]; go_enter Try.func75, Try.ntmps75; go_wp2; go_ret; exact ⟨rfl, rfl⟩
  obtain rfl : n = 0 := by omega
  rw [absI_pos (by omega)]; go_enter Try.func75, Try.ntmps75; go_wp2; go_ret; exact ⟨rfl, rfl⟩
set_option maxHeartbeats 400000 in
theorem max00_any (a b : Int) (w : World) : Calls Try.prog 83 #[.int .i64 a, .int .i64 b] w fun e w' => e = .returned (.int .i64 (maxI a b)) ∧ w = w' := by
  by_cases h0 : b < a
  · rw [show maxI a b = a from if_neg (by omega)]; go_enter Try.func83, Try.ntmps83; go_wp2; go_ret; exact ⟨rfl, rfl⟩
  by_cases h1 : a < b
  · rw [show maxI a b = b from if_pos (by omega)]; go_enter Try.func83, Try.ntmps83; go_wp2; go_ret; exact ⟨rfl, rfl⟩
  obtain rfl : a = b := by omega
  rw [show maxI a a = a from if_neg (by omega)]; go_enter Try.func83, Try.ntmps83; go_wp2; go_ret; exact ⟨rfl, rfl⟩
set_option maxHeartbeats 400000 in
theorem min00_any (a b : Int) (w : World) : Calls Try.prog 91 #[.int .i64 a, .int .i64 b] w fun e w' => e = .returned (.int .i64 (minI a b)) ∧ w = w' := by
  by_cases h0 : a < b
  · rw [show minI a b = a from if_pos (by omega)]; go_enter Try.func91, Try.ntmps91; go_wp2; go_ret; exact ⟨rfl, rfl⟩
  rw [show minI a b = b from if_neg (by omega)]; go_enter Try.func91, Try.ntmps91; go_wp2; go_ret; exact ⟨rfl, rfl⟩
set_option maxHeartbeats 400000 in
theorem dir02_any (n : Int) (w : World) : Calls Try.prog 49 #[.int .i64 n] w fun e w' => e = .returned (.bool (inI n 0 23)) ∧ w = w' := by
  by_cases h0 : 0 ≤ n
  case neg => have hd := decide_eq_false h0; rw [inI_n (by omega)]; go_enter Try.func49, Try.ntmps49; go_wp2; go_ret; exact ⟨rfl, rfl⟩
  by_cases h1 : n ≤ 23
  case neg => have hd := decide_eq_false h1; rw [inI_n (by omega)]; go_enter Try.func49, Try.ntmps49; go_wp2; go_ret; exact ⟨rfl, rfl⟩
  rw [inI_y ⟨h0, h1⟩]; go_enter Try.func49, Try.ntmps49; go_wp2; go_ret; exact ⟨rfl, rfl⟩
set_option maxHeartbeats 400000 in
theorem isDir_any (n : Int) (w : World) : Calls Try.prog 50 #[.int .i64 n] w fun e w' => e = .returned (.bool (inI n 0 23)) ∧ w = w' := by
  by_cases h0 : 0 ≤ n
  case neg => have hd := decide_eq_false h0; rw [inI_n (by omega)]; go_enter Try.func50, Try.ntmps50; go_wp2; go_ret; exact ⟨rfl, rfl⟩
  by_cases h1 : n ≤ 23
  case neg => have hd := decide_eq_false h1; rw [inI_n (by omega)]; go_enter Try.func50, Try.ntmps50; go_wp2; go_ret; exact ⟨rfl, rfl⟩
  rw [inI_y ⟨h0, h1⟩]; go_enter Try.func50, Try.ntmps50; go_wp2; go_ret; exact ⟨rfl, rfl⟩
end Go.Proofs.Ytmgbbkglafnibaa
