/- Contracts of the functions on slings, the second part. -/
import Derived.Test.YtnmldhkcbekecaaSling
import Derived.Deep.RegionHeld3
namespace Go.Proofs.Ytnmldhkcbekecaa
open Go.RowKit
theorem clSl_bd (l s r : Int) : 0 ≤ clSl l s r ∧ clSl l s r ≤ 3 := by unfold clSl; split; omega; split; omega; split <;> omega
def codeSl (ok : Bool) (n k : Int) : Int := if ok = true then (if inI n 0 50000 = true ∧ inI k 0 50000 = true then 0 else 2) else 1
set_option maxHeartbeats 1000000 in
theorem square07_any (b o : Nat) (l s r m : Int) (w : World) (h : C4 w b o l s r m) (hok : okSl l s r m = true) : Calls Try.prog 70 #[.pointer (some ⟨b, o, none⟩)] w fun e w' => e = .returned (.int .i64 (sqSl s r)) ∧ ∃ q, w' = w.drewN q := by
  obtain ⟨k0, k1, k2, k3, k4, k5, k6, k7, k8⟩ := okSl_t hok
  have hb := sqSl_bd k2 k3 k4 k5
  have HE := Lib.hid (show s * s + 4 * r * r = sqSl s r from rfl)
  obtain ⟨c0, c1, c2, c3⟩ := h
  go_enter Try.func70, Try.ntmps70
  go_wp2
  go_quiet (fail)
  go_wp2
  go_ret
  exact ⟨ret_int HE.out, nq, rfl⟩
set_option maxHeartbeats 1000000 in
theorem double07_any (b o : Nat) (l s r m : Int) (w : World) (h : C4 w b o l s r m) (hok : okSl l s r m = true) : Calls Try.prog 48 #[.pointer (some ⟨b, o, none⟩)] w fun e w' => e = .returned (.int .i64 (dbSl s r)) ∧ ∃ q, w' = w.drewN q := by
  obtain ⟨k0, k1, k2, k3, k4, k5, k6, k7, k8⟩ := okSl_t hok
  have hb := sqSl_bd k2 k3 k4 k5
  have hq : 0 ≤ sqSl s r ∧ sqSl s r ≤ 800000 := by unfold sqSl; omega
  go_enter Try.func48, Try.ntmps48
  go_wp2_with (first | (go_at_call 70; refine (square07_any _ _ _ _ _ _ _ h hok).mono ?_; rintro e w1 ⟨rfl, q, rfl⟩) | (go_at_call 69; refine (root02_any _ _ (by omega) (by omega)).mono ?_; rintro e w1 ⟨rfl, rfl⟩))
  go_ret
  exact ⟨rfl, _, rfl⟩
set_option maxHeartbeats 1000000 in
theorem bearing07_any (b o : Nat) (l s r m : Int) (w : World) (h : C4 w b o l s r m) : Calls Try.prog 74 #[.pointer (some ⟨b, o, none⟩)] w fun e w' => e = .returned (.int .i64 (minI 3 l)) ∧ w = w' := by
  obtain ⟨c0, c1, c2, c3⟩ := h
  go_enter Try.func74, Try.ntmps74
  go_wp2_with (go_at_call 83; refine (min00_any _ _ _).mono ?_; rintro e w1 ⟨rfl, rfl⟩)
  go_ret
  exact ⟨rfl, rfl⟩
set_option maxHeartbeats 1000000 in
theorem code07_any (b o : Nat) (l s r m : Int) (w : World) (h : C4 w b o l s r m) (n : Int) : Calls Try.prog 44 #[.pointer (some ⟨b, o, none⟩), .int .i64 n] w fun e w' => e = .returned (.int .i64 (codeSl (okSl l s r m) n 0)) ∧ w = w' := by
  have hz : inI 0 0 50000 = true := inI_y (by omega)
  by_cases hok : okSl l s r m = true
  · by_cases hi : inI n 0 50000 = true
    · rw [show codeSl (okSl l s r m) n 0 = 0 from (if_pos hok).trans (if_pos ⟨hi, hz⟩)]; go_enter Try.func44, Try.ntmps44; go_wp2_with (first | (go_at_call 42; refine (l07Ok_any _ _ _ _ _ _ _ h).mono ?_; rintro e w1 ⟨rfl, rfl⟩) | (go_at_call 55; refine (in_any _ _ _ _).mono ?_; rintro e w1 ⟨rfl, rfl⟩)); go_ret; exact ⟨rfl, rfl⟩
    · rw [show codeSl (okSl l s r m) n 0 = 2 from (if_pos hok).trans (if_neg (fun hh => hi hh.1))]; have hi := (Bool.not_eq_true _).mp hi; go_enter Try.func44, Try.ntmps44; go_wp2_with (first | (go_at_call 42; refine (l07Ok_any _ _ _ _ _ _ _ h).mono ?_; rintro e w1 ⟨rfl, rfl⟩) | (go_at_call 55; refine (in_any _ _ _ _).mono ?_; rintro e w1 ⟨rfl, rfl⟩)); go_ret; exact ⟨rfl, rfl⟩
  · rw [show codeSl (okSl l s r m) n 0 = 1 from if_neg hok]; have hok := (Bool.not_eq_true _).mp hok; go_enter Try.func44, Try.ntmps44; go_wp2_with (first | (go_at_call 42; refine (l07Ok_any _ _ _ _ _ _ _ h).mono ?_; rintro e w1 ⟨rfl, rfl⟩)); go_ret; exact ⟨rfl, rfl⟩
set_option maxHeartbeats 2000000 in
theorem class07_any (b o : Nat) (l s r m : Int) (w : World) (h : C4 w b o l s r m) (hok : okSl l s r m = true) : Calls Try.prog 46 #[.pointer (some ⟨b, o, none⟩)] w fun e w' => e = .returned (.int .i64 (clSl l s r)) ∧ ∃ q, w' = w.drewN q := by
  obtain ⟨k0, k1, k2, k3, k4, k5, k6, k7, k8⟩ := okSl_t hok
  obtain ⟨c0, c1, c2, c3⟩ := h
  have hb := sqSl_bd k2 k3 k4 k5
  have hr : 4 * r * r = 4 * (r * r) := Int.mul_assoc 4 r r
  have hr2 : 12 * r * r = 12 * (r * r) := Int.mul_assoc 12 r r
  have h12 : 0 ≤ 12 * r * r ∧ 12 * r * r ≤ 1920000 := by omega
  have HR := Lib.hid hr
  clear hr hr2 HR
  by_cases hl : l = 1
  · subst hl; rw [show clSl 1 s r = 0 from if_pos rfl]; go_enter Try.func46, Try.ntmps46; go_wp2; go_ret; exact ⟨rfl, 0, rfl⟩
  have hl2 : (l == 1) = false := beq_eq_false_iff_ne.2 hl
  by_cases h1 : s ≤ 2 * r
  · rw [show clSl l s r = 1 from (if_neg hl).trans (if_pos h1)]; go_enter Try.func46, Try.ntmps46; go_wp2; go_quiet (fail); go_wp2; go_ret; exact ⟨rfl, _, rfl⟩
  have hd1 := decide_eq_false h1
  by_cases h2 : s * s ≤ 12 * r * r
  · rw [show clSl l s r = 2 from (if_neg hl).trans ((if_neg h1).trans (if_pos h2))]; go_enter Try.func46, Try.ntmps46; go_wp2; go_quiet (fail); go_wp2; go_quiet (fail); go_wp2; go_ret; exact ⟨rfl, _, World.drewN_drewN _ _ _⟩
  have hd2 := decide_eq_false h2
  rw [show clSl l s r = 3 from (if_neg hl).trans ((if_neg h1).trans (if_neg h2))]; go_enter Try.func46, Try.ntmps46; go_wp2; go_quiet (fail); go_wp2; go_quiet (fail); go_wp2; go_ret; exact ⟨rfl, _, World.drewN_drewN _ _ _⟩
set_option maxHeartbeats 2000000 in
theorem class_any (l s r m : Int) (w : World) (hok : okSl l s r m = true) : Calls Try.prog 47 #[.agg #[.int .i64 l, .int .i64 s, .int .i64 r, .int .i64 m]] w fun e w' => e = .returned (.int .i64 (clSl l s r)) ∧ Below w.heap.size w w' := by
  obtain ⟨k0, k1, k2, k3, k4, k5, k6, k7, k8⟩ := okSl_t hok
  have hb := sqSl_bd k2 k3 k4 k5
  have hr : 4 * r * r = 4 * (r * r) := Int.mul_assoc 4 r r
  have hr2 : 12 * r * r = 12 * (r * r) := Int.mul_assoc 12 r r
  have h12 : 0 ≤ 12 * r * r ∧ 12 * r * r ≤ 1920000 := by omega
  have HR := Lib.hid hr
  clear hr hr2 HR
  by_cases hl : l = 1
  · subst hl; rw [show clSl 1 s r = 0 from if_pos rfl]; go_enter Try.func47, Try.ntmps47; go_wp2; go_ret; exact ⟨rfl, by repeat' first | exact gr_refl _ | with_reducible assumption | with_reducible apply gr_alloc | with_reducible apply gr_set | with_reducible apply gr_drew | with_reducible apply gr_drewN | exact Nat.le_add_right _ _ | exact Nat.le_refl _ | (refine gr_then (by with_reducible assumption) ?_)⟩
  have hl2 : (l == 1) = false := beq_eq_false_iff_ne.2 hl
  by_cases h1 : s ≤ 2 * r
  · rw [show clSl l s r = 1 from (if_neg hl).trans (if_pos h1)]; go_enter Try.func47, Try.ntmps47; go_wp2; go_ret; exact ⟨rfl, by repeat' first | exact gr_refl _ | with_reducible assumption | with_reducible apply gr_alloc | with_reducible apply gr_set | with_reducible apply gr_drew | with_reducible apply gr_drewN | exact Nat.le_add_right _ _ | exact Nat.le_refl _ | (refine gr_then (by with_reducible assumption) ?_)⟩
  have hd1 := decide_eq_false h1
  by_cases h2 : s * s ≤ 12 * r * r
  · rw [show clSl l s r = 2 from (if_neg hl).trans ((if_neg h1).trans (if_pos h2))]; go_enter Try.func47, Try.ntmps47; go_wp2; go_ret; exact ⟨rfl, by repeat' first | exact gr_refl _ | with_reducible assumption | with_reducible apply gr_alloc | with_reducible apply gr_set | with_reducible apply gr_drew | with_reducible apply gr_drewN | exact Nat.le_add_right _ _ | exact Nat.le_refl _ | (refine gr_then (by with_reducible assumption) ?_)⟩
  have hd2 := decide_eq_false h2
  rw [show clSl l s r = 3 from (if_neg hl).trans ((if_neg h1).trans (if_neg h2))]; go_enter Try.func47, Try.ntmps47; go_wp2; go_ret; exact ⟨rfl, by repeat' first | exact gr_refl _ | with_reducible assumption | with_reducible apply gr_alloc | with_reducible apply gr_set | with_reducible apply gr_drew | with_reducible apply gr_drewN | exact Nat.le_add_right _ _ | exact Nat.le_refl _ | (refine gr_then (by with_reducible assumption) ?_)⟩
set_option maxHeartbeats 1000000 in
theorem double_any (l s r m : Int) (w : World) (hok : okSl l s r m = true) : Calls Try.prog 50 #[.agg #[.int .i64 l, .int .i64 s, .int .i64 r, .int .i64 m]] w fun e w' => e = .returned (.int .i64 (dbSl s r)) ∧ Below w.heap.size w w' := by
  obtain ⟨k0, k1, k2, k3, k4, k5, k6, k7, k8⟩ := okSl_t hok
  have hb := sqSl_bd k2 k3 k4 k5
  have HE := Lib.hid (show rt (s * s + 4 * r * r) = dbSl s r from rfl)
  go_enter Try.func50, Try.ntmps50
  go_wp2_with (go_at_call 71; refine (rootUp_any _ _ (by omega) (by omega)).mono ?_; rintro e w1 ⟨rfl, rfl⟩)
  go_ret
  exact ⟨ret_int HE.out, by repeat' first | exact gr_refl _ | with_reducible assumption | with_reducible apply gr_alloc | with_reducible apply gr_set | with_reducible apply gr_drew | with_reducible apply gr_drewN | exact Nat.le_add_right _ _ | exact Nat.le_refl _ | (refine gr_then (by with_reducible assumption) ?_)⟩
set_option maxHeartbeats 2000000 in
theorem slingCode_any (l s r m n k : Int) (w : World) : Calls Try.prog 45 #[.agg #[.int .i64 l, .int .i64 s, .int .i64 r, .int .i64 m], .int .i64 n, .int .i64 k] w fun e w' => e = .returned (.int .i64 (codeSl (okSl l s r m) n k)) ∧ Below w.heap.size w w' := by
  by_cases hok : okSl l s r m = true
  case neg => rw [show codeSl (okSl l s r m) n k = 1 from if_neg hok]; have hok := (Bool.not_eq_true _).mp hok; go_enter Try.func45, Try.ntmps45; go_wp2_with (first | (go_at_call 15; refine (validSling_any _ _ _ _ _).mono ?_; rintro e w1 ⟨rfl, hb⟩; have hB : Below (w.alloc (.cells #[.int .i64 l, .int .i64 s, .int .i64 r, .int .i64 m] 25)).heap.size (w.alloc (.cells #[.int .i64 l, .int .i64 s, .int .i64 r, .int .i64 m] 25)) w1 := gr_then hb (by repeat' first | exact gr_refl _ | with_reducible assumption | with_reducible apply gr_alloc | with_reducible apply gr_set | with_reducible apply gr_drew | with_reducible apply gr_drewN | exact Nat.le_add_right _ _ | exact Nat.le_refl _ | (refine gr_then (by with_reducible assumption) ?_)); obtain ⟨hc, hf⟩ := bcell hB; have hz := hB.size) | (go_at_call 43; refine (within_any _ _ _ _).mono ?_; rintro e w1 ⟨rfl, rfl⟩)); go_ret; exact ⟨rfl, by repeat' first | exact gr_refl _ | with_reducible assumption | with_reducible apply gr_alloc | with_reducible apply gr_set | with_reducible apply gr_drew | with_reducible apply gr_drewN | exact Nat.le_add_right _ _ | exact Nat.le_refl _ | (refine gr_then (by with_reducible assumption) ?_)⟩
  by_cases hi : inI n 0 50000 = true
  case neg => rw [show codeSl (okSl l s r m) n k = 2 from (if_pos hok).trans (if_neg (fun hh => hi hh.1))]; have hi := (Bool.not_eq_true _).mp hi; go_enter Try.func45, Try.ntmps45; go_wp2_with (first | (go_at_call 15; refine (validSling_any _ _ _ _ _).mono ?_; rintro e w1 ⟨rfl, hb⟩; have hB : Below (w.alloc (.cells #[.int .i64 l, .int .i64 s, .int .i64 r, .int .i64 m] 25)).heap.size (w.alloc (.cells #[.int .i64 l, .int .i64 s, .int .i64 r, .int .i64 m] 25)) w1 := gr_then hb (by repeat' first | exact gr_refl _ | with_reducible assumption | with_reducible apply gr_alloc | with_reducible apply gr_set | with_reducible apply gr_drew | with_reducible apply gr_drewN | exact Nat.le_add_right _ _ | exact Nat.le_refl _ | (refine gr_then (by with_reducible assumption) ?_)); obtain ⟨hc, hf⟩ := bcell hB; have hz := hB.size) | (go_at_call 43; refine (within_any _ _ _ _).mono ?_; rintro e w1 ⟨rfl, rfl⟩)); go_ret; exact ⟨rfl, by repeat' first | exact gr_refl _ | with_reducible assumption | with_reducible apply gr_alloc | with_reducible apply gr_set | with_reducible apply gr_drew | with_reducible apply gr_drewN | exact Nat.le_add_right _ _ | exact Nat.le_refl _ | (refine gr_then (by with_reducible assumption) ?_)⟩
  by_cases hk : inI k 0 50000 = true
  case neg => rw [show codeSl (okSl l s r m) n k = 2 from (if_pos hok).trans (if_neg (fun hh => hk hh.2))]; have hk := (Bool.not_eq_true _).mp hk; go_enter Try.func45, Try.ntmps45; go_wp2_with (first | (go_at_call 15; refine (validSling_any _ _ _ _ _).mono ?_; rintro e w1 ⟨rfl, hb⟩; have hB : Below (w.alloc (.cells #[.int .i64 l, .int .i64 s, .int .i64 r, .int .i64 m] 25)).heap.size (w.alloc (.cells #[.int .i64 l, .int .i64 s, .int .i64 r, .int .i64 m] 25)) w1 := gr_then hb (by repeat' first | exact gr_refl _ | with_reducible assumption | with_reducible apply gr_alloc | with_reducible apply gr_set | with_reducible apply gr_drew | with_reducible apply gr_drewN | exact Nat.le_add_right _ _ | exact Nat.le_refl _ | (refine gr_then (by with_reducible assumption) ?_)); obtain ⟨hc, hf⟩ := bcell hB; have hz := hB.size) | (go_at_call 43; refine (within_any _ _ _ _).mono ?_; rintro e w1 ⟨rfl, rfl⟩)); go_ret; exact ⟨rfl, by repeat' first | exact gr_refl _ | with_reducible assumption | with_reducible apply gr_alloc | with_reducible apply gr_set | with_reducible apply gr_drew | with_reducible apply gr_drewN | exact Nat.le_add_right _ _ | exact Nat.le_refl _ | (refine gr_then (by with_reducible assumption) ?_)⟩
  rw [show codeSl (okSl l s r m) n k = 0 from (if_pos hok).trans (if_pos ⟨hi, hk⟩)]; go_enter Try.func45, Try.ntmps45; go_wp2_with (first | (go_at_call 15; refine (validSling_any _ _ _ _ _).mono ?_; rintro e w1 ⟨rfl, hb⟩; have hB : Below (w.alloc (.cells #[.int .i64 l, .int .i64 s, .int .i64 r, .int .i64 m] 25)).heap.size (w.alloc (.cells #[.int .i64 l, .int .i64 s, .int .i64 r, .int .i64 m] 25)) w1 := gr_then hb (by repeat' first | exact gr_refl _ | with_reducible assumption | with_reducible apply gr_alloc | with_reducible apply gr_set | with_reducible apply gr_drew | with_reducible apply gr_drewN | exact Nat.le_add_right _ _ | exact Nat.le_refl _ | (refine gr_then (by with_reducible assumption) ?_)); obtain ⟨hc, hf⟩ := bcell hB; have hz := hB.size) | (go_at_call 43; refine (within_any _ _ _ _).mono ?_; rintro e w1 ⟨rfl, rfl⟩)); go_ret; exact ⟨rfl, by repeat' first | exact gr_refl _ | with_reducible assumption | with_reducible apply gr_alloc | with_reducible apply gr_set | with_reducible apply gr_drew | with_reducible apply gr_drewN | exact Nat.le_add_right _ _ | exact Nat.le_refl _ | (refine gr_then (by with_reducible assumption) ?_)⟩
end Go.Proofs.Ytnmldhkcbekecaa
