/- Contracts of the force in a leg, both sides. -/
import Derived.Test.YtnmldhkcbekecaaSlingC
namespace Go.Proofs.Ytnmldhkcbekecaa
open Go.RowKit
noncomputable def numSl (n s r : Int) : Int := n * dbSl s r
def denSl (l r : Int) : Int := 2 * minI 3 l * r
theorem numSl_bd {n s r : Int} (hn : 0 ≤ n) (hn2 : n ≤ 50000) (hd : 1 ≤ dbSl s r ∧ dbSl s r ≤ 1000) : 0 ≤ n * dbSl s r ∧ n * dbSl s r ≤ 50000000 :=
  ⟨Int.mul_nonneg hn (by omega), Int.mul_le_mul hn2 hd.2 (by omega) (by omega)⟩
theorem denSl_bd {l r : Int} (hl : 1 ≤ l) (h2 : 1 ≤ r) (h3 : r ≤ 400) : 1 ≤ minI 3 l ∧ minI 3 l ≤ 3 ∧ 1 ≤ 2 * minI 3 l * r ∧ 2 * minI 3 l * r ≤ 2400 := by
  have h : 1 ≤ minI 3 l ∧ minI 3 l ≤ 3 := by unfold minI; split <;> omega
  have a := Int.mul_le_mul (show 2 * minI 3 l ≤ 6 by omega) h3 (by omega) (by omega)
  have b := Int.mul_le_mul (show (2 : Int) ≤ 2 * minI 3 l by omega) h2 (by omega) (by omega)
  exact ⟨h.1, h.2, by omega, by omega⟩
theorem keep4 {w w1 : World} {t : TypeId} {l s r m : Int} (h : Below (w.alloc (.cells #[.int .i64 l, .int .i64 s, .int .i64 r, .int .i64 m] t)).heap.size (w.alloc (.cells #[.int .i64 l, .int .i64 s, .int .i64 r, .int .i64 m] t)) w1) :
    w1.cell? ⟨w.heap.size, 0, none⟩ = some (.int .i64 l) ∧ w1.cell? ⟨w.heap.size, 1, none⟩ = some (.int .i64 s) ∧ w1.cell? ⟨w.heap.size, 2, none⟩ = some (.int .i64 r) ∧ w1.cell? ⟨w.heap.size, 3, none⟩ = some (.int .i64 m) ∧ Below (w.alloc (.cells #[.int .i64 l, .int .i64 s, .int .i64 r, .int .i64 m] t)).heap.size (w.alloc (.cells #[.int .i64 l, .int .i64 s, .int .i64 r, .int .i64 m] t)) w1 := by
  obtain ⟨c0, c1, c2, c3⟩ := (C4.box w t l s r m).below h (by simp)
  exact ⟨c0, c1, c2, c3, h⟩
set_option maxHeartbeats 2000000 in
theorem force_any (l s r m n : Int) (w : World) (hok : okSl l s r m = true) (hn : 0 ≤ n) (hn2 : n ≤ 50000) : Calls Try.prog 52 #[.agg #[.int .i64 l, .int .i64 s, .int .i64 r, .int .i64 m], .int .i64 n] w fun e w' => e = .returned (.tuple #[.int .i64 (numSl n s r), .int .i64 (denSl l r)]) ∧ Below w.heap.size w w' := by
  obtain ⟨k0, k1, k2, k3, k4, k5, k6, k7, k8⟩ := okSl_t hok
  have hdb := dbSl_bd k2 k3 k4 k5
  have hnb := numSl_bd hn hn2 hdb
  have hdn := denSl_bd k0 k4 k5
  have HN := Lib.hid (show n * dbSl s r = numSl n s r from rfl)
  have HD := Lib.hid (show 2 * minI 3 l * r = denSl l r from rfl)
  by_cases h3 : l ≤ 3
  · have hm : minI 3 l = l := if_neg (by omega)
    rw [hm] at hdn HD
    clear hm
    have hw1 : IntKind.i64.wrap (n * dbSl s r) = n * dbSl s r := IntWalk.i64_in _ (by omega)
    have hw2 : IntKind.i64.wrap (2 * l) = 2 * l := IntWalk.i64_in _ (by omega)
    have hw3 : IntKind.i64.wrap (2 * l * r) = 2 * l * r := IntWalk.i64_in _ (by omega)
    have hb0 : Below (w.alloc (.cells #[.int .i64 l, .int .i64 s, .int .i64 r, .int .i64 m] 25)).heap.size (w.alloc (.cells #[.int .i64 l, .int .i64 s, .int .i64 r, .int .i64 m] 25)) (w.alloc (.cells #[.int .i64 l, .int .i64 s, .int .i64 r, .int .i64 m] 25)) := gr_refl _
    go_enter Try.func52, Try.ntmps52
    go_wp2
    go_region_held3 (fun w' => w'.cell? ⟨w.heap.size, 0, none⟩ = some (.int .i64 l) ∧ w'.cell? ⟨w.heap.size, 1, none⟩ = some (.int .i64 s) ∧ w'.cell? ⟨w.heap.size, 2, none⟩ = some (.int .i64 r) ∧ w'.cell? ⟨w.heap.size, 3, none⟩ = some (.int .i64 m) ∧ Below (w.alloc (.cells #[.int .i64 l, .int .i64 s, .int .i64 r, .int .i64 m] 25)).heap.size (w.alloc (.cells #[.int .i64 l, .int .i64 s, .int .i64 r, .int .i64 m] 25)) w') (first | exact keep4 (by assumption) | exact keep4 (gr_drew (by assumption)) | go_keep) (first | (go_at_call 50; refine (double_any _ _ _ _ _ hok).mono ?_; rintro e w1 ⟨rfl, hb1⟩; have hb0 : Below (w.alloc (.cells #[.int .i64 l, .int .i64 s, .int .i64 r, .int .i64 m] 25)).heap.size (w.alloc (.cells #[.int .i64 l, .int .i64 s, .int .i64 r, .int .i64 m] 25)) w1 := gr_then hb1 (by repeat' first | exact gr_refl _ | with_reducible assumption | with_reducible apply gr_alloc | with_reducible apply gr_set | with_reducible apply gr_drew | with_reducible apply gr_drewN | exact Nat.le_add_right _ _ | exact Nat.le_refl _ | (refine gr_then (by with_reducible assumption) ?_))))
    all_goals (go_wp2; go_returns; exact ⟨ret_int2 HN.out HD.out, by repeat' first | exact gr_refl _ | with_reducible assumption | with_reducible apply gr_alloc | with_reducible apply gr_set | with_reducible apply gr_drew | with_reducible apply gr_drewN | exact Nat.le_add_right _ _ | exact Nat.le_refl _ | (refine gr_then (by with_reducible assumption) ?_)⟩)
  · have hm : minI 3 l = 3 := if_pos (by omega)
    rw [hm] at hdn HD
    clear hm
    obtain rfl : l = 4 := by omega
    have hw1 : IntKind.i64.wrap (n * dbSl s r) = n * dbSl s r := IntWalk.i64_in _ (by omega)
    have hw2 : IntKind.i64.wrap 6 = 6 := IntWalk.i64_in _ (by omega)
    have hw3 : IntKind.i64.wrap (6 * r) = 6 * r := IntWalk.i64_in _ (by omega)
    have hb0 : Below (w.alloc (.cells #[.int .i64 4, .int .i64 s, .int .i64 r, .int .i64 m] 25)).heap.size (w.alloc (.cells #[.int .i64 4, .int .i64 s, .int .i64 r, .int .i64 m] 25)) (w.alloc (.cells #[.int .i64 4, .int .i64 s, .int .i64 r, .int .i64 m] 25)) := gr_refl _
    go_enter Try.func52, Try.ntmps52
    go_wp2
    go_region_held3 (fun w' => w'.cell? ⟨w.heap.size, 0, none⟩ = some (.int .i64 4) ∧ w'.cell? ⟨w.heap.size, 1, none⟩ = some (.int .i64 s) ∧ w'.cell? ⟨w.heap.size, 2, none⟩ = some (.int .i64 r) ∧ w'.cell? ⟨w.heap.size, 3, none⟩ = some (.int .i64 m) ∧ Below (w.alloc (.cells #[.int .i64 4, .int .i64 s, .int .i64 r, .int .i64 m] 25)).heap.size (w.alloc (.cells #[.int .i64 4, .int .i64 s, .int .i64 r, .int .i64 m] 25)) w') (first | exact keep4 (by assumption) | exact keep4 (gr_drew (by assumption)) | go_keep) (first | (go_at_call 50; refine (double_any _ _ _ _ _ hok).mono ?_; rintro e w1 ⟨rfl, hb1⟩; have hb0 : Below (w.alloc (.cells #[.int .i64 4, .int .i64 s, .int .i64 r, .int .i64 m] 25)).heap.size (w.alloc (.cells #[.int .i64 4, .int .i64 s, .int .i64 r, .int .i64 m] 25)) w1 := gr_then hb1 (by repeat' first | exact gr_refl _ | with_reducible assumption | with_reducible apply gr_alloc | with_reducible apply gr_set | with_reducible apply gr_drew | with_reducible apply gr_drewN | exact Nat.le_add_right _ _ | exact Nat.le_refl _ | (refine gr_then (by with_reducible assumption) ?_))))
    all_goals (go_wp2; go_returns; exact ⟨ret_int2 HN.out HD.out, by repeat' first | exact gr_refl _ | with_reducible assumption | with_reducible apply gr_alloc | with_reducible apply gr_set | with_reducible apply gr_drew | with_reducible apply gr_drewN | exact Nat.le_add_right _ _ | exact Nat.le_refl _ | (refine gr_then (by with_reducible assumption) ?_)⟩)
theorem keepF {w w1 : World} {b o : Nat} {t : TypeId} {l s r m : Int} (h : C4 w b o l s r m) (hB : b < w.heap.size) (hb : Below (w.alloc (.cells #[.int .i64 0, .int .i64 0] t)).heap.size (w.alloc (.cells #[.int .i64 0, .int .i64 0] t)) w1) :
    w1.cell? ⟨b, o + 2, none⟩ = some (.int .i64 r) ∧ w1.cell? ⟨w.heap.size, 0, none⟩ = some (.int .i64 0) ∧ w1.cell? ⟨w.heap.size, 1, none⟩ = some (.int .i64 0) ∧ w1.frozen? ⟨w.heap.size, 0, none⟩ = false ∧ w1.frozen? ⟨w.heap.size, 1, none⟩ = false ∧ Below (w.alloc (.cells #[.int .i64 0, .int .i64 0] t)).heap.size (w.alloc (.cells #[.int .i64 0, .int .i64 0] t)) w1 := by
  have hw := heap_alloc_new w (.cells #[.int .i64 0, .int .i64 0] t)
  have hw1 := (hb.block w.heap.size (by simp)).trans hw
  refine ⟨?_, ?_, ?_, ?_, ?_, hb⟩
  · exact ((h.below (Below.alloc (Below.refl w.heap.size w) (Nat.le_refl _) _) hB).below hb (by simp; omega)).2.2.1
  · rw [cell_of_row _ _ _ _ _ _ hw1]; rfl
  · rw [cell_of_row _ _ _ _ _ _ hw1]; rfl
  · exact frozen_of_row _ _ _ _ _ hw1
  · exact frozen_of_row _ _ _ _ _ hw1
theorem C4.later {w w1 w2 : World} {b o : Nat} {x0 x1 x2 x3 : Int} (h : C4 w b o x0 x1 x2 x3) (hB : b < w.heap.size) (hb : Below w.heap.size w w1) (e : w2 = w1) : C4 w2 b o x0 x1 x2 x3 := by subst e; exact h.below hb hB
set_option maxHeartbeats 4000000 in
theorem force07_any (b o : Nat) (l s r m n : Int) (w : World) (h : C4 w b o l s r m) (hB : b < w.heap.size) (hok : okSl l s r m = true) (hn : 0 ≤ n) (hn2 : n ≤ 50000) : Calls Try.prog 53 #[.pointer (some ⟨b, o, none⟩), .int .i64 n] w fun e w' => e = .returned (.agg #[.int .i64 (numSl n s r / gcdI (numSl n s r) (denSl l r)), .int .i64 (denSl l r / gcdI (numSl n s r) (denSl l r))]) ∧ Below w.heap.size w w' := by
  obtain ⟨k0, k1, k2, k3, k4, k5, k6, k7, k8⟩ := okSl_t hok
  have hdb := dbSl_bd k2 k3 k4 k5
  have hnb := numSl_bd hn hn2 hdb
  have hdn := denSl_bd k0 k4 k5
  have HN := Lib.hid (show n * dbSl s r = numSl n s r from rfl)
  have HD := Lib.hid (show 2 * minI 3 l * r = denSl l r from rfl)
  have hb0 : Below (w.alloc (.cells #[.int .i64 0, .int .i64 0] 33)).heap.size (w.alloc (.cells #[.int .i64 0, .int .i64 0] 33)) (w.alloc (.cells #[.int .i64 0, .int .i64 0] 33)) := gr_refl _
  have hw1 : IntKind.i64.wrap (n * dbSl s r) = n * dbSl s r := IntWalk.i64_in _ (by omega)
  have hw2 : IntKind.i64.wrap (2 * minI 3 l) = 2 * minI 3 l := IntWalk.i64_in _ (by omega)
  have hw3 : IntKind.i64.wrap (2 * minI 3 l * r) = 2 * minI 3 l * r := IntWalk.i64_in _ (by omega)
  have c2 : w.cell? ⟨b, o + 2, none⟩ = some (.int .i64 r) := h.2.2.1
  go_enter Try.func53, Try.ntmps53
  go_wp2
  go_region_with (first | (go_at_call 48; refine (double07_any b o l s r m _ (h.later hB (by repeat' first | exact gr_refl _ | with_reducible assumption | with_reducible apply gr_alloc | with_reducible apply gr_set | with_reducible apply gr_drew | with_reducible apply gr_drewN | exact Nat.le_add_right _ _ | exact Nat.le_refl _ | (refine gr_then (by with_reducible assumption) ?_)) rfl) hok).mono ?_; rintro e w1 ⟨rfl, q, rfl⟩) | (go_at_call 74; refine (bearing07_any b o l s r m _ (h.later hB (by repeat' first | exact gr_refl _ | with_reducible assumption | with_reducible apply gr_alloc | with_reducible apply gr_set | with_reducible apply gr_drew | with_reducible apply gr_drewN | exact Nat.le_add_right _ _ | exact Nat.le_refl _ | (refine gr_then (by with_reducible assumption) ?_)) rfl)).mono ?_; rintro e w1 ⟨rfl, rfl⟩) | (go_at_call 73; refine (make06_any _ _ _ (by omega) (by omega)).mono ?_; rintro e w1 ⟨rfl, hb1⟩; have hb0 : Below (w.alloc (.cells #[.int .i64 0, .int .i64 0] 33)).heap.size (w.alloc (.cells #[.int .i64 0, .int .i64 0] 33)) w1 := gr_then hb1 (by repeat' first | exact gr_refl _ | with_reducible assumption | with_reducible apply gr_alloc | with_reducible apply gr_set | with_reducible apply gr_drew | with_reducible apply gr_drewN | exact Nat.le_add_right _ _ | exact Nat.le_refl _ | (refine gr_then (by with_reducible assumption) ?_)); obtain ⟨d0, d1, d2, d3, d4, d5⟩ := keepF h hB hb0))
  all_goals (go_wp2; refine bodyPost_ret (v := .agg #[.int .i64 ((n * dbSl s r).tdiv (gcdI (absI (n * dbSl s r)) (2 * minI 3 l * r))), .int .i64 (2 * minI 3 l * r / gcdI (absI (n * dbSl s r)) (2 * minI 3 l * r))]) (by simp [results, Try.results53, go_sem, d1, d2]) rfl ?_; exact ⟨by rw [Int.tdiv_eq_ediv_of_nonneg (by omega), absI_pos (by omega), HN.out, HD.out], by repeat' first | exact gr_refl _ | with_reducible assumption | with_reducible apply gr_alloc | with_reducible apply gr_set | with_reducible apply gr_drew | with_reducible apply gr_drewN | exact Nat.le_add_right _ _ | exact Nat.le_refl _ | (refine gr_then (by with_reducible assumption) ?_)⟩)
end Go.Proofs.Ytnmldhkcbekecaa
