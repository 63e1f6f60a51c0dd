/- What the law of stability asks of the numbers; the functions' contracts by letters. -/
import Derived.Test.YtmalbgbmapfiiaaDoorStF
import Derived.Test.YtmalbgbmapfiiaaDoorBsT
namespace Go.Proofs.YtmalbgbmapfiiaaDoor
open Go.RowKit Go.Deep
theorem of_bd {a b : Int} (ha : 0 ≤ a) (hb : 1 ≤ b) : (0 ≤ ofA a b ∧ ofA a b ≤ a) ∧ (0 ≤ ofB a b ∧ ofB a b ≤ b) := by
  have hg := gcdI_pos (a := absI a) (b := b) (by omega)
  unfold ofA ofB
  rw [Int.tdiv_eq_ediv_of_nonneg ha]
  exact ⟨⟨Int.ediv_nonneg ha (by omega), Int.ediv_le_self _ ha⟩, ⟨Int.ediv_nonneg (by omega) (by omega), Int.ediv_le_self _ (by omega)⟩⟩
theorem of_safe {t m p : Int} (ht : 0 ≤ t) (hm : 1 ≤ m) : (p * ofB t (2 * m) ≤ 100 * ofA t (2 * m)) ↔ 2 * p * m ≤ 100 * t := by
  have hg := gcdI_pos (a := t) (b := 2 * m) (by omega)
  unfold ofA ofB
  rw [absI_pos ht, Int.tdiv_eq_ediv_of_nonneg ht]
  exact safe_iff hg (gcdI_dvd_left _ _) (gcdI_dvd_right _ _)
/-- the safety that is told decides whether the base is stable -/
theorem safe_law (x0 x1 x2 x3 x4 x5 x6 : Int) (l r p : Int) {S : Bool} {A B : Int} (h2 : codB (okB x0 x1 x2 x3 x4 x5 x6) l r p = 0) (hS : (decide (codB (okB x0 x1 x2 x3 x4 x5 x6) l r p = 0) && stB x0 (totB x1 x2 x3 x5 l) (momB x3 x4 x5 x6 l r) p) = S) (h3 : sfE (codB (okB x0 x1 x2 x3 x4 x5 x6) l r 100) (momB x3 x4 x5 x6 l r) = 0)
    (hA : zif (sfE (codB (okB x0 x1 x2 x3 x4 x5 x6) l r 100) (momB x3 x4 x5 x6 l r)) (ofA (totB x1 x2 x3 x5 l * x0) (2 * absI (momB x3 x4 x5 x6 l r))) = A) (hB : zif (sfE (codB (okB x0 x1 x2 x3 x4 x5 x6) l r 100) (momB x3 x4 x5 x6 l r)) (ofB (totB x1 x2 x3 x5 l * x0) (2 * absI (momB x3 x4 x5 x6 l r))) = B) :
    S = decide (p * B ≤ 100 * A) ∧ (0 ≤ A ∧ A ≤ 410000000) ∧ (0 ≤ p * B ∧ p * B ≤ 1100000000000) := by
  obtain ⟨hok, hl, hr, hp⟩ := codB_t h2
  have t1 := tot_bd hok hl
  have k0 := (okB_t hok).1
  have t2 := (mom_bd hok hl hr).2.2.2
  rw [zif_y h3] at hA hB
  rw [h2] at hS
  have hc := codB_100 (ok := okB x0 x1 x2 x3 x4 x5 x6) (ld := l) (r := r) (inI_y hp)
  rw [hc, h2] at h3
  generalize totB x1 x2 x3 x5 l = tt at *
  generalize momB x3 x4 x5 x6 l r = mo at *
  have hab := abs_bd (x := mo) (A := 550000000) (by omega)
  have hne : ¬ absI mo = 0 := fun h9 => by unfold sfE at h3; rw [if_pos rfl, if_pos h9] at h3; omega
  have hp0 := mul_bd (a := tt) (b := x0) (A := 2050000) (B := 200) (by omega) (by omega) (by omega) (by omega)
  have hb := of_bd (a := tt * x0) (b := 2 * absI mo) hp0.1 (by omega)
  have hs := of_safe (t := tt * x0) (m := absI mo) (p := p) hp0.1 (by omega)
  rw [hA, hB] at hb hs
  have hq := mul_bd (a := p) (b := B) (A := 1000) (B := 1100000000) (by omega) hp.2 hb.2.1 (by omega)
  refine ⟨?_, by omega, by omega⟩
  subst hS
  simp only [decide_true, Bool.true_and]
  unfold stB
  rw [decide_eq_decide, hs, Int.mul_assoc 100 tt x0]
/-- the least ballast is enough, but not less -/
theorem least_law (x0 x1 x2 x3 x4 x5 x6 : Int) (ld r pc : Int) {N : Int} (h1 : lbE (codB (okB x0 x1 x2 x3 x4 x5 x6) ld r pc) (lbB x0 x1 x3 x4 x5 x6 ld r pc) = 0) (hN : zif (lbE (codB (okB x0 x1 x2 x3 x4 x5 x6) ld r pc) (lbB x0 x1 x3 x4 x5 x6 ld r pc)) (lbB x0 x1 x3 x4 x5 x6 ld r pc) = N) :
    (0 ≤ N ∧ N ≤ 500000) ∧ ∀ b : Int, 0 ≤ b ∧ b ≤ 500000 → codB (okB x0 x1 b x3 x4 x5 x6) ld r pc = 0 ∧ (decide (codB (okB x0 x1 b x3 x4 x5 x6) ld r pc = 0) && stB x0 (totB x1 b x3 x5 ld) (momB x3 x4 x5 x6 ld r) pc) = decide (N ≤ b) := by
  rw [zif_y h1] at hN
  have hc : codB (okB x0 x1 x2 x3 x4 x5 x6) ld r pc = 0 := by
    by_cases h : codB (okB x0 x1 x2 x3 x4 x5 x6) ld r pc = 0
    · exact h
    · unfold lbE at h1; rw [if_neg h] at h1; exact absurd h1 h
  have hL : ¬ 500000 < N := fun h => by unfold lbE at h1; rw [if_pos hc, hN, if_pos h] at h1; omega
  have h0 := lb_nn x0 x1 x3 x4 x5 x6 ld r pc
  rw [hN] at h0
  obtain ⟨hok, hl, hr, hp⟩ := codB_t hc
  refine ⟨by omega, fun b hb => ?_⟩
  have hok2 := okB_bal hok hb
  have hz := codB_0 hok2 (inI_y hl) (inI_y hr) (inI_y hp)
  refine ⟨hz, ?_⟩
  rw [hz, st_lb (okB_t hok).1.1 hb.1, hN]
  simp
set_option maxHeartbeats 1000000 in
theorem specVb_any (x0 x1 x2 x3 x4 x5 x6 : Int) (w : World) : Calls Tryd.prog 25 #[.agg #[.int .i64 x0, .int .i64 x1, .int .i64 x2, .int .i64 x3, .int .i64 x4, .int .i64 x5, .int .i64 x6]] w fun e w' => e = .returned (.bool (okB x0 x1 x2 x3 x4 x5 x6)) ∧ Below w.heap.size w w' := by
  have hC := C7.box w 25 x0 x1 x2 x3 x4 x5 x6
  go_enter Tryd.func25, Tryd.ntmps25; go_wp2_with (go_at_call 45; (with_reducible refine (l06Ok_any _ x0 x1 x2 x3 x4 x5 x6 _ hC).mono ?_); rintro e w1 ⟨rfl, rfl⟩)
  go_returns
  exact ⟨rfl, by repeat' first | exact gr_refl _ | with_reducible assumption | with_reducible apply gr_alloc | with_reducible apply gr_set | with_reducible apply gr_drew | with_reducible apply gr_drewN | exact Nat.le_add_right _ _ | exact Nat.le_refl _ | (refine gr_then (by with_reducible assumption) ?_)⟩
theorem implLb_is (x0 x1 x2 x3 x4 x5 x6 : Int) (ld r pc : Int) {P : Int} {C : Int} (w : World) (h1 : zif (lbE (codB (okB x0 x1 x2 x3 x4 x5 x6) ld r pc) (lbB x0 x1 x3 x4 x5 x6 ld r pc)) (lbB x0 x1 x3 x4 x5 x6 ld r pc) = P) (h3 : lbE (codB (okB x0 x1 x2 x3 x4 x5 x6) ld r pc) (lbB x0 x1 x3 x4 x5 x6 ld r pc) = C) : Calls Tryd.prog 7 #[.agg #[.int .i64 x0, .int .i64 x1, .int .i64 x2, .int .i64 x3, .int .i64 x4, .int .i64 x5, .int .i64 x6], .int .i64 ld, .int .i64 r, .int .i64 pc] w fun e w' => e = .returned (.tuple #[.int .i64 P, .int .i64 C]) ∧ Below w.heap.size w w' := by subst h1; subst h3; exact implLb_any x0 x1 x2 x3 x4 x5 x6 ld r pc w
theorem specLb_is (x0 x1 x2 x3 x4 x5 x6 : Int) (ld r pc : Int) {P : Int} {C : Int} (w : World) (h1 : zif (lbE (codB (okB x0 x1 x2 x3 x4 x5 x6) ld r pc) (lbB x0 x1 x3 x4 x5 x6 ld r pc)) (lbB x0 x1 x3 x4 x5 x6 ld r pc) = P) (h3 : lbE (codB (okB x0 x1 x2 x3 x4 x5 x6) ld r pc) (lbB x0 x1 x3 x4 x5 x6 ld r pc) = C) : Calls Tryd.prog 8 #[.agg #[.int .i64 x0, .int .i64 x1, .int .i64 x2, .int .i64 x3, .int .i64 x4, .int .i64 x5, .int .i64 x6], .int .i64 ld, .int .i64 r, .int .i64 pc] w fun e w' => e = .returned (.tuple #[.int .i64 P, .int .i64 C]) ∧ Below w.heap.size w w' := by subst h1; subst h3; exact specLb_any x0 x1 x2 x3 x4 x5 x6 ld r pc w
theorem implSt_is (x0 x1 x2 x3 x4 x5 x6 : Int) (ld r pc : Int) {P : Bool} {C : Int} (w : World) (h1 : (decide (codB (okB x0 x1 x2 x3 x4 x5 x6) ld r pc = 0) && stB x0 (totB x1 x2 x3 x5 ld) (momB x3 x4 x5 x6 ld r) pc) = P) (h3 : codB (okB x0 x1 x2 x3 x4 x5 x6) ld r pc = C) : Calls Tryd.prog 10 #[.agg #[.int .i64 x0, .int .i64 x1, .int .i64 x2, .int .i64 x3, .int .i64 x4, .int .i64 x5, .int .i64 x6], .int .i64 ld, .int .i64 r, .int .i64 pc] w fun e w' => e = .returned (.tuple #[.bool P, .int .i64 C]) ∧ Below w.heap.size w w' := by subst h1; subst h3; exact implSt_any x0 x1 x2 x3 x4 x5 x6 ld r pc w
theorem specSt_is (x0 x1 x2 x3 x4 x5 x6 : Int) (ld r pc : Int) {P : Bool} {C : Int} (w : World) (h1 : (decide (codB (okB x0 x1 x2 x3 x4 x5 x6) ld r pc = 0) && stB x0 (totB x1 x2 x3 x5 ld) (momB x3 x4 x5 x6 ld r) pc) = P) (h3 : codB (okB x0 x1 x2 x3 x4 x5 x6) ld r pc = C) : Calls Tryd.prog 11 #[.agg #[.int .i64 x0, .int .i64 x1, .int .i64 x2, .int .i64 x3, .int .i64 x4, .int .i64 x5, .int .i64 x6], .int .i64 ld, .int .i64 r, .int .i64 pc] w fun e w' => e = .returned (.tuple #[.bool P, .int .i64 C]) ∧ Below w.heap.size w w' := by subst h1; subst h3; exact specSt_any x0 x1 x2 x3 x4 x5 x6 ld r pc w
theorem implSf_is (x0 x1 x2 x3 x4 x5 x6 : Int) (ld r : Int) {P Q : Int} {C : Int} (w : World) (h1 : zif (sfE (codB (okB x0 x1 x2 x3 x4 x5 x6) ld r 100) (momB x3 x4 x5 x6 ld r)) (ofA ((totB x1 x2 x3 x5 ld) * x0) (2 * absI (momB x3 x4 x5 x6 ld r))) = P) (h2 : zif (sfE (codB (okB x0 x1 x2 x3 x4 x5 x6) ld r 100) (momB x3 x4 x5 x6 ld r)) (ofB ((totB x1 x2 x3 x5 ld) * x0) (2 * absI (momB x3 x4 x5 x6 ld r))) = Q) (h3 : sfE (codB (okB x0 x1 x2 x3 x4 x5 x6) ld r 100) (momB x3 x4 x5 x6 ld r) = C) : Calls Tryd.prog 12 #[.agg #[.int .i64 x0, .int .i64 x1, .int .i64 x2, .int .i64 x3, .int .i64 x4, .int .i64 x5, .int .i64 x6], .int .i64 ld, .int .i64 r] w fun e w' => e = .returned (.tuple #[.agg #[.int .i64 P, .int .i64 Q], .int .i64 C]) ∧ Below w.heap.size w w' := by subst h1; subst h2; subst h3; exact implSf_any x0 x1 x2 x3 x4 x5 x6 ld r w
theorem specSf_is (x0 x1 x2 x3 x4 x5 x6 : Int) (ld r : Int) {P Q : Int} {C : Int} (w : World) (h1 : zif (sfE (codB (okB x0 x1 x2 x3 x4 x5 x6) ld r 100) (momB x3 x4 x5 x6 ld r)) (ofA ((totB x1 x2 x3 x5 ld) * x0) (2 * absI (momB x3 x4 x5 x6 ld r))) = P) (h2 : zif (sfE (codB (okB x0 x1 x2 x3 x4 x5 x6) ld r 100) (momB x3 x4 x5 x6 ld r)) (ofB ((totB x1 x2 x3 x5 ld) * x0) (2 * absI (momB x3 x4 x5 x6 ld r))) = Q) (h3 : sfE (codB (okB x0 x1 x2 x3 x4 x5 x6) ld r 100) (momB x3 x4 x5 x6 ld r) = C) : Calls Tryd.prog 13 #[.agg #[.int .i64 x0, .int .i64 x1, .int .i64 x2, .int .i64 x3, .int .i64 x4, .int .i64 x5, .int .i64 x6], .int .i64 ld, .int .i64 r] w fun e w' => e = .returned (.tuple #[.agg #[.int .i64 P, .int .i64 Q], .int .i64 C]) ∧ Below w.heap.size w w' := by subst h1; subst h2; subst h3; exact specSf_any x0 x1 x2 x3 x4 x5 x6 ld r w
theorem implPr_is (x0 x1 x2 x3 x4 x5 x6 : Int) (ld r : Int) {P Q : Int} {C : Int} (w : World) (h1 : zif (prE (codB (okB x0 x1 x2 x3 x4 x5 x6) ld r 100) x0 (totB x1 x2 x3 x5 ld) (absI (momB x3 x4 x5 x6 ld r))) (ofA (prN x0 (totB x1 x2 x3 x5 ld) (absI (momB x3 x4 x5 x6 ld r))) (prD x0 (totB x1 x2 x3 x5 ld) (absI (momB x3 x4 x5 x6 ld r)))) = P) (h2 : zif (prE (codB (okB x0 x1 x2 x3 x4 x5 x6) ld r 100) x0 (totB x1 x2 x3 x5 ld) (absI (momB x3 x4 x5 x6 ld r))) (ofB (prN x0 (totB x1 x2 x3 x5 ld) (absI (momB x3 x4 x5 x6 ld r))) (prD x0 (totB x1 x2 x3 x5 ld) (absI (momB x3 x4 x5 x6 ld r)))) = Q) (h3 : prE (codB (okB x0 x1 x2 x3 x4 x5 x6) ld r 100) x0 (totB x1 x2 x3 x5 ld) (absI (momB x3 x4 x5 x6 ld r)) = C) : Calls Tryd.prog 14 #[.agg #[.int .i64 x0, .int .i64 x1, .int .i64 x2, .int .i64 x3, .int .i64 x4, .int .i64 x5, .int .i64 x6], .int .i64 ld, .int .i64 r] w fun e w' => e = .returned (.tuple #[.agg #[.int .i64 P, .int .i64 Q], .int .i64 C]) ∧ Below w.heap.size w w' := by subst h1; subst h2; subst h3; exact implPr_any x0 x1 x2 x3 x4 x5 x6 ld r w
theorem specPr_is (x0 x1 x2 x3 x4 x5 x6 : Int) (ld r : Int) {P Q : Int} {C : Int} (w : World) (h1 : zif (prE (codB (okB x0 x1 x2 x3 x4 x5 x6) ld r 100) x0 (totB x1 x2 x3 x5 ld) (absI (momB x3 x4 x5 x6 ld r))) (ofA (prN x0 (totB x1 x2 x3 x5 ld) (absI (momB x3 x4 x5 x6 ld r))) (prD x0 (totB x1 x2 x3 x5 ld) (absI (momB x3 x4 x5 x6 ld r)))) = P) (h2 : zif (prE (codB (okB x0 x1 x2 x3 x4 x5 x6) ld r 100) x0 (totB x1 x2 x3 x5 ld) (absI (momB x3 x4 x5 x6 ld r))) (ofB (prN x0 (totB x1 x2 x3 x5 ld) (absI (momB x3 x4 x5 x6 ld r))) (prD x0 (totB x1 x2 x3 x5 ld) (absI (momB x3 x4 x5 x6 ld r)))) = Q) (h3 : prE (codB (okB x0 x1 x2 x3 x4 x5 x6) ld r 100) x0 (totB x1 x2 x3 x5 ld) (absI (momB x3 x4 x5 x6 ld r)) = C) : Calls Tryd.prog 15 #[.agg #[.int .i64 x0, .int .i64 x1, .int .i64 x2, .int .i64 x3, .int .i64 x4, .int .i64 x5, .int .i64 x6], .int .i64 ld, .int .i64 r] w fun e w' => e = .returned (.tuple #[.agg #[.int .i64 P, .int .i64 Q], .int .i64 C]) ∧ Below w.heap.size w w' := by subst h1; subst h2; subst h3; exact specPr_any x0 x1 x2 x3 x4 x5 x6 ld r w
theorem implOf_is (x0 x1 x2 x3 x4 x5 x6 : Int) (ld r : Int) {P Q : Int} {C : Int} (w : World) (h1 : zif (codB (okB x0 x1 x2 x3 x4 x5 x6) ld r 100) (ofA (momB x3 x4 x5 x6 ld r) (totB x1 x2 x3 x5 ld)) = P) (h2 : zif (codB (okB x0 x1 x2 x3 x4 x5 x6) ld r 100) (ofB (momB x3 x4 x5 x6 ld r) (totB x1 x2 x3 x5 ld)) = Q) (h3 : codB (okB x0 x1 x2 x3 x4 x5 x6) ld r 100 = C) : Calls Tryd.prog 16 #[.agg #[.int .i64 x0, .int .i64 x1, .int .i64 x2, .int .i64 x3, .int .i64 x4, .int .i64 x5, .int .i64 x6], .int .i64 ld, .int .i64 r] w fun e w' => e = .returned (.tuple #[.agg #[.int .i64 P, .int .i64 Q], .int .i64 C]) ∧ Below w.heap.size w w' := by subst h1; subst h2; subst h3; exact implOf_any x0 x1 x2 x3 x4 x5 x6 ld r w
theorem specOf_is (x0 x1 x2 x3 x4 x5 x6 : Int) (ld r : Int) {P Q : Int} {C : Int} (w : World) (h1 : zif (codB (okB x0 x1 x2 x3 x4 x5 x6) ld r 100) (ofA (momB x3 x4 x5 x6 ld r) (totB x1 x2 x3 x5 ld)) = P) (h2 : zif (codB (okB x0 x1 x2 x3 x4 x5 x6) ld r 100) (ofB (momB x3 x4 x5 x6 ld r) (totB x1 x2 x3 x5 ld)) = Q) (h3 : codB (okB x0 x1 x2 x3 x4 x5 x6) ld r 100 = C) : Calls Tryd.prog 17 #[.agg #[.int .i64 x0, .int .i64 x1, .int .i64 x2, .int .i64 x3, .int .i64 x4, .int .i64 x5, .int .i64 x6], .int .i64 ld, .int .i64 r] w fun e w' => e = .returned (.tuple #[.agg #[.int .i64 P, .int .i64 Q], .int .i64 C]) ∧ Below w.heap.size w w' := by subst h1; subst h2; subst h3; exact specOf_any x0 x1 x2 x3 x4 x5 x6 ld r w
theorem implMo_is (x0 x1 x2 x3 x4 x5 x6 : Int) (ld r : Int) {P : Int} {C : Int} (w : World) (h1 : zif (codB (okB x0 x1 x2 x3 x4 x5 x6) ld r 100) (momB x3 x4 x5 x6 ld r) = P) (h3 : codB (okB x0 x1 x2 x3 x4 x5 x6) ld r 100 = C) : Calls Tryd.prog 18 #[.agg #[.int .i64 x0, .int .i64 x1, .int .i64 x2, .int .i64 x3, .int .i64 x4, .int .i64 x5, .int .i64 x6], .int .i64 ld, .int .i64 r] w fun e w' => e = .returned (.tuple #[.int .i64 P, .int .i64 C]) ∧ Below w.heap.size w w' := by subst h1; subst h3; exact implMo_any x0 x1 x2 x3 x4 x5 x6 ld r w
theorem specMo_is (x0 x1 x2 x3 x4 x5 x6 : Int) (ld r : Int) {P : Int} {C : Int} (w : World) (h1 : zif (codB (okB x0 x1 x2 x3 x4 x5 x6) ld r 100) (momB x3 x4 x5 x6 ld r) = P) (h3 : codB (okB x0 x1 x2 x3 x4 x5 x6) ld r 100 = C) : Calls Tryd.prog 19 #[.agg #[.int .i64 x0, .int .i64 x1, .int .i64 x2, .int .i64 x3, .int .i64 x4, .int .i64 x5, .int .i64 x6], .int .i64 ld, .int .i64 r] w fun e w' => e = .returned (.tuple #[.int .i64 P, .int .i64 C]) ∧ Below w.heap.size w w' := by subst h1; subst h3; exact specMo_any x0 x1 x2 x3 x4 x5 x6 ld r w
theorem implTm_is (x0 x1 x2 x3 x4 x5 x6 : Int) (ld : Int) {P : Int} {C : Int} (w : World) (h1 : zif (codB (okB x0 x1 x2 x3 x4 x5 x6) ld 0 100) (totB x1 x2 x3 x5 ld) = P) (h3 : codB (okB x0 x1 x2 x3 x4 x5 x6) ld 0 100 = C) : Calls Tryd.prog 20 #[.agg #[.int .i64 x0, .int .i64 x1, .int .i64 x2, .int .i64 x3, .int .i64 x4, .int .i64 x5, .int .i64 x6], .int .i64 ld] w fun e w' => e = .returned (.tuple #[.int .i64 P, .int .i64 C]) ∧ Below w.heap.size w w' := by subst h1; subst h3; exact implTm_any x0 x1 x2 x3 x4 x5 x6 ld w
theorem specTm_is (x0 x1 x2 x3 x4 x5 x6 : Int) (ld : Int) {P : Int} {C : Int} (w : World) (h1 : zif (codB (okB x0 x1 x2 x3 x4 x5 x6) ld 0 100) (totB x1 x2 x3 x5 ld) = P) (h3 : codB (okB x0 x1 x2 x3 x4 x5 x6) ld 0 100 = C) : Calls Tryd.prog 21 #[.agg #[.int .i64 x0, .int .i64 x1, .int .i64 x2, .int .i64 x3, .int .i64 x4, .int .i64 x5, .int .i64 x6], .int .i64 ld] w fun e w' => e = .returned (.tuple #[.int .i64 P, .int .i64 C]) ∧ Below w.heap.size w w' := by subst h1; subst h3; exact specTm_any x0 x1 x2 x3 x4 x5 x6 ld w
end Go.Proofs.YtmalbgbmapfiiaaDoor
