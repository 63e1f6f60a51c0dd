/- PressureOf, both sides. -/
import Derived.Test.YtmalbgbmapfiiaaDoorStD
namespace Go.Proofs.YtmalbgbmapfiiaaDoor
open Go.RowKit Go.Deep
def prE (k x0 tt am : Int) : Int := if k = 0 then (if tt * x0 ≤ 2 * am then 10 else 0) else k
theorem prE_n {k x0 tt am K : Int} (h : k = K) (hk : ¬ K = 0) : prE k x0 tt am = K := by subst h; exact if_neg hk
theorem prE_10 {k x0 tt am : Int} (h : k = 0) (hm : tt * x0 ≤ 2 * am) : prE k x0 tt am = 10 := by subst h; exact (if_pos rfl).trans (if_pos hm)
theorem prE_y {k x0 tt am : Int} (h : k = 0) (hm : ¬ tt * x0 ≤ 2 * am) : prE k x0 tt am = 0 := by subst h; exact (if_pos rfl).trans (if_neg hm)
theorem pr_small {x0 tt am : Int} (h : 6 * am ≤ tt * x0) : prN x0 tt am = tt * x0 + 6 * am ∧ prD x0 tt am = x0 * x0 * x0 := ⟨if_pos h, if_pos h⟩
theorem pr_great {x0 tt am : Int} (h : ¬ 6 * am ≤ tt * x0) : prN x0 tt am = 4 * tt * tt ∧ prD x0 tt am = 3 * x0 * (tt * x0 - 2 * am) := ⟨if_neg h, (if_neg h).trans (by rw [Int.mul_comm x0 tt])⟩
/-- the fraction that is reduced beforehand is the same -/
theorem pr_low {x0 tt am g t m : Int} (hg : 1 ≤ g) (ht : tt = g * t) (hm : am = g * m) : ofA (4 * tt * t) (3 * x0 * (t * x0 - 2 * m)) = ofA (4 * tt * tt) (3 * x0 * (tt * x0 - 2 * am)) ∧ ofB (4 * tt * t) (3 * x0 * (t * x0 - 2 * m)) = ofB (4 * tt * tt) (3 * x0 * (tt * x0 - 2 * am)) := by
  have e1 : 4 * tt * tt = g * (4 * tt * t) := by
    have : 4 * tt * tt = 4 * tt * (g * t) := by rw [← ht]
    rw [this, Int.mul_left_comm]
  have e2 : 3 * x0 * (tt * x0 - 2 * am) = g * (3 * x0 * (t * x0 - 2 * m)) := by
    have e3 : tt * x0 - 2 * am = g * (t * x0 - 2 * m) := by rw [ht, hm, Int.mul_sub, Int.mul_assoc, Int.mul_left_comm 2 g m]
    rw [e3, Int.mul_left_comm]
  have ha : absI (g * (4 * tt * t)) = g * absI (4 * tt * t) := by
    unfold absI
    by_cases h : 4 * tt * t < 0
    · rw [if_pos h, if_pos (Int.mul_neg_of_pos_of_neg (by omega) h), Int.mul_neg]
    · have := Int.mul_nonneg (show 0 ≤ g by omega) (show 0 ≤ 4 * tt * t by omega)
      rw [if_neg h, if_neg (by omega)]
  unfold ofA ofB
  rw [e1, e2, ha]
  have hl := low_mul (g := g) (a := absI (4 * tt * t)) (b := 3 * x0 * (t * x0 - 2 * m)) hg
  refine ⟨?_, hl.2.symm⟩
  have hgc : gcdI (g * absI (4 * tt * t)) (g * (3 * x0 * (t * x0 - 2 * m))) = g * gcdI (absI (4 * tt * t)) (3 * x0 * (t * x0 - 2 * m)) := by
    unfold gcdI
    rw [Int.gcd_mul_left, Int.natCast_mul, show ((g.natAbs : Nat) : Int) = g by omega]
  rw [hgc, Int.mul_tdiv_mul_of_pos _ _ (by omega)]
theorem pr_bd {x0 tt : Int} (h0 : 10 ≤ x0 ∧ x0 ≤ 200) (h1 : 1 ≤ tt ∧ tt ≤ 2050000) : (10 ≤ tt * x0 ∧ tt * x0 ≤ 410000000) ∧ (100 ≤ x0 * x0 ∧ x0 * x0 ≤ 40000) ∧ (1000 ≤ x0 * x0 * x0 ∧ x0 * x0 * x0 ≤ 8000000) ∧ (4 ≤ 4 * tt * tt ∧ 4 * tt * tt ≤ 16810000000000) := by
  have a := mul_bd (a := tt) (b := x0) (A := 2050000) (B := 200) (by omega) h1.2 (by omega) h0.2
  have a2 := Int.mul_le_mul (show (1 : Int) ≤ tt by omega) h0.1 (by omega) (by omega)
  have b := mul_bd (a := x0) (b := x0) (A := 200) (B := 200) (by omega) h0.2 (by omega) h0.2
  have b2 := Int.mul_le_mul h0.1 h0.1 (by omega) (show 0 ≤ x0 by omega)
  have c := mul_bd (a := x0 * x0) (b := x0) (A := 40000) (B := 200) (by omega) (by omega) (by omega) h0.2
  have c2 := Int.mul_le_mul (show 100 ≤ x0 * x0 by omega) h0.1 (by omega) (by omega)
  have d := mul_bd (a := 4 * tt) (b := tt) (A := 8200000) (B := 2050000) (by omega) (by omega) (by omega) h1.2
  have d2 := Int.mul_le_mul (show (4 : Int) ≤ 4 * tt by omega) h1.1 (by omega) (by omega)
  exact ⟨by omega, by omega, by omega, by omega⟩
set_option maxHeartbeats 16000000 in
set_option maxRecDepth 20000 in
theorem implPr_any (x0 x1 x2 x3 x4 x5 x6 : Int) (ld r : Int) (w : World) : Calls Tryd.prog 14 #[.agg #[.int .i64 x0, .int .i64 x1, .int .i64 x2, .int .i64 x3, .int .i64 x4, .int .i64 x5, .int .i64 x6], .int .i64 ld, .int .i64 r] w fun e w' => e = .returned (.tuple #[.agg #[.int .i64 (zif (prE (codB (okB x0 x1 x2 x3 x4 x5 x6) ld r 100) x0 (totB x1 x2 x3 x5 ld) (absI (momB x3 x4 x5 x6 ld r))) (ofA (prN x0 (totB x1 x2 x3 x5 ld) (absI (momB x3 x4 x5 x6 ld r))) (prD x0 (totB x1 x2 x3 x5 ld) (absI (momB x3 x4 x5 x6 ld r))))), .int .i64 (zif (prE (codB (okB x0 x1 x2 x3 x4 x5 x6) ld r 100) x0 (totB x1 x2 x3 x5 ld) (absI (momB x3 x4 x5 x6 ld r))) (ofB (prN x0 (totB x1 x2 x3 x5 ld) (absI (momB x3 x4 x5 x6 ld r))) (prD x0 (totB x1 x2 x3 x5 ld) (absI (momB x3 x4 x5 x6 ld r)))))], .int .i64 (prE (codB (okB x0 x1 x2 x3 x4 x5 x6) ld r 100) x0 (totB x1 x2 x3 x5 ld) (absI (momB x3 x4 x5 x6 ld r)))]) ∧ Below w.heap.size w w' := by
  have B0 := Lib.hid (show BI (w.alloc (.cells #[.int .i64 x0, .int .i64 x1, .int .i64 x2, .int .i64 x3, .int .i64 x4, .int .i64 x5, .int .i64 x6] 25)) w.heap.size 25 [x0, x1, x2, x3, x4, x5, x6] from heap_alloc_new w _)
  replace B0 := Lib.hid (B0.out.alloc (.cells #[.int .i64 0, .int .i64 0] 33))
  have B1 := Lib.hid (show BI ((w.alloc (.cells #[.int .i64 x0, .int .i64 x1, .int .i64 x2, .int .i64 x3, .int .i64 x4, .int .i64 x5, .int .i64 x6] 25)).alloc (.cells #[.int .i64 0, .int .i64 0] 33)) (w.heap.size + 1) 33 [0, 0] by have h9 := heap_alloc_new (w.alloc (.cells #[.int .i64 x0, .int .i64 x1, .int .i64 x2, .int .i64 x3, .int .i64 x4, .int .i64 x5, .int .i64 x6] 25)) (.cells #[.int .i64 0, .int .i64 0] 33); rw [World.size_alloc] at h9; exact h9)
  have HB := Lib.hid (show Below w.heap.size w ((w.alloc (.cells #[.int .i64 x0, .int .i64 x1, .int .i64 x2, .int .i64 x3, .int .i64 x4, .int .i64 x5, .int .i64 x6] 25)).alloc (.cells #[.int .i64 0, .int .i64 0] 33)) by repeat' first | exact gr_refl _ | with_reducible assumption | with_reducible apply gr_alloc | with_reducible apply gr_set | with_reducible apply gr_drew | with_reducible apply gr_drewN | exact Nat.le_add_right _ _ | exact Nat.le_refl _ | (refine gr_then (by with_reducible assumption) ?_))
  have cB0_0 := B0.out.cell 0 (by simp)
  have cB0_1 := B0.out.cell 1 (by simp)
  have cB0_2 := B0.out.cell 2 (by simp)
  have cB0_3 := B0.out.cell 3 (by simp)
  have cB0_4 := B0.out.cell 4 (by simp)
  have cB0_5 := B0.out.cell 5 (by simp)
  have cB0_6 := B0.out.cell 6 (by simp)
  simp only [List.getD_cons_zero, List.getD_cons_succ] at cB0_0 cB0_1 cB0_2 cB0_3 cB0_4 cB0_5 cB0_6
  go_enter Tryd.func14, Tryd.ntmps14
  go_wp2_with fail
  generalize (w.alloc (.cells #[.int .i64 x0, .int .i64 x1, .int .i64 x2, .int .i64 x3, .int .i64 x4, .int .i64 x5, .int .i64 x6] 25)).alloc (.cells #[.int .i64 0, .int .i64 0] 33) = v0 at *
  go_at_call 28
  (with_reducible refine (baseCode_any x0 x1 x2 x3 x4 x5 x6 ld r 100 _).mono ?_)
  rintro e w1 ⟨rfl, hb⟩
  clear cB0_0 cB0_1 cB0_2 cB0_3 cB0_4 cB0_5 cB0_6
  replace B0 := Lib.hid (B0.out.late hb)
  replace B1 := Lib.hid (B1.out.late hb)
  replace HB := Lib.hid (gr_then hb HB.out)
  clear hb
  have HK := codB_bd (okB x0 x1 x2 x3 x4 x5 x6) ld r 100
  obtain ⟨K, hK⟩ : ∃ K, codB (okB x0 x1 x2 x3 x4 x5 x6) ld r 100 = K := ⟨_, rfl⟩
  rw [hK]
  rw [hK] at HK
  have hK2 := Lib.hid hK
  clear hK
  have cB1_0 := B1.out.cell 0 (by simp)
  have cB1_1 := B1.out.cell 1 (by simp)
  simp only [List.getD_cons_zero, List.getD_cons_succ] at cB1_0 cB1_1
  have fB1_0 := B1.out.free 0
  have fB1_1 := B1.out.free 1
  have ltB1 := B1.out.lt
  by_cases hk0 : K = 0
  case neg =>
    have hd : (K != 0) = true := bne_iff_ne.2 hk0
    go_wp2
    refine ret_box (g := w.heap.size + 1) (zs := [0, 0]) (v := .tuple #[.agg #[.int .i64 (0), .int .i64 (0)], .int .i64 (K)]) (by first | with_reducible exact BI.put_2 B1.out _ _ | with_reducible exact (BI.put_2 B1.out _ _).alloc _) rfl ?_ ?_
    · intro W hW
      have e0 := hW.cell 0 (by simp)
      have e1 := hW.cell 1 (by simp)
      simp only [List.getD_cons_zero, List.getD_cons_succ] at e0 e1
      simp [results, Tryd.results14, go_sem, e0, e1]
    · exact ⟨retF_n (prE_n hK2.out hk0) hk0, by repeat' (first | with_reducible exact HB.out | (with_reducible refine gr_set (by dsimp only; omega) ?_) | (with_reducible refine gr_alloc ?_) | (with_reducible refine gr_drewN ?_) | (with_reducible refine gr_drew ?_))⟩
  subst hk0
  obtain ⟨hok, hl, hr, hp⟩ := codB_t hK2.out
  have HOK := Lib.hid hok
  have t1 := tot_bd hok hl
  have t2 := (mom_bd hok hl hr).2.2.2
  have k0 := (okB_t hok).1
  have HT : Hid (∀ w' : World, Calls Tryd.prog 32 #[.agg #[.int .i64 x0, .int .i64 x1, .int .i64 x2, .int .i64 x3, .int .i64 x4, .int .i64 x5, .int .i64 x6], .int .i64 ld] w' fun e w'' => e = .returned (.int .i64 (totB x1 x2 x3 x5 ld)) ∧ Below w'.heap.size w' w'') := fun w' => total_any x0 x1 x2 x3 x4 x5 x6 ld w' HOK.out hl
  have HM : Hid (∀ w' : World, Calls Tryd.prog 31 #[.agg #[.int .i64 x0, .int .i64 x1, .int .i64 x2, .int .i64 x3, .int .i64 x4, .int .i64 x5, .int .i64 x6], .int .i64 ld, .int .i64 r] w' fun e w'' => e = .returned (.int .i64 (momB x3 x4 x5 x6 ld r)) ∧ Below w'.heap.size w' w'') := fun w' => moment_any x0 x1 x2 x3 x4 x5 x6 ld r w' HOK.out hl hr
  clear hok
  generalize htt : totB x1 x2 x3 x5 ld = tt at *
  generalize hmo : momB x3 x4 x5 x6 ld r = mo at *
  have HTT := Lib.hid htt
  have HMO := Lib.hid hmo
  clear htt hmo
  have cB0_0 := B0.out.cell 0 (by simp)
  have cB0_1 := B0.out.cell 1 (by simp)
  have cB0_2 := B0.out.cell 2 (by simp)
  have cB0_3 := B0.out.cell 3 (by simp)
  have cB0_4 := B0.out.cell 4 (by simp)
  have cB0_5 := B0.out.cell 5 (by simp)
  have cB0_6 := B0.out.cell 6 (by simp)
  simp only [List.getD_cons_zero, List.getD_cons_succ] at cB0_0 cB0_1 cB0_2 cB0_3 cB0_4 cB0_5 cB0_6
  have ha := abs_bd (x := mo) (A := 550000000) (by omega)
  go_wp2
  have gw0 : ∀ X, (grw (w1) X).cell? ⟨w.heap.size, 0, none⟩ = some (.int .i64 x0) := grw_cell (by assumption)
  have gw1 : ∀ X, (grw (w1) X).cell? ⟨w.heap.size, 1, none⟩ = some (.int .i64 x1) := grw_cell (by assumption)
  have gw2 : ∀ X, (grw (w1) X).cell? ⟨w.heap.size, 2, none⟩ = some (.int .i64 x2) := grw_cell (by assumption)
  have gw3 : ∀ X, (grw (w1) X).cell? ⟨w.heap.size, 3, none⟩ = some (.int .i64 x3) := grw_cell (by assumption)
  have gw4 : ∀ X, (grw (w1) X).cell? ⟨w.heap.size, 4, none⟩ = some (.int .i64 x4) := grw_cell (by assumption)
  have gw5 : ∀ X, (grw (w1) X).cell? ⟨w.heap.size, 5, none⟩ = some (.int .i64 x5) := grw_cell (by assumption)
  have gw6 : ∀ X, (grw (w1) X).cell? ⟨w.heap.size, 6, none⟩ = some (.int .i64 x6) := grw_cell (by assumption)
  refine wp_region_grow (by kernel_rfl) (by kernel_rfl) ?_
  repeat (go_big_quiet_step (first | (go_at_call 32; exact grow_of (HT.out _)) | (go_at_call 31; exact grow_of (HM.out _)) | (go_at_call 30; exact grow_same (abs_any _ _ (by omega)))))
  refine wpQuiet_nil ?_
  rintro wq ⟨X, hX⟩
  have hQ_wq : Below (w1).heap.size (w1) wq := by rw [hX]; exact grw_below _ _
  clear hX gw0 gw1 gw2 gw3 gw4 gw5 gw6
  clear cB0_0 cB0_1 cB0_2 cB0_3 cB0_4 cB0_5 cB0_6 cB1_0 cB1_1 fB1_0 fB1_1 ltB1
  replace B0 := Lib.hid (B0.out.late hQ_wq)
  replace B1 := Lib.hid (B1.out.late hQ_wq)
  replace HB := Lib.hid (gr_then hQ_wq HB.out)
  clear hQ_wq
  have cB0_0 := B0.out.cell 0 (by simp)
  have cB0_1 := B0.out.cell 1 (by simp)
  have cB0_2 := B0.out.cell 2 (by simp)
  have cB0_3 := B0.out.cell 3 (by simp)
  have cB0_4 := B0.out.cell 4 (by simp)
  have cB0_5 := B0.out.cell 5 (by simp)
  have cB0_6 := B0.out.cell 6 (by simp)
  simp only [List.getD_cons_zero, List.getD_cons_succ] at cB0_0 cB0_1 cB0_2 cB0_3 cB0_4 cB0_5 cB0_6
  have cB1_0 := B1.out.cell 0 (by simp)
  have cB1_1 := B1.out.cell 1 (by simp)
  simp only [List.getD_cons_zero, List.getD_cons_succ] at cB1_0 cB1_1
  have fB1_0 := B1.out.free 0
  have fB1_1 := B1.out.free 1
  have ltB1 := B1.out.lt
  generalize hab : absI mo = am at *
  have HAB := Lib.hid hab
  clear hab
  obtain ⟨p1, p2, p3, p4⟩ := pr_bd k0 t1
  have hcm : x0 * tt = tt * x0 := Int.mul_comm _ _
  by_cases h6 : 6 * am ≤ tt * x0
  case pos =>
    have hse := Lib.hid (prE_y (x0 := x0) (tt := tt) (am := am) hK2.out (by omega))
    have hsm := Lib.hid (pr_small h6)
    have hd6 : decide (6 * am ≤ tt * x0) = true := decide_eq_true h6
    go_wp2_with fail
    go_at_call 36
    (with_reducible refine (reduced_any _ _ _ (by omega) (by omega)).mono ?_)
    rintro e w9 ⟨rfl, hb⟩
    clear cB0_0 cB0_1 cB0_2 cB0_3 cB0_4 cB0_5 cB0_6 cB1_0 cB1_1 fB1_0 fB1_1 ltB1
    replace B0 := Lib.hid (B0.out.late hb)
    replace B1 := Lib.hid (B1.out.late hb)
    replace HB := Lib.hid (gr_then hb HB.out)
    clear hb
    have cB1_0 := B1.out.cell 0 (by simp)
    have cB1_1 := B1.out.cell 1 (by simp)
    simp only [List.getD_cons_zero, List.getD_cons_succ] at cB1_0 cB1_1
    have fB1_0 := B1.out.free 0
    have fB1_1 := B1.out.free 1
    have ltB1 := B1.out.lt
    go_wp2
    refine ret_box (g := w.heap.size + 1) (zs := [(tt * x0 + 6 * am).tdiv (gcdI (absI (tt * x0 + 6 * am)) (x0 * x0 * x0)), x0 * x0 * x0 / gcdI (absI (tt * x0 + 6 * am)) (x0 * x0 * x0)]) (v := .tuple #[.agg #[.int .i64 ((tt * x0 + 6 * am).tdiv (gcdI (absI (tt * x0 + 6 * am)) (x0 * x0 * x0))), .int .i64 (x0 * x0 * x0 / gcdI (absI (tt * x0 + 6 * am)) (x0 * x0 * x0))], .int .i64 (0)]) (by first | with_reducible exact BI.put_2 B1.out _ _ | with_reducible exact (BI.put_2 B1.out _ _).alloc _) rfl ?_ ?_
    · intro W hW
      have e0 := hW.cell 0 (by simp)
      have e1 := hW.cell 1 (by simp)
      simp only [List.getD_cons_zero, List.getD_cons_succ] at e0 e1
      simp [results, Tryd.results14, go_sem, e0, e1]
    · exact ⟨retF_y (by rw [HTT.out, HMO.out, HAB.out]; exact hse.out) (by unfold ofA; rw [HTT.out, HMO.out, HAB.out, hsm.out.1, hsm.out.2]) (by unfold ofB; rw [HTT.out, HMO.out, HAB.out, hsm.out.1, hsm.out.2]), by repeat' (first | with_reducible exact HB.out | (with_reducible refine gr_set (by dsimp only; omega) ?_) | (with_reducible refine gr_alloc ?_) | (with_reducible refine gr_drewN ?_) | (with_reducible refine gr_drew ?_))⟩
  have hd6 : decide (6 * am ≤ tt * x0) = false := decide_eq_false h6
  by_cases h2 : tt * x0 ≤ 2 * am
  case pos =>
    have hse := Lib.hid (prE_10 (x0 := x0) (tt := tt) (am := am) hK2.out h2)
    have hd2 : decide (tt * x0 ≤ 2 * am) = true := decide_eq_true h2
    go_wp2
    refine ret_box (g := w.heap.size + 1) (zs := [0, 0]) (v := .tuple #[.agg #[.int .i64 (0), .int .i64 (0)], .int .i64 (10)]) (by first | with_reducible exact BI.put_2 B1.out _ _ | with_reducible exact (BI.put_2 B1.out _ _).alloc _) rfl ?_ ?_
    · intro W hW
      have e0 := hW.cell 0 (by simp)
      have e1 := hW.cell 1 (by simp)
      simp only [List.getD_cons_zero, List.getD_cons_succ] at e0 e1
      simp [results, Tryd.results14, go_sem, e0, e1]
    · exact ⟨retF_n (by rw [HTT.out, HMO.out, HAB.out]; exact hse.out) (by decide), by repeat' (first | with_reducible exact HB.out | (with_reducible refine gr_set (by dsimp only; omega) ?_) | (with_reducible refine gr_alloc ?_) | (with_reducible refine gr_drewN ?_) | (with_reducible refine gr_drew ?_))⟩
  have hse := Lib.hid (prE_y (x0 := x0) (tt := tt) (am := am) hK2.out h2)
  have hsm := Lib.hid (pr_great h6)
  have hd2 : decide (tt * x0 ≤ 2 * am) = false := decide_eq_false h2
  have q1 := mul_bd (a := 3 * x0) (b := tt * x0 - 2 * am) (A := 600) (B := 410000000) (by omega) (by omega) (by omega) (by omega)
  have q2 := Int.mul_le_mul (show (1 : Int) ≤ 3 * x0 by omega) (show 1 ≤ tt * x0 - 2 * am by omega) (by omega) (by omega)
  go_wp2_with fail
  go_at_call 36
  (with_reducible refine (reduced_any _ _ _ (by omega) (by omega)).mono ?_)
  rintro e w9 ⟨rfl, hb⟩
  clear cB0_0 cB0_1 cB0_2 cB0_3 cB0_4 cB0_5 cB0_6 cB1_0 cB1_1 fB1_0 fB1_1 ltB1
  replace B0 := Lib.hid (B0.out.late hb)
  replace B1 := Lib.hid (B1.out.late hb)
  replace HB := Lib.hid (gr_then hb HB.out)
  clear hb
  have cB1_0 := B1.out.cell 0 (by simp)
  have cB1_1 := B1.out.cell 1 (by simp)
  simp only [List.getD_cons_zero, List.getD_cons_succ] at cB1_0 cB1_1
  have fB1_0 := B1.out.free 0
  have fB1_1 := B1.out.free 1
  have ltB1 := B1.out.lt
  go_wp2
  refine ret_box (g := w.heap.size + 1) (zs := [(4 * tt * tt).tdiv (gcdI (absI (4 * tt * tt)) (3 * x0 * (tt * x0 - 2 * am))), 3 * x0 * (tt * x0 - 2 * am) / gcdI (absI (4 * tt * tt)) (3 * x0 * (tt * x0 - 2 * am))]) (v := .tuple #[.agg #[.int .i64 ((4 * tt * tt).tdiv (gcdI (absI (4 * tt * tt)) (3 * x0 * (tt * x0 - 2 * am)))), .int .i64 (3 * x0 * (tt * x0 - 2 * am) / gcdI (absI (4 * tt * tt)) (3 * x0 * (tt * x0 - 2 * am)))], .int .i64 (0)]) (by first | with_reducible exact BI.put_2 B1.out _ _ | with_reducible exact (BI.put_2 B1.out _ _).alloc _) rfl ?_ ?_
  · intro W hW
    have e0 := hW.cell 0 (by simp)
    have e1 := hW.cell 1 (by simp)
    simp only [List.getD_cons_zero, List.getD_cons_succ] at e0 e1
    simp [results, Tryd.results14, go_sem, e0, e1]
  · exact ⟨retF_y (by rw [HTT.out, HMO.out, HAB.out]; exact hse.out) (by unfold ofA; rw [HTT.out, HMO.out, HAB.out, hsm.out.1, hsm.out.2]) (by unfold ofB; rw [HTT.out, HMO.out, HAB.out, hsm.out.1, hsm.out.2]), by repeat' (first | with_reducible exact HB.out | (with_reducible refine gr_set (by dsimp only; omega) ?_) | (with_reducible refine gr_alloc ?_) | (with_reducible refine gr_drewN ?_) | (with_reducible refine gr_drew ?_))⟩
set_option maxHeartbeats 16000000 in
set_option maxRecDepth 20000 in
theorem specPr_any (x0 x1 x2 x3 x4 x5 x6 : Int) (ld r : Int) (w : World) : Calls Tryd.prog 15 #[.agg #[.int .i64 x0, .int .i64 x1, .int .i64 x2, .int .i64 x3, .int .i64 x4, .int .i64 x5, .int .i64 x6], .int .i64 ld, .int .i64 r] w fun e w' => e = .returned (.tuple #[.agg #[.int .i64 (zif (prE (codB (okB x0 x1 x2 x3 x4 x5 x6) ld r 100) x0 (totB x1 x2 x3 x5 ld) (absI (momB x3 x4 x5 x6 ld r))) (ofA (prN x0 (totB x1 x2 x3 x5 ld) (absI (momB x3 x4 x5 x6 ld r))) (prD x0 (totB x1 x2 x3 x5 ld) (absI (momB x3 x4 x5 x6 ld r))))), .int .i64 (zif (prE (codB (okB x0 x1 x2 x3 x4 x5 x6) ld r 100) x0 (totB x1 x2 x3 x5 ld) (absI (momB x3 x4 x5 x6 ld r))) (ofB (prN x0 (totB x1 x2 x3 x5 ld) (absI (momB x3 x4 x5 x6 ld r))) (prD x0 (totB x1 x2 x3 x5 ld) (absI (momB x3 x4 x5 x6 ld r)))))], .int .i64 (prE (codB (okB x0 x1 x2 x3 x4 x5 x6) ld r 100) x0 (totB x1 x2 x3 x5 ld) (absI (momB x3 x4 x5 x6 ld r)))]) ∧ Below w.heap.size w w' := by
  have B0 := Lib.hid (show BI (w.alloc (.cells #[.int .i64 x0, .int .i64 x1, .int .i64 x2, .int .i64 x3, .int .i64 x4, .int .i64 x5, .int .i64 x6] 25)) w.heap.size 25 [x0, x1, x2, x3, x4, x5, x6] from heap_alloc_new w _)
  replace B0 := Lib.hid (B0.out.alloc (.cells #[.int .i64 0, .int .i64 0] 33))
  have B1 := Lib.hid (show BI ((w.alloc (.cells #[.int .i64 x0, .int .i64 x1, .int .i64 x2, .int .i64 x3, .int .i64 x4, .int .i64 x5, .int .i64 x6] 25)).alloc (.cells #[.int .i64 0, .int .i64 0] 33)) (w.heap.size + 1) 33 [0, 0] by have h9 := heap_alloc_new (w.alloc (.cells #[.int .i64 x0, .int .i64 x1, .int .i64 x2, .int .i64 x3, .int .i64 x4, .int .i64 x5, .int .i64 x6] 25)) (.cells #[.int .i64 0, .int .i64 0] 33); rw [World.size_alloc] at h9; exact h9)
  have HB := Lib.hid (show Below w.heap.size w ((w.alloc (.cells #[.int .i64 x0, .int .i64 x1, .int .i64 x2, .int .i64 x3, .int .i64 x4, .int .i64 x5, .int .i64 x6] 25)).alloc (.cells #[.int .i64 0, .int .i64 0] 33)) by repeat' first | exact gr_refl _ | with_reducible assumption | with_reducible apply gr_alloc | with_reducible apply gr_set | with_reducible apply gr_drew | with_reducible apply gr_drewN | exact Nat.le_add_right _ _ | exact Nat.le_refl _ | (refine gr_then (by with_reducible assumption) ?_))
  have cB0_0 := B0.out.cell 0 (by simp)
  have cB0_1 := B0.out.cell 1 (by simp)
  have cB0_2 := B0.out.cell 2 (by simp)
  have cB0_3 := B0.out.cell 3 (by simp)
  have cB0_4 := B0.out.cell 4 (by simp)
  have cB0_5 := B0.out.cell 5 (by simp)
  have cB0_6 := B0.out.cell 6 (by simp)
  simp only [List.getD_cons_zero, List.getD_cons_succ] at cB0_0 cB0_1 cB0_2 cB0_3 cB0_4 cB0_5 cB0_6
  go_enter Tryd.func15, Tryd.ntmps15
  go_wp2_with fail
  generalize (w.alloc (.cells #[.int .i64 x0, .int .i64 x1, .int .i64 x2, .int .i64 x3, .int .i64 x4, .int .i64 x5, .int .i64 x6] 25)).alloc (.cells #[.int .i64 0, .int .i64 0] 33) = v0 at *
  go_at_call 37
  have HC := Lib.hid (show C7 _ w.heap.size x0 x1 x2 x3 x4 x5 x6 from ⟨cB0_0, cB0_1, cB0_2, cB0_3, cB0_4, cB0_5, cB0_6⟩)
  (with_reducible refine (code06_any _ x0 x1 x2 x3 x4 x5 x6 ld r _ HC.out).mono ?_)
  rintro e w1 ⟨rfl, rfl⟩
  have HK := codB_bd (okB x0 x1 x2 x3 x4 x5 x6) ld r 100
  obtain ⟨K, hK⟩ : ∃ K, codB (okB x0 x1 x2 x3 x4 x5 x6) ld r 100 = K := ⟨_, rfl⟩
  rw [hK]
  rw [hK] at HK
  have hK2 := Lib.hid hK
  clear hK
  have cB1_0 := B1.out.cell 0 (by simp)
  have cB1_1 := B1.out.cell 1 (by simp)
  simp only [List.getD_cons_zero, List.getD_cons_succ] at cB1_0 cB1_1
  have fB1_0 := B1.out.free 0
  have fB1_1 := B1.out.free 1
  have ltB1 := B1.out.lt
  by_cases hk0 : K = 0
  case neg =>
    have hd : (K != 0) = true := bne_iff_ne.2 hk0
    go_wp2
    refine ret_box (g := w.heap.size + 1) (zs := [0, 0]) (v := .tuple #[.agg #[.int .i64 (0), .int .i64 (0)], .int .i64 (K)]) (by first | with_reducible exact BI.put_2 B1.out _ _ | with_reducible exact (BI.put_2 B1.out _ _).alloc _) rfl ?_ ?_
    · intro W hW
      have e0 := hW.cell 0 (by simp)
      have e1 := hW.cell 1 (by simp)
      simp only [List.getD_cons_zero, List.getD_cons_succ] at e0 e1
      simp [results, Tryd.results15, go_sem, e0, e1]
    · exact ⟨retF_n (prE_n hK2.out hk0) hk0, by repeat' (first | with_reducible exact HB.out | (with_reducible refine gr_set (by dsimp only; omega) ?_) | (with_reducible refine gr_alloc ?_) | (with_reducible refine gr_drewN ?_) | (with_reducible refine gr_drew ?_))⟩
  subst hk0
  obtain ⟨hok, hl, hr, hp⟩ := codB_t hK2.out
  have HOK := Lib.hid hok
  have t1 := tot_bd hok hl
  have t2 := (mom_bd hok hl hr).2.2.2
  have k0 := (okB_t hok).1
  have HT : Hid (∀ w' : World, C7 w' w.heap.size x0 x1 x2 x3 x4 x5 x6 → Calls Tryd.prog 41 #[.pointer (some ⟨w.heap.size, 0, none⟩), .int .i64 ld] w' fun e w'' => e = .returned (.int .i64 (totB x1 x2 x3 x5 ld)) ∧ ∃ q, w'' = w'.drewN q) := fun w' h' => tot06_any _ x0 x1 x2 x3 x4 x5 x6 ld w' h' HOK.out hl
  have HM : Hid (∀ w' : World, C7 w' w.heap.size x0 x1 x2 x3 x4 x5 x6 → Calls Tryd.prog 39 #[.pointer (some ⟨w.heap.size, 0, none⟩), .int .i64 ld, .int .i64 r] w' fun e w'' => e = .returned (.int .i64 (momB x3 x4 x5 x6 ld r)) ∧ ∃ q, w'' = w'.drewN q) := fun w' h' => mom06_any _ x0 x1 x2 x3 x4 x5 x6 ld r w' h' HOK.out hl hr
  clear hok
  generalize htt : totB x1 x2 x3 x5 ld = tt at *
  generalize hmo : momB x3 x4 x5 x6 ld r = mo at *
  have HTT := Lib.hid htt
  have HMO := Lib.hid hmo
  clear htt hmo
  have ha := abs_bd (x := mo) (A := 550000000) (by omega)
  go_wp2_with fail
  go_at_call 41
  (with_reducible refine (HT.out _ HC.out).mono ?_)
  rintro e y ⟨rfl, q, rfl⟩
  clear cB0_0 cB0_1 cB0_2 cB0_3 cB0_4 cB0_5 cB0_6 cB1_0 cB1_1 fB1_0 fB1_1 ltB1
  replace HC := Lib.hid (HC.out.drewN (n := q))
  replace HB := Lib.hid (gr_drewN (n := q) HB.out)
  replace B0 := Lib.hid (show BI (v0.drewN q) _ _ _ from B0.out)
  replace B1 := Lib.hid (show BI (v0.drewN q) _ _ _ from B1.out)
  generalize v0.drewN q = w2 at *
  have cB0_0 := B0.out.cell 0 (by simp)
  have cB0_1 := B0.out.cell 1 (by simp)
  have cB0_2 := B0.out.cell 2 (by simp)
  have cB0_3 := B0.out.cell 3 (by simp)
  have cB0_4 := B0.out.cell 4 (by simp)
  have cB0_5 := B0.out.cell 5 (by simp)
  have cB0_6 := B0.out.cell 6 (by simp)
  simp only [List.getD_cons_zero, List.getD_cons_succ] at cB0_0 cB0_1 cB0_2 cB0_3 cB0_4 cB0_5 cB0_6
  have cB1_0 := B1.out.cell 0 (by simp)
  have cB1_1 := B1.out.cell 1 (by simp)
  simp only [List.getD_cons_zero, List.getD_cons_succ] at cB1_0 cB1_1
  have fB1_0 := B1.out.free 0
  have fB1_1 := B1.out.free 1
  have ltB1 := B1.out.lt
  go_wp2_with fail
  go_at_call 39
  (with_reducible refine (HM.out _ HC.out).mono ?_)
  rintro e y ⟨rfl, q, rfl⟩
  clear cB0_0 cB0_1 cB0_2 cB0_3 cB0_4 cB0_5 cB0_6 cB1_0 cB1_1 fB1_0 fB1_1 ltB1
  replace HC := Lib.hid (HC.out.drewN (n := q))
  replace HB := Lib.hid (gr_drewN (n := q) HB.out)
  replace B0 := Lib.hid (show BI (w2.drewN q) _ _ _ from B0.out)
  replace B1 := Lib.hid (show BI (w2.drewN q) _ _ _ from B1.out)
  generalize w2.drewN q = w3 at *
  have cB0_0 := B0.out.cell 0 (by simp)
  have cB0_1 := B0.out.cell 1 (by simp)
  have cB0_2 := B0.out.cell 2 (by simp)
  have cB0_3 := B0.out.cell 3 (by simp)
  have cB0_4 := B0.out.cell 4 (by simp)
  have cB0_5 := B0.out.cell 5 (by simp)
  have cB0_6 := B0.out.cell 6 (by simp)
  simp only [List.getD_cons_zero, List.getD_cons_succ] at cB0_0 cB0_1 cB0_2 cB0_3 cB0_4 cB0_5 cB0_6
  have cB1_0 := B1.out.cell 0 (by simp)
  have cB1_1 := B1.out.cell 1 (by simp)
  simp only [List.getD_cons_zero, List.getD_cons_succ] at cB1_0 cB1_1
  have fB1_0 := B1.out.free 0
  have fB1_1 := B1.out.free 1
  have ltB1 := B1.out.lt
  go_wp2_with fail
  go_at_call 38
  (with_reducible refine (size06_any _ _ (by omega)).mono ?_)
  rintro e w4 ⟨rfl, rfl⟩
  generalize hab : absI mo = am at *
  have HAB := Lib.hid hab
  clear hab
  obtain ⟨p1, p2, p3, p4⟩ := pr_bd k0 t1
  by_cases h2 : tt * x0 ≤ 2 * am
  case pos =>
    have hse := Lib.hid (prE_10 (x0 := x0) (tt := tt) (am := am) hK2.out h2)
    have hd2 : decide (tt * x0 ≤ 2 * am) = true := decide_eq_true h2
    go_wp2
    refine ret_box (g := w.heap.size + 1) (zs := [0, 0]) (v := .tuple #[.agg #[.int .i64 (0), .int .i64 (0)], .int .i64 (10)]) (by first | with_reducible exact BI.put_2 B1.out _ _ | with_reducible exact (BI.put_2 B1.out _ _).alloc _) rfl ?_ ?_
    · intro W hW
      have e0 := hW.cell 0 (by simp)
      have e1 := hW.cell 1 (by simp)
      simp only [List.getD_cons_zero, List.getD_cons_succ] at e0 e1
      simp [results, Tryd.results15, go_sem, e0, e1]
    · exact ⟨retF_n (by rw [HTT.out, HMO.out, HAB.out]; exact hse.out) (by decide), by repeat' (first | with_reducible exact HB.out | (with_reducible refine gr_set (by dsimp only; omega) ?_) | (with_reducible refine gr_alloc ?_) | (with_reducible refine gr_drewN ?_) | (with_reducible refine gr_drew ?_))⟩
  have hse := Lib.hid (prE_y (x0 := x0) (tt := tt) (am := am) hK2.out h2)
  have hd2 : decide (tt * x0 ≤ 2 * am) = false := decide_eq_false h2
  by_cases h6 : 6 * am ≤ tt * x0
  case pos =>
    have hsm := Lib.hid (pr_small h6)
    have hd6 : decide (6 * am ≤ tt * x0) = true := decide_eq_true h6
    go_wp2_with fail
    go_at_call 40
    (with_reducible refine (make06_any _ _ _ (by omega) (by omega)).mono ?_)
    rintro e w9 ⟨rfl, hb⟩
    clear cB0_0 cB0_1 cB0_2 cB0_3 cB0_4 cB0_5 cB0_6 cB1_0 cB1_1 fB1_0 fB1_1 ltB1
    replace B0 := Lib.hid (B0.out.late hb)
    replace B1 := Lib.hid (B1.out.late hb)
    replace HB := Lib.hid (gr_then hb HB.out)
    clear hb
    have cB1_0 := B1.out.cell 0 (by simp)
    have cB1_1 := B1.out.cell 1 (by simp)
    simp only [List.getD_cons_zero, List.getD_cons_succ] at cB1_0 cB1_1
    have fB1_0 := B1.out.free 0
    have fB1_1 := B1.out.free 1
    have ltB1 := B1.out.lt
    go_wp2
    refine ret_box (g := w.heap.size + 1) (zs := [(tt * x0 + 6 * am).tdiv (gcdI (absI (tt * x0 + 6 * am)) (x0 * x0 * x0)), x0 * x0 * x0 / gcdI (absI (tt * x0 + 6 * am)) (x0 * x0 * x0)]) (v := .tuple #[.agg #[.int .i64 ((tt * x0 + 6 * am).tdiv (gcdI (absI (tt * x0 + 6 * am)) (x0 * x0 * x0))), .int .i64 (x0 * x0 * x0 / gcdI (absI (tt * x0 + 6 * am)) (x0 * x0 * x0))], .int .i64 (0)]) (by first | with_reducible exact BI.put_2 B1.out _ _ | with_reducible exact (BI.put_2 B1.out _ _).alloc _) rfl ?_ ?_
    · intro W hW
      have e0 := hW.cell 0 (by simp)
      have e1 := hW.cell 1 (by simp)
      simp only [List.getD_cons_zero, List.getD_cons_succ] at e0 e1
      simp [results, Tryd.results15, go_sem, e0, e1]
    · exact ⟨retF_y (by rw [HTT.out, HMO.out, HAB.out]; exact hse.out) (by unfold ofA; rw [HTT.out, HMO.out, HAB.out, hsm.out.1, hsm.out.2]) (by unfold ofB; rw [HTT.out, HMO.out, HAB.out, hsm.out.1, hsm.out.2]), by repeat' (first | with_reducible exact HB.out | (with_reducible refine gr_set (by dsimp only; omega) ?_) | (with_reducible refine gr_alloc ?_) | (with_reducible refine gr_drewN ?_) | (with_reducible refine gr_drew ?_))⟩
  have hsm := Lib.hid (pr_great h6)
  have hd6 : decide (6 * am ≤ tt * x0) = false := decide_eq_false h6
  go_wp2_with fail
  go_at_call 42
  (with_reducible refine (gcd06_any am tt _ (by omega) (by omega)).mono ?_)
  rintro e y ⟨rfl, q, rfl⟩
  clear cB0_0 cB0_1 cB0_2 cB0_3 cB0_4 cB0_5 cB0_6 cB1_0 cB1_1 fB1_0 fB1_1 ltB1
  replace HC := Lib.hid (HC.out.drewN (n := q))
  replace HB := Lib.hid (gr_drewN (n := q) HB.out)
  replace B0 := Lib.hid (show BI (w3.drewN q) _ _ _ from B0.out)
  replace B1 := Lib.hid (show BI (w3.drewN q) _ _ _ from B1.out)
  generalize w3.drewN q = w5 at *
  have cB0_0 := B0.out.cell 0 (by simp)
  have cB0_1 := B0.out.cell 1 (by simp)
  have cB0_2 := B0.out.cell 2 (by simp)
  have cB0_3 := B0.out.cell 3 (by simp)
  have cB0_4 := B0.out.cell 4 (by simp)
  have cB0_5 := B0.out.cell 5 (by simp)
  have cB0_6 := B0.out.cell 6 (by simp)
  simp only [List.getD_cons_zero, List.getD_cons_succ] at cB0_0 cB0_1 cB0_2 cB0_3 cB0_4 cB0_5 cB0_6
  have cB1_0 := B1.out.cell 0 (by simp)
  have cB1_1 := B1.out.cell 1 (by simp)
  simp only [List.getD_cons_zero, List.getD_cons_succ] at cB1_0 cB1_1
  have fB1_0 := B1.out.free 0
  have fB1_1 := B1.out.free 1
  have ltB1 := B1.out.lt
  have hg1 := gcdI_pos (a := am) (b := tt) (by omega)
  have hg2 := gcdI_le (a := am) (b := tt) (by omega)
  obtain ⟨t, ht⟩ := gcdI_dvd_right am tt
  obtain ⟨m, hm⟩ := gcdI_dvd_left am tt
  generalize gcdI am tt = g at *
  have hlow := Lib.hid (pr_low (x0 := x0) hg1 ht hm)
  have hq1 : tt / g = t := by rw [ht]; exact Int.mul_ediv_cancel_left _ (by omega)
  have hq2 : am / g = m := by rw [hm]; exact Int.mul_ediv_cancel_left _ (by omega)
  have htb : 1 ≤ t ∧ t ≤ tt := by
    have h1 := Int.ediv_le_self (a := tt) g (by omega)
    have h3 : 1 ≤ tt / g := Int.le_ediv_of_mul_le (by omega) (by omega)
    omega
  have hmb : 0 ≤ m ∧ m ≤ am := by
    have h1 := Int.ediv_le_self (a := am) g (by omega)
    have h3 := Int.ediv_nonneg (a := am) (b := g) (by omega) (by omega)
    omega
  have hleft : 1 ≤ t * x0 - 2 * m := by
    have e3 : tt * x0 - 2 * am = g * (t * x0 - 2 * m) := by rw [ht, hm, Int.mul_sub, Int.mul_assoc, Int.mul_left_comm 2 g m]
    have h9 : 0 < g * (t * x0 - 2 * m) := by omega
    have := Int.pos_of_mul_pos_right h9 (by omega) |> fun h => h
    omega
  have hp5 := mul_bd (a := t) (b := x0) (A := 2050000) (B := 200) (by omega) (by omega) (by omega) (by omega)
  have hp6 := mul_bd (a := 4 * tt) (b := t) (A := 8200000) (B := 2050000) (by omega) (by omega) (by omega) (by omega)
  have q1 := mul_bd (a := 3 * x0) (b := t * x0 - 2 * m) (A := 600) (B := 410000000) (by omega) (by omega) (by omega) (by omega)
  have q2 := Int.mul_le_mul (show (1 : Int) ≤ 3 * x0 by omega) hleft (by omega) (by omega)
  have hne : ¬ g = 0 := by omega
  have hne1 : ¬ g = -1 := by omega
  clear ht hm
  go_wp2
  (try rw [hq1])
  go_quiet (fail)
  clear cB0_0 cB0_1 cB0_2 cB0_3 cB0_4 cB0_5 cB0_6 cB1_0 cB1_1 fB1_0 fB1_1 ltB1
  replace HC := Lib.hid (HC.out.drewN (n := nq))
  replace HB := Lib.hid (gr_drewN (n := nq) HB.out)
  replace B0 := Lib.hid (show BI (w5.drewN nq) _ _ _ from B0.out)
  replace B1 := Lib.hid (show BI (w5.drewN nq) _ _ _ from B1.out)
  generalize w5.drewN nq = w6 at *
  have cB0_0 := B0.out.cell 0 (by simp)
  have cB0_1 := B0.out.cell 1 (by simp)
  have cB0_2 := B0.out.cell 2 (by simp)
  have cB0_3 := B0.out.cell 3 (by simp)
  have cB0_4 := B0.out.cell 4 (by simp)
  have cB0_5 := B0.out.cell 5 (by simp)
  have cB0_6 := B0.out.cell 6 (by simp)
  simp only [List.getD_cons_zero, List.getD_cons_succ] at cB0_0 cB0_1 cB0_2 cB0_3 cB0_4 cB0_5 cB0_6
  have cB1_0 := B1.out.cell 0 (by simp)
  have cB1_1 := B1.out.cell 1 (by simp)
  simp only [List.getD_cons_zero, List.getD_cons_succ] at cB1_0 cB1_1
  have fB1_0 := B1.out.free 0
  have fB1_1 := B1.out.free 1
  have ltB1 := B1.out.lt
  go_wp2_with fail
  go_at_call 40
  (with_reducible refine (make06_any _ _ _ (by omega) (by omega)).mono ?_)
  rintro e w9 ⟨rfl, hb⟩
  clear cB0_0 cB0_1 cB0_2 cB0_3 cB0_4 cB0_5 cB0_6 cB1_0 cB1_1 fB1_0 fB1_1 ltB1
  replace B0 := Lib.hid (B0.out.late hb)
  replace B1 := Lib.hid (B1.out.late hb)
  replace HB := Lib.hid (gr_then hb HB.out)
  clear hb
  have cB1_0 := B1.out.cell 0 (by simp)
  have cB1_1 := B1.out.cell 1 (by simp)
  simp only [List.getD_cons_zero, List.getD_cons_succ] at cB1_0 cB1_1
  have fB1_0 := B1.out.free 0
  have fB1_1 := B1.out.free 1
  have ltB1 := B1.out.lt
  go_wp2
  refine ret_box (g := w.heap.size + 1) (zs := [(4 * tt * t).tdiv (gcdI (absI (4 * tt * t)) (3 * x0 * (t * x0 - 2 * m))), 3 * x0 * (t * x0 - 2 * m) / gcdI (absI (4 * tt * t)) (3 * x0 * (t * x0 - 2 * m))]) (v := .tuple #[.agg #[.int .i64 ((4 * tt * t).tdiv (gcdI (absI (4 * tt * t)) (3 * x0 * (t * x0 - 2 * m)))), .int .i64 (3 * x0 * (t * x0 - 2 * m) / gcdI (absI (4 * tt * t)) (3 * x0 * (t * x0 - 2 * m)))], .int .i64 (0)]) (by first | with_reducible exact BI.put_2 B1.out _ _ | with_reducible exact (BI.put_2 B1.out _ _).alloc _) rfl ?_ ?_
  · intro W hW
    have e0 := hW.cell 0 (by simp)
    have e1 := hW.cell 1 (by simp)
    simp only [List.getD_cons_zero, List.getD_cons_succ] at e0 e1
    simp [results, Tryd.results15, go_sem, e0, e1]
  · exact ⟨retF_y (by rw [HTT.out, HMO.out, HAB.out]; exact hse.out) (by rw [HTT.out, HMO.out, HAB.out, hsm.out.1, hsm.out.2]; exact hlow.out.1) (by rw [HTT.out, HMO.out, HAB.out, hsm.out.1, hsm.out.2]; exact hlow.out.2), by repeat' (first | with_reducible exact HB.out | (with_reducible refine gr_set (by dsimp only; omega) ?_) | (with_reducible refine gr_alloc ?_) | (with_reducible refine gr_drewN ?_) | (with_reducible refine gr_drew ?_))⟩
end Go.Proofs.YtmalbgbmapfiiaaDoor
