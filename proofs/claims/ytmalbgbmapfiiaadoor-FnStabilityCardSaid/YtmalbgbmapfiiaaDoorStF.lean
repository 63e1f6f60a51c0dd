/- LeastBallast, both sides. -/
import Derived.Test.YtmalbgbmapfiiaaDoorStE
namespace Go.Proofs.YtmalbgbmapfiiaaDoor
open Go.RowKit Go.Deep
theorem okB_bal {x0 x1 x2 x3 x4 x5 x6 b : Int} (h : okB x0 x1 x2 x3 x4 x5 x6 = true) (hb : 0 ≤ b ∧ b ≤ 500000) : okB x0 x1 b x3 x4 x5 x6 = true := by
  simp only [okB, inI, Bool.and_eq_true, decide_eq_true_eq] at *
  omega
def lbE (k L : Int) : Int := if k = 0 then (if 500000 < L then 3 else 0) else k
theorem lbE_n {k L K : Int} (h : k = K) (hk : ¬ K = 0) : lbE k L = K := by subst h; exact if_neg hk
theorem lbE_3 {k L : Int} (h : k = 0) (hm : 500000 < L) : lbE k L = 3 := by subst h; exact (if_pos rfl).trans (if_pos hm)
theorem lbE_y {k L : Int} (h : k = 0) (hm : ¬ 500000 < L) : lbE k L = 0 := by subst h; exact (if_pos rfl).trans (if_neg hm)
set_option maxHeartbeats 16000000 in
set_option maxRecDepth 20000 in
theorem implLb_any (x0 x1 x2 x3 x4 x5 x6 : Int) (ld r pc : Int) (w : World) : Calls Tryd.prog 7 #[.agg #[.int .i64 x0, .int .i64 x1, .int .i64 x2, .int .i64 x3, .int .i64 x4, .int .i64 x5, .int .i64 x6], .int .i64 ld, .int .i64 r, .int .i64 pc] w fun e w' => e = .returned (.tuple #[.int .i64 (zif (lbE (codB (okB x0 x1 x2 x3 x4 x5 x6) ld r pc) (lbB x0 x1 x3 x4 x5 x6 ld r pc)) (lbB x0 x1 x3 x4 x5 x6 ld r pc)), .int .i64 (lbE (codB (okB x0 x1 x2 x3 x4 x5 x6) ld r pc) (lbB x0 x1 x3 x4 x5 x6 ld r pc))]) ∧ Below w.heap.size w w' := by
  have B0 := Lib.hid (show BI (w.alloc (.cells #[.int .i64 x0, .int .i64 x1, .int .i64 x2, .int .i64 x3, .int .i64 x4, .int .i64 x5, .int .i64 x6] 25)) w.heap.size 25 [x0, x1, x2, x3, x4, x5, x6] from heap_alloc_new w _)
  have HB := Lib.hid (show Below w.heap.size w (w.alloc (.cells #[.int .i64 x0, .int .i64 x1, .int .i64 x2, .int .i64 x3, .int .i64 x4, .int .i64 x5, .int .i64 x6] 25)) by repeat' first | exact gr_refl _ | with_reducible assumption | with_reducible apply gr_alloc | with_reducible apply gr_set | with_reducible apply gr_drew | with_reducible apply gr_drewN | exact Nat.le_add_right _ _ | exact Nat.le_refl _ | (refine gr_then (by with_reducible assumption) ?_))
  have cB0_0 := B0.out.cell 0 (by simp)
  have cB0_1 := B0.out.cell 1 (by simp)
  have cB0_2 := B0.out.cell 2 (by simp)
  have cB0_3 := B0.out.cell 3 (by simp)
  have cB0_4 := B0.out.cell 4 (by simp)
  have cB0_5 := B0.out.cell 5 (by simp)
  have cB0_6 := B0.out.cell 6 (by simp)
  simp only [List.getD_cons_zero, List.getD_cons_succ] at cB0_0 cB0_1 cB0_2 cB0_3 cB0_4 cB0_5 cB0_6
  go_enter Tryd.func7, Tryd.ntmps7
  go_wp2_with fail
  generalize w.alloc (.cells #[.int .i64 x0, .int .i64 x1, .int .i64 x2, .int .i64 x3, .int .i64 x4, .int .i64 x5, .int .i64 x6] 25) = v0 at *
  go_at_call 28
  (with_reducible refine (baseCode_any x0 x1 x2 x3 x4 x5 x6 ld r pc _).mono ?_)
  rintro e w1 ⟨rfl, hb⟩
  clear cB0_0 cB0_1 cB0_2 cB0_3 cB0_4 cB0_5 cB0_6
  replace B0 := Lib.hid (B0.out.late hb)
  replace HB := Lib.hid (gr_then hb HB.out)
  clear hb
  have HK := codB_bd (okB x0 x1 x2 x3 x4 x5 x6) ld r pc
  obtain ⟨K, hK⟩ : ∃ K, codB (okB x0 x1 x2 x3 x4 x5 x6) ld r pc = K := ⟨_, rfl⟩
  rw [hK]
  rw [hK] at HK
  have hK2 := Lib.hid hK
  clear hK
  by_cases hk0 : K = 0
  case neg =>
    have hd : (K != 0) = true := bne_iff_ne.2 hk0
    go_wp2
    go_returns
    exact ⟨retN_n (lbE_n hK2.out hk0) hk0, by repeat' (first | with_reducible exact HB.out | (with_reducible refine gr_drewN ?_) | (with_reducible refine gr_drew ?_))⟩
  subst hk0
  obtain ⟨hok, hl, hr, hp⟩ := codB_t hK2.out
  have HOK := Lib.hid hok
  have hok0 := okB_bal (b := 0) hok (by omega)
  have HOK0 := Lib.hid hok0
  have t1 := tot_bd hok0 hl
  have t2 := (mom_bd hok hl hr).2.2.2
  obtain ⟨_, _, _, s4, s5⟩ := stab_bd hok hl hr hp
  have k0 := (okB_t hok).1
  have HT : Hid (∀ w' : World, Calls Tryd.prog 32 #[.agg #[.int .i64 x0, .int .i64 x1, .int .i64 0, .int .i64 x3, .int .i64 x4, .int .i64 x5, .int .i64 x6], .int .i64 ld] w' fun e w'' => e = .returned (.int .i64 (totB x1 0 x3 x5 ld)) ∧ Below w'.heap.size w' w'') := fun w' => total_any x0 x1 0 x3 x4 x5 x6 ld w' HOK0.out hl
  have HM : Hid (∀ w' : World, Calls Tryd.prog 31 #[.agg #[.int .i64 x0, .int .i64 x1, .int .i64 0, .int .i64 x3, .int .i64 x4, .int .i64 x5, .int .i64 x6], .int .i64 ld, .int .i64 r] w' fun e w'' => e = .returned (.int .i64 (momB x3 x4 x5 x6 ld r)) ∧ Below w'.heap.size w' w'') := fun w' => moment_any x0 x1 0 x3 x4 x5 x6 ld r w' HOK0.out hl hr
  have HLB := Lib.hid (show lbB x0 x1 x3 x4 x5 x6 ld r pc = maxI ((2 * pc * absI (momB x3 x4 x5 x6 ld r) + 100 * x0 - 1) / (100 * x0) - totB x1 0 x3 x5 ld) 0 from rfl)
  clear hok hok0
  generalize totB x1 0 x3 x5 ld = tt at *
  generalize momB x3 x4 x5 x6 ld r = mo at *
  skip
  have cB0_0 := B0.out.cell 0 (by simp)
  have cB0_1 := B0.out.cell 1 (by simp)
  have cB0_2 := B0.out.cell 2 (by simp)
  have cB0_3 := B0.out.cell 3 (by simp)
  have cB0_4 := B0.out.cell 4 (by simp)
  have cB0_5 := B0.out.cell 5 (by simp)
  have cB0_6 := B0.out.cell 6 (by simp)
  simp only [List.getD_cons_zero, List.getD_cons_succ] at cB0_0 cB0_1 cB0_2 cB0_3 cB0_4 cB0_5 cB0_6
  have f2 := B0.out.free 2
  have lt0 := B0.out.lt
  have B2 := Lib.hid (show BI (w1.setCell ⟨w.heap.size, 2, none⟩ (.int .i64 0)) w.heap.size _ [x0, x1, 0, x3, x4, x5, x6] from B0.out.put 2 0)
  have HB2 := Lib.hid (gr_set (p := ⟨w.heap.size, 2, none⟩) (u := .int .i64 0) (Nat.le_refl _) HB.out)
  go_wp2
  generalize w1.setCell ⟨w.heap.size, 2, none⟩ (.int .i64 0) = w2 at *
  clear cB0_0 cB0_1 cB0_2 cB0_3 cB0_4 cB0_5 cB0_6 f2 lt0 B0
  have B0 := B2
  clear B2
  have cB0_0 := B0.out.cell 0 (by simp)
  have cB0_1 := B0.out.cell 1 (by simp)
  have cB0_2 := B0.out.cell 2 (by simp)
  have cB0_3 := B0.out.cell 3 (by simp)
  have cB0_4 := B0.out.cell 4 (by simp)
  have cB0_5 := B0.out.cell 5 (by simp)
  have cB0_6 := B0.out.cell 6 (by simp)
  simp only [List.getD_cons_zero, List.getD_cons_succ] at cB0_0 cB0_1 cB0_2 cB0_3 cB0_4 cB0_5 cB0_6
  have hab := abs_bd (x := mo) (A := 550000000) (by omega)
  have hc1 : 0 ≤ (2 * pc * absI mo + 100 * x0 - 1) / (100 * x0) := Int.ediv_nonneg (by omega) (by omega)
  have hc2 := Int.ediv_le_self (a := 2 * pc * absI mo + 100 * x0 - 1) (100 * x0) (by omega)
  have hw3 : IntKind.i64.wrap (2 * pc) = 2 * pc := IntWalk.i64_in _ (by omega)
  have hw4 : IntKind.i64.wrap (2 * pc * absI mo) = 2 * pc * absI mo := IntWalk.i64_in _ (by omega)
  have hw5 : IntKind.i64.wrap (100 * x0) = 100 * x0 := IntWalk.i64_in _ (by omega)
  have gw0 : ∀ X, (grw (w2) X).cell? ⟨w.heap.size, 0, none⟩ = some (.int .i64 x0) := grw_cell (by assumption)
  have gw1 : ∀ X, (grw (w2) X).cell? ⟨w.heap.size, 1, none⟩ = some (.int .i64 x1) := grw_cell (by assumption)
  have gw2 : ∀ X, (grw (w2) X).cell? ⟨w.heap.size, 2, none⟩ = some (.int .i64 0) := grw_cell (by assumption)
  have gw3 : ∀ X, (grw (w2) X).cell? ⟨w.heap.size, 3, none⟩ = some (.int .i64 x3) := grw_cell (by assumption)
  have gw4 : ∀ X, (grw (w2) X).cell? ⟨w.heap.size, 4, none⟩ = some (.int .i64 x4) := grw_cell (by assumption)
  have gw5 : ∀ X, (grw (w2) X).cell? ⟨w.heap.size, 5, none⟩ = some (.int .i64 x5) := grw_cell (by assumption)
  have gw6 : ∀ X, (grw (w2) X).cell? ⟨w.heap.size, 6, none⟩ = some (.int .i64 x6) := grw_cell (by assumption)
  refine wp_region_grow (by kernel_rfl) (by kernel_rfl) ?_
  repeat (go_big_quiet_step (first | (go_at_call 31; exact grow_of (HM.out _)) | (go_at_call 30; exact grow_same (abs_any _ _ (by omega))) | (go_at_call 29; exact grow_same (ceil_any _ _ _ (by omega) (by omega) (by omega)))))
  refine wpQuiet_nil ?_
  rintro wq ⟨X, hX⟩
  have hQ_wq : Below (w2).heap.size (w2) wq := by rw [hX]; exact grw_below _ _
  clear hX gw0 gw1 gw2 gw3 gw4 gw5 gw6
  clear cB0_0 cB0_1 cB0_2 cB0_3 cB0_4 cB0_5 cB0_6
  replace B0 := Lib.hid (B0.out.late hQ_wq)
  replace HB := Lib.hid (gr_then hQ_wq HB2.out)
  clear hQ_wq HB2
  have cB0_0 := B0.out.cell 0 (by simp)
  have cB0_1 := B0.out.cell 1 (by simp)
  have cB0_2 := B0.out.cell 2 (by simp)
  have cB0_3 := B0.out.cell 3 (by simp)
  have cB0_4 := B0.out.cell 4 (by simp)
  have cB0_5 := B0.out.cell 5 (by simp)
  have cB0_6 := B0.out.cell 6 (by simp)
  simp only [List.getD_cons_zero, List.getD_cons_succ] at cB0_0 cB0_1 cB0_2 cB0_3 cB0_4 cB0_5 cB0_6
  generalize (2 * pc * absI mo + 100 * x0 - 1) / (100 * x0) = cc at *
  go_wp2_with fail
  go_at_call 32
  (with_reducible refine (HT.out _).mono ?_)
  rintro e w3 ⟨rfl, hb⟩
  replace HB := Lib.hid (gr_then hb HB.out)
  clear hb cB0_0 cB0_1 cB0_2 cB0_3 cB0_4 cB0_5 cB0_6
  by_cases hneg : cc - tt < 0
  case pos =>
    have hv : lbB x0 x1 x3 x4 x5 x6 ld r pc = 0 := by rw [HLB.out]; exact if_pos hneg
    have hse := Lib.hid (lbE_y (L := lbB x0 x1 x3 x4 x5 x6 ld r pc) hK2.out (by rw [hv]; omega))
    have HV := Lib.hid hv
    clear hv
    go_wp2
    go_returns
    exact ⟨retN_y hse.out HV.out.symm, by repeat' (first | with_reducible exact HB.out | (with_reducible refine gr_drewN ?_) | (with_reducible refine gr_drew ?_))⟩
  have hv : lbB x0 x1 x3 x4 x5 x6 ld r pc = cc - tt := by rw [HLB.out]; exact if_neg hneg
  have HV := Lib.hid hv
  by_cases hbig : 500000 < cc - tt
  case pos =>
    have hse := Lib.hid (lbE_3 (L := lbB x0 x1 x3 x4 x5 x6 ld r pc) hK2.out (by rw [hv]; exact hbig))
    have hd5 : decide (500000 < cc - tt) = true := decide_eq_true hbig
    clear hv
    go_wp2
    go_returns
    exact ⟨retN_n hse.out (by decide), by repeat' (first | with_reducible exact HB.out | (with_reducible refine gr_drewN ?_) | (with_reducible refine gr_drew ?_))⟩
  have hse := Lib.hid (lbE_y (L := lbB x0 x1 x3 x4 x5 x6 ld r pc) hK2.out (by rw [hv]; exact hbig))
  have hd5 : decide (500000 < cc - tt) = false := decide_eq_false hbig
  clear hv
  go_wp2
  go_returns
  exact ⟨retN_y hse.out HV.out.symm, by repeat' (first | with_reducible exact HB.out | (with_reducible refine gr_drewN ?_) | (with_reducible refine gr_drew ?_))⟩
set_option maxHeartbeats 16000000 in
set_option maxRecDepth 20000 in
theorem specLb_any (x0 x1 x2 x3 x4 x5 x6 : Int) (ld r pc : Int) (w : World) : Calls Tryd.prog 8 #[.agg #[.int .i64 x0, .int .i64 x1, .int .i64 x2, .int .i64 x3, .int .i64 x4, .int .i64 x5, .int .i64 x6], .int .i64 ld, .int .i64 r, .int .i64 pc] w fun e w' => e = .returned (.tuple #[.int .i64 (zif (lbE (codB (okB x0 x1 x2 x3 x4 x5 x6) ld r pc) (lbB x0 x1 x3 x4 x5 x6 ld r pc)) (lbB x0 x1 x3 x4 x5 x6 ld r pc)), .int .i64 (lbE (codB (okB x0 x1 x2 x3 x4 x5 x6) ld r pc) (lbB x0 x1 x3 x4 x5 x6 ld r pc))]) ∧ Below w.heap.size w w' := by
  have B0 := Lib.hid (show BI (w.alloc (.cells #[.int .i64 x0, .int .i64 x1, .int .i64 x2, .int .i64 x3, .int .i64 x4, .int .i64 x5, .int .i64 x6] 25)) w.heap.size 25 [x0, x1, x2, x3, x4, x5, x6] from heap_alloc_new w _)
  have HB := Lib.hid (show Below w.heap.size w (w.alloc (.cells #[.int .i64 x0, .int .i64 x1, .int .i64 x2, .int .i64 x3, .int .i64 x4, .int .i64 x5, .int .i64 x6] 25)) by repeat' first | exact gr_refl _ | with_reducible assumption | with_reducible apply gr_alloc | with_reducible apply gr_set | with_reducible apply gr_drew | with_reducible apply gr_drewN | exact Nat.le_add_right _ _ | exact Nat.le_refl _ | (refine gr_then (by with_reducible assumption) ?_))
  have cB0_0 := B0.out.cell 0 (by simp)
  have cB0_1 := B0.out.cell 1 (by simp)
  have cB0_2 := B0.out.cell 2 (by simp)
  have cB0_3 := B0.out.cell 3 (by simp)
  have cB0_4 := B0.out.cell 4 (by simp)
  have cB0_5 := B0.out.cell 5 (by simp)
  have cB0_6 := B0.out.cell 6 (by simp)
  simp only [List.getD_cons_zero, List.getD_cons_succ] at cB0_0 cB0_1 cB0_2 cB0_3 cB0_4 cB0_5 cB0_6
  go_enter Tryd.func8, Tryd.ntmps8
  go_wp2_with fail
  generalize w.alloc (.cells #[.int .i64 x0, .int .i64 x1, .int .i64 x2, .int .i64 x3, .int .i64 x4, .int .i64 x5, .int .i64 x6] 25) = v0 at *
  go_at_call 33
  have HC := Lib.hid (show C7 _ w.heap.size x0 x1 x2 x3 x4 x5 x6 from ⟨cB0_0, cB0_1, cB0_2, cB0_3, cB0_4, cB0_5, cB0_6⟩)
  (with_reducible refine (asked06_any _ x0 x1 x2 x3 x4 x5 x6 ld r pc _ HC.out).mono ?_)
  rintro e w1 ⟨rfl, rfl⟩
  have HK := codB_bd (okB x0 x1 x2 x3 x4 x5 x6) ld r pc
  obtain ⟨K, hK⟩ : ∃ K, codB (okB x0 x1 x2 x3 x4 x5 x6) ld r pc = K := ⟨_, rfl⟩
  rw [hK]
  rw [hK] at HK
  have hK2 := Lib.hid hK
  clear hK
  by_cases hk0 : K = 0
  case neg =>
    have hd : (K != 0) = true := bne_iff_ne.2 hk0
    go_wp2
    go_returns
    exact ⟨retN_n (lbE_n hK2.out hk0) hk0, by repeat' (first | with_reducible exact HB.out | (with_reducible refine gr_drewN ?_) | (with_reducible refine gr_drew ?_))⟩
  subst hk0
  obtain ⟨hok, hl, hr, hp⟩ := codB_t hK2.out
  have HOK := Lib.hid hok
  have k0 := (okB_t hok).1
  have HST : Hid (∀ (bb : Int) (w' : World), 0 ≤ bb ∧ bb ≤ 500000 → BI w' w.heap.size 25 [x0, x1, bb, x3, x4, x5, x6] → Calls Tryd.prog 34 #[.pointer (some ⟨w.heap.size, 0, none⟩), .int .i64 ld, .int .i64 r, .int .i64 pc] w' fun e w'' => e = .returned (.bool (decide (lbB x0 x1 x3 x4 x5 x6 ld r pc ≤ bb))) ∧ ∃ q, w'' = w'.drewN q) := fun bb w' hbb hB => by
    have hcs : C7 w' w.heap.size x0 x1 bb x3 x4 x5 x6 := ⟨by have h9 := hB.cell 0 (by simp); simpa using h9, by have h9 := hB.cell 1 (by simp); simpa using h9, by have h9 := hB.cell 2 (by simp); simpa using h9, by have h9 := hB.cell 3 (by simp); simpa using h9, by have h9 := hB.cell 4 (by simp); simpa using h9, by have h9 := hB.cell 5 (by simp); simpa using h9, by have h9 := hB.cell 6 (by simp); simpa using h9⟩
    have h9 := st06_any w.heap.size x0 x1 bb x3 x4 x5 x6 ld r pc w' hcs (okB_bal HOK.out hbb) hl hr hp
    rw [st_lb (by omega) hbb.1] at h9
    exact h9
  have hln := lb_nn x0 x1 x3 x4 x5 x6 ld r pc
  clear hok
  generalize hLL : lbB x0 x1 x3 x4 x5 x6 ld r pc = LL at *
  have HLL := Lib.hid hLL
  clear hLL
  have f2 := B0.out.free 2
  have lt0 := B0.out.lt
  have B2 := Lib.hid (show BI (v0.setCell ⟨w.heap.size, 2, none⟩ (.int .i64 500000)) w.heap.size 25 [x0, x1, 500000, x3, x4, x5, x6] from B0.out.put 2 500000)
  have HB2 := Lib.hid (gr_set (p := ⟨w.heap.size, 2, none⟩) (u := .int .i64 500000) (Nat.le_refl _) HB.out)
  go_wp2_with fail
  generalize v0.setCell ⟨w.heap.size, 2, none⟩ (.int .i64 500000) = w2 at *
  clear cB0_0 cB0_1 cB0_2 cB0_3 cB0_4 cB0_5 cB0_6 f2 lt0 B0 HC
  go_at_call 34
  (with_reducible refine (HST.out 500000 _ (by omega) B2.out).mono ?_)
  rintro e y ⟨rfl, q, rfl⟩
  replace B2 := Lib.hid (show BI (w2.drewN q) _ _ _ from B2.out)
  replace HB2 := Lib.hid (gr_drewN (n := q) HB2.out)
  generalize w2.drewN q = w3 at *
  by_cases hbig : LL ≤ 500000
  case neg =>
    have hse := Lib.hid (lbE_3 (L := LL) hK2.out (by omega))
    have hd5 : decide (LL ≤ 500000) = false := decide_eq_false hbig
    have HB := HB2
    go_wp2
    go_returns
    exact ⟨retN_n (by rw [HLL.out]; exact hse.out) (by decide), by repeat' (first | with_reducible exact HB.out | (with_reducible refine gr_drewN ?_) | (with_reducible refine gr_drew ?_))⟩
  have hse := Lib.hid (lbE_y (L := LL) hK2.out (by omega))
  have hd5 : decide (LL ≤ 500000) = true := decide_eq_true hbig
  go_wp2
  clear hd5
  go_loopw [11, 12] (fun lv hv wr => ∃ lo hi bb : Int, lv = .int .i64 lo ∧ hv = .int .i64 hi ∧ LbInv LL lo hi ∧ BI wr w.heap.size 25 [x0, x1, bb, x3, x4, x5, x6] ∧ Below w.heap.size w wr) (fun lv hv _ => (intOf hv - intOf lv).toNat)
  case atStart => exact ⟨-1, 500000, 500000, rfl, rfl, LbInv.start hln hbig, B2.out, HB2.out⟩
  case round =>
    obtain ⟨lo, hi, bb, rfl, rfl, hinv, hB, hb⟩ := hrel
    have HI := Lib.hid hinv
    obtain ⟨b0, b1, b2⟩ := hinv.bd
    clear hinv
    have B3 := Lib.hid hB
    have HB3 := Lib.hid hb
    clear hB hb
    by_cases hgt : 1 < hi - lo
    case neg =>
      have hf := Lib.hid (HI.out.fin hgt)
      have HB := HB3
      go_wp2
      go_returns
      exact ⟨retN_y (by rw [HLL.out]; exact hse.out) (by rw [HLL.out]; exact hf.out.symm), HB.out⟩
    have c2 := B3.out.cell 2 (by simp)
    have f2 := B3.out.free 2
    have lt0 := B3.out.lt
    simp only [List.getD_cons_zero, List.getD_cons_succ] at c2
    have hm : lo < (lo + hi) / 2 ∧ (lo + hi) / 2 < hi ∧ 0 ≤ (lo + hi) / 2 := by omega
    have htd : (lo + hi).tdiv 2 = (lo + hi) / 2 := Int.tdiv_eq_ediv_of_nonneg (by omega)
    have hM : ∃ mm, (lo + hi) / 2 = mm := ⟨_, rfl⟩
    obtain ⟨mm, hmm⟩ := hM
    rw [hmm] at hm htd
    have B4 := Lib.hid (show BI (wr.setCell ⟨w.heap.size, 2, none⟩ (.int .i64 mm)) w.heap.size 25 [x0, x1, mm, x3, x4, x5, x6] from B3.out.put 2 mm)
    have HB4 := Lib.hid (gr_set (p := ⟨w.heap.size, 2, none⟩) (u := .int .i64 mm) (Nat.le_refl _) HB3.out)
    go_wp2_with fail
    generalize wr.setCell ⟨w.heap.size, 2, none⟩ (.int .i64 mm) = w4 at *
    clear c2 f2 lt0
    go_at_call 34
    (with_reducible refine (HST.out mm _ (by omega) B4.out).mono ?_)
    rintro e y ⟨rfl, q, rfl⟩
    replace B4 := Lib.hid (show BI (w4.drewN q) _ _ _ from B4.out)
    replace HB4 := Lib.hid (gr_drewN (n := q) HB4.out)
    generalize w4.drewN q = w5 at *
    by_cases hle : LL ≤ mm
    · have hI := Lib.hid (HI.out.down hm.1 hm.2.1 hle)
      have hd6 : decide (LL ≤ mm) = true := decide_eq_true hle
      go_wp2
      go_roundw
      case rel => exact ⟨lo, mm, mm, rfl, rfl, hI.out, B4.out, HB4.out⟩
      case measure => simp [intOf]; omega
    · have hI := Lib.hid (HI.out.up hm.1 hm.2.1 hle)
      have hd6 : decide (LL ≤ mm) = false := decide_eq_false hle
      go_wp2
      go_roundw
      case rel => exact ⟨mm, hi, mm, rfl, rfl, hI.out, B4.out, HB4.out⟩
      case measure => simp [intOf]; omega
end Go.Proofs.YtmalbgbmapfiiaaDoor
