/- OffsetOf, SafetyOf, both sides. -/
import Derived.Test.YtmalbgbmapfiiaaDoorStC
import Derived.Test.YtmalbgbmapfiiaaDoorBsSrc
import Derived.Deep.RegionHeld3
namespace Go.Proofs.YtmalbgbmapfiiaaDoor
open Go.RowKit Go.Deep
theorem C7.drew {w : World} {b : Nat} {x0 x1 x2 x3 x4 x5 x6 : Int} (h : C7 w b x0 x1 x2 x3 x4 x5 x6) : C7 w.drew b x0 x1 x2 x3 x4 x5 x6 := h
def sfE (k mo : Int) : Int := if k = 0 then (if absI mo = 0 then 6 else 0) else k
theorem sfE_n {k mo K : Int} (h : k = K) (hk : ¬ K = 0) : sfE k mo = K := by subst h; exact if_neg hk
theorem sfE_0 {k mo : Int} (h : k = 0) (hm : absI mo = 0) : sfE k mo = 6 := by subst h; exact (if_pos rfl).trans (if_pos hm)
theorem sfE_y {k mo : Int} (h : k = 0) (hm : ¬ absI mo = 0) : sfE k mo = 0 := by subst h; exact (if_pos rfl).trans (if_neg hm)
def ofA (mo tt : Int) : Int := mo.tdiv (gcdI (absI mo) tt)
def ofB (mo tt : Int) : Int := tt / gcdI (absI mo) tt
set_option maxHeartbeats 8000000 in
set_option maxRecDepth 20000 in
theorem implOf_any (x0 x1 x2 x3 x4 x5 x6 : Int) (ld r : Int) (w : World) : Calls Tryd.prog 16 #[.agg #[.int .i64 x0, .int .i64 x1, .int .i64 x2, .int .i64 x3, .int .i64 x4, .int .i64 x5, .int .i64 x6], .int .i64 ld, .int .i64 r] w fun e w' => e = .returned (.tuple #[.agg #[.int .i64 (zif (codB (okB x0 x1 x2 x3 x4 x5 x6) ld r 100) (ofA (momB x3 x4 x5 x6 ld r) (totB x1 x2 x3 x5 ld))), .int .i64 (zif (codB (okB x0 x1 x2 x3 x4 x5 x6) ld r 100) (ofB (momB x3 x4 x5 x6 ld r) (totB x1 x2 x3 x5 ld)))], .int .i64 (codB (okB x0 x1 x2 x3 x4 x5 x6) ld r 100)]) ∧ Below w.heap.size w w' := by
  have B0 := Lib.hid (show BI (w.alloc (.cells #[.int .i64 x0, .int .i64 x1, .int .i64 x2, .int .i64 x3, .int .i64 x4, .int .i64 x5, .int .i64 x6] 25)) w.heap.size 25 [x0, x1, x2, x3, x4, x5, x6] from heap_alloc_new w _)
  replace B0 := Lib.hid (B0.out.alloc (.cells #[.int .i64 0, .int .i64 0] 33))
  have B1 := Lib.hid (show BI ((w.alloc (.cells #[.int .i64 x0, .int .i64 x1, .int .i64 x2, .int .i64 x3, .int .i64 x4, .int .i64 x5, .int .i64 x6] 25)).alloc (.cells #[.int .i64 0, .int .i64 0] 33)) (w.heap.size + 1) 33 [0, 0] by have h9 := heap_alloc_new (w.alloc (.cells #[.int .i64 x0, .int .i64 x1, .int .i64 x2, .int .i64 x3, .int .i64 x4, .int .i64 x5, .int .i64 x6] 25)) (.cells #[.int .i64 0, .int .i64 0] 33); rw [World.size_alloc] at h9; exact h9)
  have HB := Lib.hid (show Below w.heap.size w ((w.alloc (.cells #[.int .i64 x0, .int .i64 x1, .int .i64 x2, .int .i64 x3, .int .i64 x4, .int .i64 x5, .int .i64 x6] 25)).alloc (.cells #[.int .i64 0, .int .i64 0] 33)) by repeat' first | exact gr_refl _ | with_reducible assumption | with_reducible apply gr_alloc | with_reducible apply gr_set | with_reducible apply gr_drew | with_reducible apply gr_drewN | exact Nat.le_add_right _ _ | exact Nat.le_refl _ | (refine gr_then (by with_reducible assumption) ?_))
  have cB0_0 := B0.out.cell 0 (by simp)
  have cB0_1 := B0.out.cell 1 (by simp)
  have cB0_2 := B0.out.cell 2 (by simp)
  have cB0_3 := B0.out.cell 3 (by simp)
  have cB0_4 := B0.out.cell 4 (by simp)
  have cB0_5 := B0.out.cell 5 (by simp)
  have cB0_6 := B0.out.cell 6 (by simp)
  simp only [List.getD_cons_zero, List.getD_cons_succ] at cB0_0 cB0_1 cB0_2 cB0_3 cB0_4 cB0_5 cB0_6
  go_enter Tryd.func16, Tryd.ntmps16
  go_wp2_with fail
  generalize (w.alloc (.cells #[.int .i64 x0, .int .i64 x1, .int .i64 x2, .int .i64 x3, .int .i64 x4, .int .i64 x5, .int .i64 x6] 25)).alloc (.cells #[.int .i64 0, .int .i64 0] 33) = v0 at *
  go_at_call 28
  (with_reducible refine (baseCode_any x0 x1 x2 x3 x4 x5 x6 ld r 100 _).mono ?_)
  rintro e w1 ⟨rfl, hb⟩
  clear cB0_0 cB0_1 cB0_2 cB0_3 cB0_4 cB0_5 cB0_6
  replace B0 := Lib.hid (B0.out.late hb)
  replace B1 := Lib.hid (B1.out.late hb)
  replace HB := Lib.hid (gr_then hb HB.out)
  clear hb
  have HK := codB_bd (okB x0 x1 x2 x3 x4 x5 x6) ld r 100
  obtain ⟨K, hK⟩ : ∃ K, codB (okB x0 x1 x2 x3 x4 x5 x6) ld r 100 = K := ⟨_, rfl⟩
  rw [hK]
  rw [hK] at HK
  have hK2 := Lib.hid hK
  clear hK
  have cB1_0 := B1.out.cell 0 (by simp)
  have cB1_1 := B1.out.cell 1 (by simp)
  simp only [List.getD_cons_zero, List.getD_cons_succ] at cB1_0 cB1_1
  have fB1_0 := B1.out.free 0
  have fB1_1 := B1.out.free 1
  have ltB1 := B1.out.lt
  by_cases hk0 : K = 0
  case neg =>
    have hd : (K != 0) = true := bne_iff_ne.2 hk0
    go_wp2
    refine ret_box (g := w.heap.size + 1) (zs := [0, 0]) (v := .tuple #[.agg #[.int .i64 (0), .int .i64 (0)], .int .i64 (K)]) (by first | with_reducible exact BI.put_2 B1.out _ _ | with_reducible exact (BI.put_2 B1.out _ _).alloc _) rfl ?_ ?_
    · intro W hW
      have e0 := hW.cell 0 (by simp)
      have e1 := hW.cell 1 (by simp)
      simp only [List.getD_cons_zero, List.getD_cons_succ] at e0 e1
      simp [results, Tryd.results16, go_sem, e0, e1]
    · exact ⟨retF_n hK2.out hk0, by repeat' (first | with_reducible exact HB.out | (with_reducible refine gr_set (by dsimp only; omega) ?_) | (with_reducible refine gr_alloc ?_) | (with_reducible refine gr_drewN ?_) | (with_reducible refine gr_drew ?_))⟩
  subst hk0
  obtain ⟨hok, hl, hr, hp⟩ := codB_t hK2.out
  have HOK := Lib.hid hok
  have t1 := tot_bd hok hl
  have t2 := (mom_bd hok hl hr).2.2.2
  have k0 := (okB_t hok).1
  have HT : Hid (∀ w' : World, Calls Tryd.prog 32 #[.agg #[.int .i64 x0, .int .i64 x1, .int .i64 x2, .int .i64 x3, .int .i64 x4, .int .i64 x5, .int .i64 x6], .int .i64 ld] w' fun e w'' => e = .returned (.int .i64 (totB x1 x2 x3 x5 ld)) ∧ Below w'.heap.size w' w'') := fun w' => total_any x0 x1 x2 x3 x4 x5 x6 ld w' HOK.out hl
  have HM : Hid (∀ w' : World, Calls Tryd.prog 31 #[.agg #[.int .i64 x0, .int .i64 x1, .int .i64 x2, .int .i64 x3, .int .i64 x4, .int .i64 x5, .int .i64 x6], .int .i64 ld, .int .i64 r] w' fun e w'' => e = .returned (.int .i64 (momB x3 x4 x5 x6 ld r)) ∧ Below w'.heap.size w' w'') := fun w' => moment_any x0 x1 x2 x3 x4 x5 x6 ld r w' HOK.out hl hr
  clear hok
  generalize htt : totB x1 x2 x3 x5 ld = tt at *
  generalize hmo : momB x3 x4 x5 x6 ld r = mo at *
  have HTT := Lib.hid htt
  have HMO := Lib.hid hmo
  clear htt hmo
  have cB0_0 := B0.out.cell 0 (by simp)
  have cB0_1 := B0.out.cell 1 (by simp)
  have cB0_2 := B0.out.cell 2 (by simp)
  have cB0_3 := B0.out.cell 3 (by simp)
  have cB0_4 := B0.out.cell 4 (by simp)
  have cB0_5 := B0.out.cell 5 (by simp)
  have cB0_6 := B0.out.cell 6 (by simp)
  simp only [List.getD_cons_zero, List.getD_cons_succ] at cB0_0 cB0_1 cB0_2 cB0_3 cB0_4 cB0_5 cB0_6
  go_wp2
  have hA : Below w1.heap.size w1 w1 := gr_refl _
  go_region_held3 (fun w' => w'.cell? ⟨w.heap.size, 0, none⟩ = some (.int .i64 x0) ∧ w'.cell? ⟨w.heap.size, 1, none⟩ = some (.int .i64 x1) ∧ w'.cell? ⟨w.heap.size, 2, none⟩ = some (.int .i64 x2) ∧ w'.cell? ⟨w.heap.size, 3, none⟩ = some (.int .i64 x3) ∧ w'.cell? ⟨w.heap.size, 4, none⟩ = some (.int .i64 x4) ∧ w'.cell? ⟨w.heap.size, 5, none⟩ = some (.int .i64 x5) ∧ w'.cell? ⟨w.heap.size, 6, none⟩ = some (.int .i64 x6)) (first | with_reducible exact ⟨cB0_0, cB0_1, cB0_2, cB0_3, cB0_4, cB0_5, cB0_6⟩ | with_reducible exact ⟨drewc cB0_0, drewc cB0_1, drewc cB0_2, drewc cB0_3, drewc cB0_4, drewc cB0_5, drewc cB0_6⟩ | with_reducible exact ⟨(keepc hA cB0_0), (keepc hA cB0_1), (keepc hA cB0_2), (keepc hA cB0_3), (keepc hA cB0_4), (keepc hA cB0_5), (keepc hA cB0_6)⟩ | with_reducible exact ⟨(setfar (p := ⟨_, 1, none⟩) (setfar (p := ⟨_, 0, none⟩) (keepc hA cB0_0) (by dsimp only; omega)) (by dsimp only; omega)), (setfar (p := ⟨_, 1, none⟩) (setfar (p := ⟨_, 0, none⟩) (keepc hA cB0_1) (by dsimp only; omega)) (by dsimp only; omega)), (setfar (p := ⟨_, 1, none⟩) (setfar (p := ⟨_, 0, none⟩) (keepc hA cB0_2) (by dsimp only; omega)) (by dsimp only; omega)), (setfar (p := ⟨_, 1, none⟩) (setfar (p := ⟨_, 0, none⟩) (keepc hA cB0_3) (by dsimp only; omega)) (by dsimp only; omega)), (setfar (p := ⟨_, 1, none⟩) (setfar (p := ⟨_, 0, none⟩) (keepc hA cB0_4) (by dsimp only; omega)) (by dsimp only; omega)), (setfar (p := ⟨_, 1, none⟩) (setfar (p := ⟨_, 0, none⟩) (keepc hA cB0_5) (by dsimp only; omega)) (by dsimp only; omega)), (setfar (p := ⟨_, 1, none⟩) (setfar (p := ⟨_, 0, none⟩) (keepc hA cB0_6) (by dsimp only; omega)) (by dsimp only; omega))⟩ | exact ⟨cB0_0, cB0_1, cB0_2, cB0_3, cB0_4, cB0_5, cB0_6⟩) (first | (go_at_call 32; (with_reducible refine (HT.out _).mono ?_); rintro e y1 ⟨rfl, hb⟩; have hA : Below w1.heap.size w1 y1 := gr_then hb (by repeat' first | exact gr_refl _ | with_reducible assumption | with_reducible apply gr_alloc | with_reducible apply gr_set | with_reducible apply gr_drew | with_reducible apply gr_drewN | exact Nat.le_add_right _ _ | exact Nat.le_refl _ | (refine gr_then (by with_reducible assumption) ?_))) | (go_at_call 31; (with_reducible refine (HM.out _).mono ?_); rintro e y2 ⟨rfl, hb⟩; have hA : Below w1.heap.size w1 y2 := gr_then hb (by repeat' first | exact gr_refl _ | with_reducible assumption | with_reducible apply gr_alloc | with_reducible apply gr_set | with_reducible apply gr_drew | with_reducible apply gr_drewN | exact Nat.le_add_right _ _ | exact Nat.le_refl _ | (refine gr_then (by with_reducible assumption) ?_))) | (go_at_call 36; (with_reducible refine (reduced_any _ _ _ (by omega) (by omega)).mono ?_); rintro e y3 ⟨rfl, hb⟩; have hA : Below w1.heap.size w1 y3 := gr_then hb (by repeat' first | exact gr_refl _ | with_reducible assumption | with_reducible apply gr_alloc | with_reducible apply gr_set | with_reducible apply gr_drew | with_reducible apply gr_drewN | exact Nat.le_add_right _ _ | exact Nat.le_refl _ | (refine gr_then (by with_reducible assumption) ?_)); have d0 := keepc hA cB1_0; have d1 := keepc hA cB1_1; have m0 := (B1.out.late hA).free 0; have m1 := (B1.out.late hA).free 1; have lz := hA.size))
  replace B1 := Lib.hid (B1.out.late hA)
  replace HB := Lib.hid (gr_then hA HB.out)
  go_wp2
  refine ret_box (g := w.heap.size + 1) (zs := [mo.tdiv (gcdI (absI mo) tt), tt / gcdI (absI mo) tt]) (v := .tuple #[.agg #[.int .i64 (mo.tdiv (gcdI (absI mo) tt)), .int .i64 (tt / gcdI (absI mo) tt)], .int .i64 (0)]) (by first | with_reducible exact BI.put_2 B1.out _ _ | with_reducible exact (BI.put_2 B1.out _ _).alloc _) rfl ?_ ?_
  · intro W hW
    have e0 := hW.cell 0 (by simp)
    have e1 := hW.cell 1 (by simp)
    simp only [List.getD_cons_zero, List.getD_cons_succ] at e0 e1
    simp [results, Tryd.results16, go_sem, e0, e1]
  · exact ⟨retF_y hK2.out (by unfold ofA; rw [HMO.out, HTT.out]) (by unfold ofB; rw [HMO.out, HTT.out]), by repeat' (first | with_reducible exact HB.out | (with_reducible refine gr_set (by dsimp only; omega) ?_) | (with_reducible refine gr_alloc ?_) | (with_reducible refine gr_drewN ?_) | (with_reducible refine gr_drew ?_))⟩
set_option maxHeartbeats 8000000 in
set_option maxRecDepth 20000 in
theorem specOf_any (x0 x1 x2 x3 x4 x5 x6 : Int) (ld r : Int) (w : World) : Calls Tryd.prog 17 #[.agg #[.int .i64 x0, .int .i64 x1, .int .i64 x2, .int .i64 x3, .int .i64 x4, .int .i64 x5, .int .i64 x6], .int .i64 ld, .int .i64 r] w fun e w' => e = .returned (.tuple #[.agg #[.int .i64 (zif (codB (okB x0 x1 x2 x3 x4 x5 x6) ld r 100) (ofA (momB x3 x4 x5 x6 ld r) (totB x1 x2 x3 x5 ld))), .int .i64 (zif (codB (okB x0 x1 x2 x3 x4 x5 x6) ld r 100) (ofB (momB x3 x4 x5 x6 ld r) (totB x1 x2 x3 x5 ld)))], .int .i64 (codB (okB x0 x1 x2 x3 x4 x5 x6) ld r 100)]) ∧ Below w.heap.size w w' := by
  have B0 := Lib.hid (show BI (w.alloc (.cells #[.int .i64 x0, .int .i64 x1, .int .i64 x2, .int .i64 x3, .int .i64 x4, .int .i64 x5, .int .i64 x6] 25)) w.heap.size 25 [x0, x1, x2, x3, x4, x5, x6] from heap_alloc_new w _)
  replace B0 := Lib.hid (B0.out.alloc (.cells #[.int .i64 0, .int .i64 0] 33))
  have B1 := Lib.hid (show BI ((w.alloc (.cells #[.int .i64 x0, .int .i64 x1, .int .i64 x2, .int .i64 x3, .int .i64 x4, .int .i64 x5, .int .i64 x6] 25)).alloc (.cells #[.int .i64 0, .int .i64 0] 33)) (w.heap.size + 1) 33 [0, 0] by have h9 := heap_alloc_new (w.alloc (.cells #[.int .i64 x0, .int .i64 x1, .int .i64 x2, .int .i64 x3, .int .i64 x4, .int .i64 x5, .int .i64 x6] 25)) (.cells #[.int .i64 0, .int .i64 0] 33); rw [World.size_alloc] at h9; exact h9)
  have HB := Lib.hid (show Below w.heap.size w ((w.alloc (.cells #[.int .i64 x0, .int .i64 x1, .int .i64 x2, .int .i64 x3, .int .i64 x4, .int .i64 x5, .int .i64 x6] 25)).alloc (.cells #[.int .i64 0, .int .i64 0] 33)) by repeat' first | exact gr_refl _ | with_reducible assumption | with_reducible apply gr_alloc | with_reducible apply gr_set | with_reducible apply gr_drew | with_reducible apply gr_drewN | exact Nat.le_add_right _ _ | exact Nat.le_refl _ | (refine gr_then (by with_reducible assumption) ?_))
  have cB0_0 := B0.out.cell 0 (by simp)
  have cB0_1 := B0.out.cell 1 (by simp)
  have cB0_2 := B0.out.cell 2 (by simp)
  have cB0_3 := B0.out.cell 3 (by simp)
  have cB0_4 := B0.out.cell 4 (by simp)
  have cB0_5 := B0.out.cell 5 (by simp)
  have cB0_6 := B0.out.cell 6 (by simp)
  simp only [List.getD_cons_zero, List.getD_cons_succ] at cB0_0 cB0_1 cB0_2 cB0_3 cB0_4 cB0_5 cB0_6
  go_enter Tryd.func17, Tryd.ntmps17
  go_wp2_with fail
  generalize (w.alloc (.cells #[.int .i64 x0, .int .i64 x1, .int .i64 x2, .int .i64 x3, .int .i64 x4, .int .i64 x5, .int .i64 x6] 25)).alloc (.cells #[.int .i64 0, .int .i64 0] 33) = v0 at *
  go_at_call 37
  have HC := Lib.hid (show C7 _ w.heap.size x0 x1 x2 x3 x4 x5 x6 from ⟨cB0_0, cB0_1, cB0_2, cB0_3, cB0_4, cB0_5, cB0_6⟩)
  (with_reducible refine (code06_any _ x0 x1 x2 x3 x4 x5 x6 ld r _ HC.out).mono ?_)
  rintro e w1 ⟨rfl, rfl⟩
  have HK := codB_bd (okB x0 x1 x2 x3 x4 x5 x6) ld r 100
  obtain ⟨K, hK⟩ : ∃ K, codB (okB x0 x1 x2 x3 x4 x5 x6) ld r 100 = K := ⟨_, rfl⟩
  rw [hK]
  rw [hK] at HK
  have hK2 := Lib.hid hK
  clear hK
  have cB1_0 := B1.out.cell 0 (by simp)
  have cB1_1 := B1.out.cell 1 (by simp)
  simp only [List.getD_cons_zero, List.getD_cons_succ] at cB1_0 cB1_1
  have fB1_0 := B1.out.free 0
  have fB1_1 := B1.out.free 1
  have ltB1 := B1.out.lt
  by_cases hk0 : K = 0
  case neg =>
    have hd : (K != 0) = true := bne_iff_ne.2 hk0
    go_wp2
    refine ret_box (g := w.heap.size + 1) (zs := [0, 0]) (v := .tuple #[.agg #[.int .i64 (0), .int .i64 (0)], .int .i64 (K)]) (by first | with_reducible exact BI.put_2 B1.out _ _ | with_reducible exact (BI.put_2 B1.out _ _).alloc _) rfl ?_ ?_
    · intro W hW
      have e0 := hW.cell 0 (by simp)
      have e1 := hW.cell 1 (by simp)
      simp only [List.getD_cons_zero, List.getD_cons_succ] at e0 e1
      simp [results, Tryd.results17, go_sem, e0, e1]
    · exact ⟨retF_n hK2.out hk0, by repeat' (first | with_reducible exact HB.out | (with_reducible refine gr_set (by dsimp only; omega) ?_) | (with_reducible refine gr_alloc ?_) | (with_reducible refine gr_drewN ?_) | (with_reducible refine gr_drew ?_))⟩
  subst hk0
  obtain ⟨hok, hl, hr, hp⟩ := codB_t hK2.out
  have HOK := Lib.hid hok
  have t1 := tot_bd hok hl
  have t2 := (mom_bd hok hl hr).2.2.2
  have k0 := (okB_t hok).1
  have HT : Hid (∀ w' : World, C7 w' w.heap.size x0 x1 x2 x3 x4 x5 x6 → Calls Tryd.prog 41 #[.pointer (some ⟨w.heap.size, 0, none⟩), .int .i64 ld] w' fun e w'' => e = .returned (.int .i64 (totB x1 x2 x3 x5 ld)) ∧ ∃ q, w'' = w'.drewN q) := fun w' h' => tot06_any _ x0 x1 x2 x3 x4 x5 x6 ld w' h' HOK.out hl
  have HM : Hid (∀ w' : World, C7 w' w.heap.size x0 x1 x2 x3 x4 x5 x6 → Calls Tryd.prog 39 #[.pointer (some ⟨w.heap.size, 0, none⟩), .int .i64 ld, .int .i64 r] w' fun e w'' => e = .returned (.int .i64 (momB x3 x4 x5 x6 ld r)) ∧ ∃ q, w'' = w'.drewN q) := fun w' h' => mom06_any _ x0 x1 x2 x3 x4 x5 x6 ld r w' h' HOK.out hl hr
  clear hok
  generalize htt : totB x1 x2 x3 x5 ld = tt at *
  generalize hmo : momB x3 x4 x5 x6 ld r = mo at *
  have HTT := Lib.hid htt
  have HMO := Lib.hid hmo
  clear htt hmo
  go_wp2_with (first | (go_at_call 41; (with_reducible refine (HT.out _ (by first | with_reducible exact HC.out | with_reducible exact HC.out.drew | with_reducible exact HC.out.drewN | with_reducible exact HC.out.drew.drewN | with_reducible exact HC.out.drewN.drew | with_reducible exact HC.out.drewN.drew.drewN)).mono ?_); rintro e y1 ⟨rfl, q1, rfl⟩) | (go_at_call 39; (with_reducible refine (HM.out _ (by first | with_reducible exact HC.out | with_reducible exact HC.out.drew | with_reducible exact HC.out.drewN | with_reducible exact HC.out.drew.drewN | with_reducible exact HC.out.drewN.drew | with_reducible exact HC.out.drewN.drew.drewN)).mono ?_); rintro e y1 ⟨rfl, q1, rfl⟩) | (go_at_call 40; (with_reducible refine (make06_any _ _ _ (by omega) (by omega)).mono ?_); rintro e y3 ⟨rfl, hb⟩; have hA : Below v0.heap.size v0 y3 := gr_then hb (by repeat' first | exact gr_refl _ | with_reducible assumption | with_reducible apply gr_alloc | with_reducible apply gr_set | with_reducible apply gr_drew | with_reducible apply gr_drewN | exact Nat.le_add_right _ _ | exact Nat.le_refl _ | (refine gr_then (by with_reducible assumption) ?_)); have d0 := keepc hA cB1_0; have d1 := keepc hA cB1_1; have m0 := (B1.out.late hA).free 0; have m1 := (B1.out.late hA).free 1; have lz := hA.size; have HB := Lib.hid (gr_then hA HB.out); have B1 := Lib.hid (B1.out.late hA)))
  go_wp2
  refine ret_box (g := w.heap.size + 1) (zs := [mo.tdiv (gcdI (absI mo) tt), tt / gcdI (absI mo) tt]) (v := .tuple #[.agg #[.int .i64 (mo.tdiv (gcdI (absI mo) tt)), .int .i64 (tt / gcdI (absI mo) tt)], .int .i64 (0)]) (by first | with_reducible exact BI.put_2 B1.out _ _ | with_reducible exact (BI.put_2 B1.out _ _).alloc _) rfl ?_ ?_
  · intro W hW
    have e0 := hW.cell 0 (by simp)
    have e1 := hW.cell 1 (by simp)
    simp only [List.getD_cons_zero, List.getD_cons_succ] at e0 e1
    simp [results, Tryd.results17, go_sem, e0, e1]
  · exact ⟨retF_y hK2.out (by unfold ofA; rw [HMO.out, HTT.out]) (by unfold ofB; rw [HMO.out, HTT.out]), by repeat' (first | with_reducible exact HB.out | (with_reducible refine gr_set (by dsimp only; omega) ?_) | (with_reducible refine gr_alloc ?_) | (with_reducible refine gr_drewN ?_) | (with_reducible refine gr_drew ?_))⟩
set_option maxHeartbeats 8000000 in
set_option maxRecDepth 20000 in
theorem implSf_any (x0 x1 x2 x3 x4 x5 x6 : Int) (ld r : Int) (w : World) : Calls Tryd.prog 12 #[.agg #[.int .i64 x0, .int .i64 x1, .int .i64 x2, .int .i64 x3, .int .i64 x4, .int .i64 x5, .int .i64 x6], .int .i64 ld, .int .i64 r] w fun e w' => e = .returned (.tuple #[.agg #[.int .i64 (zif (sfE (codB (okB x0 x1 x2 x3 x4 x5 x6) ld r 100) (momB x3 x4 x5 x6 ld r)) (ofA ((totB x1 x2 x3 x5 ld) * x0) (2 * absI (momB x3 x4 x5 x6 ld r)))), .int .i64 (zif (sfE (codB (okB x0 x1 x2 x3 x4 x5 x6) ld r 100) (momB x3 x4 x5 x6 ld r)) (ofB ((totB x1 x2 x3 x5 ld) * x0) (2 * absI (momB x3 x4 x5 x6 ld r))))], .int .i64 (sfE (codB (okB x0 x1 x2 x3 x4 x5 x6) ld r 100) (momB x3 x4 x5 x6 ld r))]) ∧ Below w.heap.size w w' := by
  have B0 := Lib.hid (show BI (w.alloc (.cells #[.int .i64 x0, .int .i64 x1, .int .i64 x2, .int .i64 x3, .int .i64 x4, .int .i64 x5, .int .i64 x6] 25)) w.heap.size 25 [x0, x1, x2, x3, x4, x5, x6] from heap_alloc_new w _)
  replace B0 := Lib.hid (B0.out.alloc (.cells #[.int .i64 0, .int .i64 0] 33))
  have B1 := Lib.hid (show BI ((w.alloc (.cells #[.int .i64 x0, .int .i64 x1, .int .i64 x2, .int .i64 x3, .int .i64 x4, .int .i64 x5, .int .i64 x6] 25)).alloc (.cells #[.int .i64 0, .int .i64 0] 33)) (w.heap.size + 1) 33 [0, 0] by have h9 := heap_alloc_new (w.alloc (.cells #[.int .i64 x0, .int .i64 x1, .int .i64 x2, .int .i64 x3, .int .i64 x4, .int .i64 x5, .int .i64 x6] 25)) (.cells #[.int .i64 0, .int .i64 0] 33); rw [World.size_alloc] at h9; exact h9)
  have HB := Lib.hid (show Below w.heap.size w ((w.alloc (.cells #[.int .i64 x0, .int .i64 x1, .int .i64 x2, .int .i64 x3, .int .i64 x4, .int .i64 x5, .int .i64 x6] 25)).alloc (.cells #[.int .i64 0, .int .i64 0] 33)) by repeat' first | exact gr_refl _ | with_reducible assumption | with_reducible apply gr_alloc | with_reducible apply gr_set | with_reducible apply gr_drew | with_reducible apply gr_drewN | exact Nat.le_add_right _ _ | exact Nat.le_refl _ | (refine gr_then (by with_reducible assumption) ?_))
  have cB0_0 := B0.out.cell 0 (by simp)
  have cB0_1 := B0.out.cell 1 (by simp)
  have cB0_2 := B0.out.cell 2 (by simp)
  have cB0_3 := B0.out.cell 3 (by simp)
  have cB0_4 := B0.out.cell 4 (by simp)
  have cB0_5 := B0.out.cell 5 (by simp)
  have cB0_6 := B0.out.cell 6 (by simp)
  simp only [List.getD_cons_zero, List.getD_cons_succ] at cB0_0 cB0_1 cB0_2 cB0_3 cB0_4 cB0_5 cB0_6
  go_enter Tryd.func12, Tryd.ntmps12
  go_wp2_with fail
  generalize (w.alloc (.cells #[.int .i64 x0, .int .i64 x1, .int .i64 x2, .int .i64 x3, .int .i64 x4, .int .i64 x5, .int .i64 x6] 25)).alloc (.cells #[.int .i64 0, .int .i64 0] 33) = v0 at *
  go_at_call 28
  (with_reducible refine (baseCode_any x0 x1 x2 x3 x4 x5 x6 ld r 100 _).mono ?_)
  rintro e w1 ⟨rfl, hb⟩
  clear cB0_0 cB0_1 cB0_2 cB0_3 cB0_4 cB0_5 cB0_6
  replace B0 := Lib.hid (B0.out.late hb)
  replace B1 := Lib.hid (B1.out.late hb)
  replace HB := Lib.hid (gr_then hb HB.out)
  clear hb
  have HK := codB_bd (okB x0 x1 x2 x3 x4 x5 x6) ld r 100
  obtain ⟨K, hK⟩ : ∃ K, codB (okB x0 x1 x2 x3 x4 x5 x6) ld r 100 = K := ⟨_, rfl⟩
  rw [hK]
  rw [hK] at HK
  have hK2 := Lib.hid hK
  clear hK
  have cB1_0 := B1.out.cell 0 (by simp)
  have cB1_1 := B1.out.cell 1 (by simp)
  simp only [List.getD_cons_zero, List.getD_cons_succ] at cB1_0 cB1_1
  have fB1_0 := B1.out.free 0
  have fB1_1 := B1.out.free 1
  have ltB1 := B1.out.lt
  by_cases hk0 : K = 0
  case neg =>
    have hd : (K != 0) = true := bne_iff_ne.2 hk0
    go_wp2
    refine ret_box (g := w.heap.size + 1) (zs := [0, 0]) (v := .tuple #[.agg #[.int .i64 (0), .int .i64 (0)], .int .i64 (K)]) (by first | with_reducible exact BI.put_2 B1.out _ _ | with_reducible exact (BI.put_2 B1.out _ _).alloc _) rfl ?_ ?_
    · intro W hW
      have e0 := hW.cell 0 (by simp)
      have e1 := hW.cell 1 (by simp)
      simp only [List.getD_cons_zero, List.getD_cons_succ] at e0 e1
      simp [results, Tryd.results12, go_sem, e0, e1]
    · exact ⟨retF_n (sfE_n hK2.out hk0) hk0, by repeat' (first | with_reducible exact HB.out | (with_reducible refine gr_set (by dsimp only; omega) ?_) | (with_reducible refine gr_alloc ?_) | (with_reducible refine gr_drewN ?_) | (with_reducible refine gr_drew ?_))⟩
  subst hk0
  obtain ⟨hok, hl, hr, hp⟩ := codB_t hK2.out
  have HOK := Lib.hid hok
  have t1 := tot_bd hok hl
  have t2 := (mom_bd hok hl hr).2.2.2
  have k0 := (okB_t hok).1
  have HT : Hid (∀ w' : World, Calls Tryd.prog 32 #[.agg #[.int .i64 x0, .int .i64 x1, .int .i64 x2, .int .i64 x3, .int .i64 x4, .int .i64 x5, .int .i64 x6], .int .i64 ld] w' fun e w'' => e = .returned (.int .i64 (totB x1 x2 x3 x5 ld)) ∧ Below w'.heap.size w' w'') := fun w' => total_any x0 x1 x2 x3 x4 x5 x6 ld w' HOK.out hl
  have HM : Hid (∀ w' : World, Calls Tryd.prog 31 #[.agg #[.int .i64 x0, .int .i64 x1, .int .i64 x2, .int .i64 x3, .int .i64 x4, .int .i64 x5, .int .i64 x6], .int .i64 ld, .int .i64 r] w' fun e w'' => e = .returned (.int .i64 (momB x3 x4 x5 x6 ld r)) ∧ Below w'.heap.size w' w'') := fun w' => moment_any x0 x1 x2 x3 x4 x5 x6 ld r w' HOK.out hl hr
  clear hok
  generalize htt : totB x1 x2 x3 x5 ld = tt at *
  generalize hmo : momB x3 x4 x5 x6 ld r = mo at *
  have HTT := Lib.hid htt
  have HMO := Lib.hid hmo
  clear htt hmo
  have ha := abs_bd (x := mo) (A := 550000000) (by omega)
  have hp0 := mul_bd (a := tt) (b := x0) (A := 2050000) (B := 200) (by omega) (by omega) (by omega) (by omega)
  have hw1 : IntKind.i64.wrap (tt * x0) = tt * x0 := IntWalk.i64_in _ (by omega)
  have hw2 : IntKind.i64.wrap (2 * absI mo) = 2 * absI mo := IntWalk.i64_in _ (by omega)
  have cB0_0 := B0.out.cell 0 (by simp)
  have cB0_1 := B0.out.cell 1 (by simp)
  have cB0_2 := B0.out.cell 2 (by simp)
  have cB0_3 := B0.out.cell 3 (by simp)
  have cB0_4 := B0.out.cell 4 (by simp)
  have cB0_5 := B0.out.cell 5 (by simp)
  have cB0_6 := B0.out.cell 6 (by simp)
  simp only [List.getD_cons_zero, List.getD_cons_succ] at cB0_0 cB0_1 cB0_2 cB0_3 cB0_4 cB0_5 cB0_6
  go_wp2_with fail
  go_at_call 31
  (with_reducible refine (HM.out _).mono ?_)
  rintro e w2 ⟨rfl, hb⟩
  clear cB0_0 cB0_1 cB0_2 cB0_3 cB0_4 cB0_5 cB0_6 cB1_0 cB1_1 fB1_0 fB1_1 ltB1
  replace B0 := Lib.hid (B0.out.late hb)
  replace B1 := Lib.hid (B1.out.late hb)
  replace HB := Lib.hid (gr_then hb HB.out)
  clear hb
  have cB0_0 := B0.out.cell 0 (by simp)
  have cB0_1 := B0.out.cell 1 (by simp)
  have cB0_2 := B0.out.cell 2 (by simp)
  have cB0_3 := B0.out.cell 3 (by simp)
  have cB0_4 := B0.out.cell 4 (by simp)
  have cB0_5 := B0.out.cell 5 (by simp)
  have cB0_6 := B0.out.cell 6 (by simp)
  simp only [List.getD_cons_zero, List.getD_cons_succ] at cB0_0 cB0_1 cB0_2 cB0_3 cB0_4 cB0_5 cB0_6
  have cB1_0 := B1.out.cell 0 (by simp)
  have cB1_1 := B1.out.cell 1 (by simp)
  simp only [List.getD_cons_zero, List.getD_cons_succ] at cB1_0 cB1_1
  have fB1_0 := B1.out.free 0
  have fB1_1 := B1.out.free 1
  have ltB1 := B1.out.lt
  go_wp2_with fail
  go_at_call 30
  (with_reducible refine (abs_any _ _ (by omega)).mono ?_)
  rintro e w3 ⟨rfl, rfl⟩
  by_cases hm0 : absI mo = 0
  case pos =>
    have hsf := Lib.hid (sfE_0 (mo := mo) hK2.out hm0)
    have hde : (absI mo == 0) = true := beq_iff_eq.2 hm0
    go_wp2
    refine ret_box (g := w.heap.size + 1) (zs := [0, 0]) (v := .tuple #[.agg #[.int .i64 (0), .int .i64 (0)], .int .i64 (6)]) (by first | with_reducible exact BI.put_2 B1.out _ _ | with_reducible exact (BI.put_2 B1.out _ _).alloc _) rfl ?_ ?_
    · intro W hW
      have e0 := hW.cell 0 (by simp)
      have e1 := hW.cell 1 (by simp)
      simp only [List.getD_cons_zero, List.getD_cons_succ] at e0 e1
      simp [results, Tryd.results12, go_sem, e0, e1]
    · exact ⟨retF_n (by rw [HMO.out]; exact hsf.out) (by decide), by repeat' (first | with_reducible exact HB.out | (with_reducible refine gr_set (by dsimp only; omega) ?_) | (with_reducible refine gr_alloc ?_) | (with_reducible refine gr_drewN ?_) | (with_reducible refine gr_drew ?_))⟩
  have hsf := Lib.hid (sfE_y (mo := mo) hK2.out hm0)
  have hde : (absI mo == 0) = false := beq_eq_false_iff_ne.2 hm0
  go_wp2
  have hA : Below w2.heap.size w2 w2 := gr_refl _
  go_region_held3 (fun w' => w'.cell? ⟨w.heap.size, 0, none⟩ = some (.int .i64 x0) ∧ w'.cell? ⟨w.heap.size, 1, none⟩ = some (.int .i64 x1) ∧ w'.cell? ⟨w.heap.size, 2, none⟩ = some (.int .i64 x2) ∧ w'.cell? ⟨w.heap.size, 3, none⟩ = some (.int .i64 x3) ∧ w'.cell? ⟨w.heap.size, 4, none⟩ = some (.int .i64 x4) ∧ w'.cell? ⟨w.heap.size, 5, none⟩ = some (.int .i64 x5) ∧ w'.cell? ⟨w.heap.size, 6, none⟩ = some (.int .i64 x6)) (first | with_reducible exact ⟨cB0_0, cB0_1, cB0_2, cB0_3, cB0_4, cB0_5, cB0_6⟩ | with_reducible exact ⟨drewc cB0_0, drewc cB0_1, drewc cB0_2, drewc cB0_3, drewc cB0_4, drewc cB0_5, drewc cB0_6⟩ | with_reducible exact ⟨(keepc hA cB0_0), (keepc hA cB0_1), (keepc hA cB0_2), (keepc hA cB0_3), (keepc hA cB0_4), (keepc hA cB0_5), (keepc hA cB0_6)⟩ | with_reducible exact ⟨(setfar (p := ⟨_, 1, none⟩) (setfar (p := ⟨_, 0, none⟩) (keepc hA cB0_0) (by dsimp only; omega)) (by dsimp only; omega)), (setfar (p := ⟨_, 1, none⟩) (setfar (p := ⟨_, 0, none⟩) (keepc hA cB0_1) (by dsimp only; omega)) (by dsimp only; omega)), (setfar (p := ⟨_, 1, none⟩) (setfar (p := ⟨_, 0, none⟩) (keepc hA cB0_2) (by dsimp only; omega)) (by dsimp only; omega)), (setfar (p := ⟨_, 1, none⟩) (setfar (p := ⟨_, 0, none⟩) (keepc hA cB0_3) (by dsimp only; omega)) (by dsimp only; omega)), (setfar (p := ⟨_, 1, none⟩) (setfar (p := ⟨_, 0, none⟩) (keepc hA cB0_4) (by dsimp only; omega)) (by dsimp only; omega)), (setfar (p := ⟨_, 1, none⟩) (setfar (p := ⟨_, 0, none⟩) (keepc hA cB0_5) (by dsimp only; omega)) (by dsimp only; omega)), (setfar (p := ⟨_, 1, none⟩) (setfar (p := ⟨_, 0, none⟩) (keepc hA cB0_6) (by dsimp only; omega)) (by dsimp only; omega))⟩ | exact ⟨cB0_0, cB0_1, cB0_2, cB0_3, cB0_4, cB0_5, cB0_6⟩) (first | (go_at_call 32; (with_reducible refine (HT.out _).mono ?_); rintro e y1 ⟨rfl, hb⟩; have hA : Below w2.heap.size w2 y1 := gr_then hb (by repeat' first | exact gr_refl _ | with_reducible assumption | with_reducible apply gr_alloc | with_reducible apply gr_set | with_reducible apply gr_drew | with_reducible apply gr_drewN | exact Nat.le_add_right _ _ | exact Nat.le_refl _ | (refine gr_then (by with_reducible assumption) ?_))) | (go_at_call 31; (with_reducible refine (HM.out _).mono ?_); rintro e y2 ⟨rfl, hb⟩; have hA : Below w2.heap.size w2 y2 := gr_then hb (by repeat' first | exact gr_refl _ | with_reducible assumption | with_reducible apply gr_alloc | with_reducible apply gr_set | with_reducible apply gr_drew | with_reducible apply gr_drewN | exact Nat.le_add_right _ _ | exact Nat.le_refl _ | (refine gr_then (by with_reducible assumption) ?_))) | (go_at_call 36; (with_reducible refine (reduced_any _ _ _ (by omega) (by omega)).mono ?_); rintro e y3 ⟨rfl, hb⟩; have hA : Below w2.heap.size w2 y3 := gr_then hb (by repeat' first | exact gr_refl _ | with_reducible assumption | with_reducible apply gr_alloc | with_reducible apply gr_set | with_reducible apply gr_drew | with_reducible apply gr_drewN | exact Nat.le_add_right _ _ | exact Nat.le_refl _ | (refine gr_then (by with_reducible assumption) ?_)); have d0 := keepc hA cB1_0; have d1 := keepc hA cB1_1; have m0 := (B1.out.late hA).free 0; have m1 := (B1.out.late hA).free 1; have lz := hA.size))
  replace B1 := Lib.hid (B1.out.late hA)
  replace HB := Lib.hid (gr_then hA HB.out)
  go_wp2
  refine ret_box (g := w.heap.size + 1) (zs := [(tt * x0).tdiv (gcdI (absI (tt * x0)) (2 * absI mo)), 2 * absI mo / gcdI (absI (tt * x0)) (2 * absI mo)]) (v := .tuple #[.agg #[.int .i64 ((tt * x0).tdiv (gcdI (absI (tt * x0)) (2 * absI mo))), .int .i64 (2 * absI mo / gcdI (absI (tt * x0)) (2 * absI mo))], .int .i64 (0)]) (by first | with_reducible exact BI.put_2 B1.out _ _ | with_reducible exact (BI.put_2 B1.out _ _).alloc _) rfl ?_ ?_
  · intro W hW
    have e0 := hW.cell 0 (by simp)
    have e1 := hW.cell 1 (by simp)
    simp only [List.getD_cons_zero, List.getD_cons_succ] at e0 e1
    simp [results, Tryd.results12, go_sem, e0, e1]
  · exact ⟨retF_y (by rw [HMO.out]; exact hsf.out) (by unfold ofA; rw [HMO.out, HTT.out]) (by unfold ofB; rw [HMO.out, HTT.out]), by repeat' (first | with_reducible exact HB.out | (with_reducible refine gr_set (by dsimp only; omega) ?_) | (with_reducible refine gr_alloc ?_) | (with_reducible refine gr_drewN ?_) | (with_reducible refine gr_drew ?_))⟩
set_option maxHeartbeats 8000000 in
set_option maxRecDepth 20000 in
theorem specSf_any (x0 x1 x2 x3 x4 x5 x6 : Int) (ld r : Int) (w : World) : Calls Tryd.prog 13 #[.agg #[.int .i64 x0, .int .i64 x1, .int .i64 x2, .int .i64 x3, .int .i64 x4, .int .i64 x5, .int .i64 x6], .int .i64 ld, .int .i64 r] w fun e w' => e = .returned (.tuple #[.agg #[.int .i64 (zif (sfE (codB (okB x0 x1 x2 x3 x4 x5 x6) ld r 100) (momB x3 x4 x5 x6 ld r)) (ofA ((totB x1 x2 x3 x5 ld) * x0) (2 * absI (momB x3 x4 x5 x6 ld r)))), .int .i64 (zif (sfE (codB (okB x0 x1 x2 x3 x4 x5 x6) ld r 100) (momB x3 x4 x5 x6 ld r)) (ofB ((totB x1 x2 x3 x5 ld) * x0) (2 * absI (momB x3 x4 x5 x6 ld r))))], .int .i64 (sfE (codB (okB x0 x1 x2 x3 x4 x5 x6) ld r 100) (momB x3 x4 x5 x6 ld r))]) ∧ Below w.heap.size w w' := by
  have B0 := Lib.hid (show BI (w.alloc (.cells #[.int .i64 x0, .int .i64 x1, .int .i64 x2, .int .i64 x3, .int .i64 x4, .int .i64 x5, .int .i64 x6] 25)) w.heap.size 25 [x0, x1, x2, x3, x4, x5, x6] from heap_alloc_new w _)
  replace B0 := Lib.hid (B0.out.alloc (.cells #[.int .i64 0, .int .i64 0] 33))
  have B1 := Lib.hid (show BI ((w.alloc (.cells #[.int .i64 x0, .int .i64 x1, .int .i64 x2, .int .i64 x3, .int .i64 x4, .int .i64 x5, .int .i64 x6] 25)).alloc (.cells #[.int .i64 0, .int .i64 0] 33)) (w.heap.size + 1) 33 [0, 0] by have h9 := heap_alloc_new (w.alloc (.cells #[.int .i64 x0, .int .i64 x1, .int .i64 x2, .int .i64 x3, .int .i64 x4, .int .i64 x5, .int .i64 x6] 25)) (.cells #[.int .i64 0, .int .i64 0] 33); rw [World.size_alloc] at h9; exact h9)
  have HB := Lib.hid (show Below w.heap.size w ((w.alloc (.cells #[.int .i64 x0, .int .i64 x1, .int .i64 x2, .int .i64 x3, .int .i64 x4, .int .i64 x5, .int .i64 x6] 25)).alloc (.cells #[.int .i64 0, .int .i64 0] 33)) by repeat' first | exact gr_refl _ | with_reducible assumption | with_reducible apply gr_alloc | with_reducible apply gr_set | with_reducible apply gr_drew | with_reducible apply gr_drewN | exact Nat.le_add_right _ _ | exact Nat.le_refl _ | (refine gr_then (by with_reducible assumption) ?_))
  have cB0_0 := B0.out.cell 0 (by simp)
  have cB0_1 := B0.out.cell 1 (by simp)
  have cB0_2 := B0.out.cell 2 (by simp)
  have cB0_3 := B0.out.cell 3 (by simp)
  have cB0_4 := B0.out.cell 4 (by simp)
  have cB0_5 := B0.out.cell 5 (by simp)
  have cB0_6 := B0.out.cell 6 (by simp)
  simp only [List.getD_cons_zero, List.getD_cons_succ] at cB0_0 cB0_1 cB0_2 cB0_3 cB0_4 cB0_5 cB0_6
  go_enter Tryd.func13, Tryd.ntmps13
  go_wp2_with fail
  generalize (w.alloc (.cells #[.int .i64 x0, .int .i64 x1, .int .i64 x2, .int .i64 x3, .int .i64 x4, .int .i64 x5, .int .i64 x6] 25)).alloc (.cells #[.int .i64 0, .int .i64 0] 33) = v0 at *
  go_at_call 37
  have HC := Lib.hid (show C7 _ w.heap.size x0 x1 x2 x3 x4 x5 x6 from ⟨cB0_0, cB0_1, cB0_2, cB0_3, cB0_4, cB0_5, cB0_6⟩)
  (with_reducible refine (code06_any _ x0 x1 x2 x3 x4 x5 x6 ld r _ HC.out).mono ?_)
  rintro e w1 ⟨rfl, rfl⟩
  have HK := codB_bd (okB x0 x1 x2 x3 x4 x5 x6) ld r 100
  obtain ⟨K, hK⟩ : ∃ K, codB (okB x0 x1 x2 x3 x4 x5 x6) ld r 100 = K := ⟨_, rfl⟩
  rw [hK]
  rw [hK] at HK
  have hK2 := Lib.hid hK
  clear hK
  have cB1_0 := B1.out.cell 0 (by simp)
  have cB1_1 := B1.out.cell 1 (by simp)
  simp only [List.getD_cons_zero, List.getD_cons_succ] at cB1_0 cB1_1
  have fB1_0 := B1.out.free 0
  have fB1_1 := B1.out.free 1
  have ltB1 := B1.out.lt
  by_cases hk0 : K = 0
  case neg =>
    have hd : (K != 0) = true := bne_iff_ne.2 hk0
    go_wp2
    refine ret_box (g := w.heap.size + 1) (zs := [0, 0]) (v := .tuple #[.agg #[.int .i64 (0), .int .i64 (0)], .int .i64 (K)]) (by first | with_reducible exact BI.put_2 B1.out _ _ | with_reducible exact (BI.put_2 B1.out _ _).alloc _) rfl ?_ ?_
    · intro W hW
      have e0 := hW.cell 0 (by simp)
      have e1 := hW.cell 1 (by simp)
      simp only [List.getD_cons_zero, List.getD_cons_succ] at e0 e1
      simp [results, Tryd.results13, go_sem, e0, e1]
    · exact ⟨retF_n (sfE_n hK2.out hk0) hk0, by repeat' (first | with_reducible exact HB.out | (with_reducible refine gr_set (by dsimp only; omega) ?_) | (with_reducible refine gr_alloc ?_) | (with_reducible refine gr_drewN ?_) | (with_reducible refine gr_drew ?_))⟩
  subst hk0
  obtain ⟨hok, hl, hr, hp⟩ := codB_t hK2.out
  have HOK := Lib.hid hok
  have t1 := tot_bd hok hl
  have t2 := (mom_bd hok hl hr).2.2.2
  have k0 := (okB_t hok).1
  have HT : Hid (∀ w' : World, C7 w' w.heap.size x0 x1 x2 x3 x4 x5 x6 → Calls Tryd.prog 41 #[.pointer (some ⟨w.heap.size, 0, none⟩), .int .i64 ld] w' fun e w'' => e = .returned (.int .i64 (totB x1 x2 x3 x5 ld)) ∧ ∃ q, w'' = w'.drewN q) := fun w' h' => tot06_any _ x0 x1 x2 x3 x4 x5 x6 ld w' h' HOK.out hl
  have HM : Hid (∀ w' : World, C7 w' w.heap.size x0 x1 x2 x3 x4 x5 x6 → Calls Tryd.prog 39 #[.pointer (some ⟨w.heap.size, 0, none⟩), .int .i64 ld, .int .i64 r] w' fun e w'' => e = .returned (.int .i64 (momB x3 x4 x5 x6 ld r)) ∧ ∃ q, w'' = w'.drewN q) := fun w' h' => mom06_any _ x0 x1 x2 x3 x4 x5 x6 ld r w' h' HOK.out hl hr
  clear hok
  generalize htt : totB x1 x2 x3 x5 ld = tt at *
  generalize hmo : momB x3 x4 x5 x6 ld r = mo at *
  have HTT := Lib.hid htt
  have HMO := Lib.hid hmo
  clear htt hmo
  have ha := abs_bd (x := mo) (A := 550000000) (by omega)
  have hp0 := mul_bd (a := tt) (b := x0) (A := 2050000) (B := 200) (by omega) (by omega) (by omega) (by omega)
  have hw1 : IntKind.i64.wrap (tt * x0) = tt * x0 := IntWalk.i64_in _ (by omega)
  have hw2 : IntKind.i64.wrap (2 * absI mo) = 2 * absI mo := IntWalk.i64_in _ (by omega)
  go_wp2_with fail
  go_at_call 39
  (with_reducible refine (HM.out _ HC.out).mono ?_)
  rintro e w2 ⟨rfl, q, rfl⟩
  replace HC := Lib.hid (HC.out.drewN (n := q))
  replace HB := Lib.hid (gr_drewN (n := q) HB.out)
  replace B1 := Lib.hid (show BI (v0.drewN q) _ _ _ from B1.out)
  replace cB0_0 : (v0.drewN q).cell? _ = _ := cB0_0
  replace cB0_1 : (v0.drewN q).cell? _ = _ := cB0_1
  replace cB0_2 : (v0.drewN q).cell? _ = _ := cB0_2
  replace cB0_3 : (v0.drewN q).cell? _ = _ := cB0_3
  replace cB0_4 : (v0.drewN q).cell? _ = _ := cB0_4
  replace cB0_5 : (v0.drewN q).cell? _ = _ := cB0_5
  replace cB0_6 : (v0.drewN q).cell? _ = _ := cB0_6
  replace cB1_0 : (v0.drewN q).cell? _ = _ := cB1_0
  replace fB1_0 : (v0.drewN q).frozen? _ = _ := fB1_0
  replace cB1_1 : (v0.drewN q).cell? _ = _ := cB1_1
  replace fB1_1 : (v0.drewN q).frozen? _ = _ := fB1_1
  go_wp2_with fail
  go_at_call 38
  (with_reducible refine (size06_any _ _ (by omega)).mono ?_)
  rintro e w3 ⟨rfl, rfl⟩
  generalize v0.drewN q = w2 at *
  by_cases hm0 : absI mo = 0
  case pos =>
    have hsf := Lib.hid (sfE_0 (mo := mo) hK2.out hm0)
    have hde : (absI mo == 0) = true := beq_iff_eq.2 hm0
    go_wp2
    refine ret_box (g := w.heap.size + 1) (zs := [0, 0]) (v := .tuple #[.agg #[.int .i64 (0), .int .i64 (0)], .int .i64 (6)]) (by first | with_reducible exact BI.put_2 B1.out _ _ | with_reducible exact (BI.put_2 B1.out _ _).alloc _) rfl ?_ ?_
    · intro W hW
      have e0 := hW.cell 0 (by simp)
      have e1 := hW.cell 1 (by simp)
      simp only [List.getD_cons_zero, List.getD_cons_succ] at e0 e1
      simp [results, Tryd.results13, go_sem, e0, e1]
    · exact ⟨retF_n (by rw [HMO.out]; exact hsf.out) (by decide), by repeat' (first | with_reducible exact HB.out | (with_reducible refine gr_set (by dsimp only; omega) ?_) | (with_reducible refine gr_alloc ?_) | (with_reducible refine gr_drewN ?_) | (with_reducible refine gr_drew ?_))⟩
  have hsf := Lib.hid (sfE_y (mo := mo) hK2.out hm0)
  have hde : (absI mo == 0) = false := beq_eq_false_iff_ne.2 hm0
  go_wp2
  have hA : Below w2.heap.size w2 w2 := gr_refl _
  go_region_held3 (fun w' => w'.cell? ⟨w.heap.size, 0, none⟩ = some (.int .i64 x0) ∧ w'.cell? ⟨w.heap.size, 1, none⟩ = some (.int .i64 x1) ∧ w'.cell? ⟨w.heap.size, 2, none⟩ = some (.int .i64 x2) ∧ w'.cell? ⟨w.heap.size, 3, none⟩ = some (.int .i64 x3) ∧ w'.cell? ⟨w.heap.size, 4, none⟩ = some (.int .i64 x4) ∧ w'.cell? ⟨w.heap.size, 5, none⟩ = some (.int .i64 x5) ∧ w'.cell? ⟨w.heap.size, 6, none⟩ = some (.int .i64 x6)) (first | with_reducible exact ⟨cB0_0, cB0_1, cB0_2, cB0_3, cB0_4, cB0_5, cB0_6⟩ | with_reducible exact ⟨drewc cB0_0, drewc cB0_1, drewc cB0_2, drewc cB0_3, drewc cB0_4, drewc cB0_5, drewc cB0_6⟩ | with_reducible exact ⟨(keepc hA cB0_0), (keepc hA cB0_1), (keepc hA cB0_2), (keepc hA cB0_3), (keepc hA cB0_4), (keepc hA cB0_5), (keepc hA cB0_6)⟩ | with_reducible exact ⟨(setfar (p := ⟨_, 1, none⟩) (setfar (p := ⟨_, 0, none⟩) (keepc hA cB0_0) (by dsimp only; omega)) (by dsimp only; omega)), (setfar (p := ⟨_, 1, none⟩) (setfar (p := ⟨_, 0, none⟩) (keepc hA cB0_1) (by dsimp only; omega)) (by dsimp only; omega)), (setfar (p := ⟨_, 1, none⟩) (setfar (p := ⟨_, 0, none⟩) (keepc hA cB0_2) (by dsimp only; omega)) (by dsimp only; omega)), (setfar (p := ⟨_, 1, none⟩) (setfar (p := ⟨_, 0, none⟩) (keepc hA cB0_3) (by dsimp only; omega)) (by dsimp only; omega)), (setfar (p := ⟨_, 1, none⟩) (setfar (p := ⟨_, 0, none⟩) (keepc hA cB0_4) (by dsimp only; omega)) (by dsimp only; omega)), (setfar (p := ⟨_, 1, none⟩) (setfar (p := ⟨_, 0, none⟩) (keepc hA cB0_5) (by dsimp only; omega)) (by dsimp only; omega)), (setfar (p := ⟨_, 1, none⟩) (setfar (p := ⟨_, 0, none⟩) (keepc hA cB0_6) (by dsimp only; omega)) (by dsimp only; omega))⟩ | exact ⟨cB0_0, cB0_1, cB0_2, cB0_3, cB0_4, cB0_5, cB0_6⟩) (first | (go_at_call 41; (with_reducible refine (HT.out _ (by first | with_reducible exact HC.out | with_reducible exact HC.out.drew | with_reducible exact HC.out.drewN | with_reducible exact HC.out.drew.drewN | with_reducible exact HC.out.drewN.drew | with_reducible exact HC.out.drewN.drew.drewN)).mono ?_); rintro e y1 ⟨rfl, q1, rfl⟩) | (go_at_call 39; (with_reducible refine (HM.out _ (by first | with_reducible exact HC.out | with_reducible exact HC.out.drew | with_reducible exact HC.out.drewN | with_reducible exact HC.out.drew.drewN | with_reducible exact HC.out.drewN.drew | with_reducible exact HC.out.drewN.drew.drewN)).mono ?_); rintro e y1 ⟨rfl, q1, rfl⟩) | (go_at_call 40; (with_reducible refine (make06_any _ _ _ (by omega) (by omega)).mono ?_); rintro e y3 ⟨rfl, hb⟩; have hA : Below w2.heap.size w2 y3 := gr_then hb (by repeat' first | exact gr_refl _ | with_reducible assumption | with_reducible apply gr_alloc | with_reducible apply gr_set | with_reducible apply gr_drew | with_reducible apply gr_drewN | exact Nat.le_add_right _ _ | exact Nat.le_refl _ | (refine gr_then (by with_reducible assumption) ?_)); have d0 := keepc hA cB1_0; have d1 := keepc hA cB1_1; have m0 := (B1.out.late hA).free 0; have m1 := (B1.out.late hA).free 1; have lz := hA.size))
  replace B1 := Lib.hid (B1.out.late hA)
  replace HB := Lib.hid (gr_then hA HB.out)
  go_wp2
  refine ret_box (g := w.heap.size + 1) (zs := [(tt * x0).tdiv (gcdI (absI (tt * x0)) (2 * absI mo)), 2 * absI mo / gcdI (absI (tt * x0)) (2 * absI mo)]) (v := .tuple #[.agg #[.int .i64 ((tt * x0).tdiv (gcdI (absI (tt * x0)) (2 * absI mo))), .int .i64 (2 * absI mo / gcdI (absI (tt * x0)) (2 * absI mo))], .int .i64 (0)]) (by first | with_reducible exact BI.put_2 B1.out _ _ | with_reducible exact (BI.put_2 B1.out _ _).alloc _) rfl ?_ ?_
  · intro W hW
    have e0 := hW.cell 0 (by simp)
    have e1 := hW.cell 1 (by simp)
    simp only [List.getD_cons_zero, List.getD_cons_succ] at e0 e1
    simp [results, Tryd.results13, go_sem, e0, e1]
  · exact ⟨retF_y (by rw [HMO.out]; exact hsf.out) (by unfold ofA; rw [HMO.out, HTT.out]) (by unfold ofB; rw [HMO.out, HTT.out]), by repeat' (first | with_reducible exact HB.out | (with_reducible refine gr_set (by dsimp only; omega) ?_) | (with_reducible refine gr_alloc ?_) | (with_reducible refine gr_drewN ?_) | (with_reducible refine gr_drew ?_))⟩
end Go.Proofs.YtmalbgbmapfiiaaDoor
