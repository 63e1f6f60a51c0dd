/- The vectors of the directions, points at a radius in a direction, both sides. -/
import Derived.Test.YtbdhmadgflmhmaaDoorTurns
import Derived.Test.YtbdhmadgflmhmaaDoorOwn
import Derived.Test.YtbdhmadgflmhmaaDoorApp
import Derived.BigQuiet
import Derived.Test.YtbdhmadgflmhmaaDoorQuar
namespace Go.Proofs.YtbdhmadgflmhmaaDoor
open Go.RowKit Go.Deep
def vxL : List Int := [1000, 966, 866, 707, 500, 259, 0, -259, -500, -707, -866, -966, -1000, -966, -866, -707, -500, -259, 0, 259, 500, 707, 866, 966]
def vyL : List Int := [0, 259, 500, 707, 866, 966, 1000, 966, 866, 707, 500, 259, 0, -259, -500, -707, -866, -966, -1000, -966, -866, -707, -500, -259]
def vX (d : Int) : Int := vxL.getD d.toNat 0
def vY (d : Int) : Int := vyL.getD d.toNat 0
theorem vXY_bd (d : Int) : (-1000 ≤ vX d ∧ vX d ≤ 1000) ∧ (-1000 ≤ vY d ∧ vY d ≤ 1000) := by
  unfold vX vY
  generalize d.toNat = n
  by_cases h : n < 24
  · have : ∀ m < 24, (-1000 ≤ vxL.getD m 0 ∧ vxL.getD m 0 ≤ 1000) ∧ (-1000 ≤ vyL.getD m 0 ∧ vyL.getD m 0 ≤ 1000) := by decide
    exact this n h
  · rw [List.getD_eq_getElem?_getD, List.getD_eq_getElem?_getD, List.getElem?_eq_none (by simp [vxL]; omega), List.getElem?_eq_none (by simp [vyL]; omega)]; simp
def finX (j : Nat) (x y : Int) : Int := if j < 6 then x else if j < 12 then -y else if j < 18 then -x else y
def finY (j : Nat) (x y : Int) : Int := if j < 6 then y else if j < 12 then x else if j < 18 then -y else -x
theorem fin_next {j : Nat} (x y : Int) (h : 6 ≤ j ∧ j ≤ 23) : finX (j - 6) (-y) x = finX j x y ∧ finY (j - 6) (-y) x = finY j x y := by
  unfold finX finY
  split <;> split <;> (repeat' split) <;> constructor <;> (first | omega | rfl)
theorem fin_end {j : Nat} (x y : Int) (h : j < 6) : finX j x y = x ∧ finY j x y = y := ⟨if_pos h, if_pos h⟩
theorem fin_start0 {n : Nat} (h : n ≤ 23) (hr : n % 6 = 0) : finX n 1000 0 = vX n ∧ finY n 1000 0 = vY n := by
  have : ∀ m < 24, m % 6 = 0 → finX m 1000 0 = vxL.getD m 0 ∧ finY m 1000 0 = vyL.getD m 0 := by decide
  exact this n (by omega) hr
theorem fin_start1 {n : Nat} (h : n ≤ 23) (hr : n % 6 = 1) : finX n 966 259 = vX n ∧ finY n 966 259 = vY n := by
  have : ∀ m < 24, m % 6 = 1 → finX m 966 259 = vxL.getD m 0 ∧ finY m 966 259 = vyL.getD m 0 := by decide
  exact this n (by omega) hr
theorem fin_start2 {n : Nat} (h : n ≤ 23) (hr : n % 6 = 2) : finX n 866 500 = vX n ∧ finY n 866 500 = vY n := by
  have : ∀ m < 24, m % 6 = 2 → finX m 866 500 = vxL.getD m 0 ∧ finY m 866 500 = vyL.getD m 0 := by decide
  exact this n (by omega) hr
theorem fin_start3 {n : Nat} (h : n ≤ 23) (hr : n % 6 = 3) : finX n 707 707 = vX n ∧ finY n 707 707 = vY n := by
  have : ∀ m < 24, m % 6 = 3 → finX m 707 707 = vxL.getD m 0 ∧ finY m 707 707 = vyL.getD m 0 := by decide
  exact this n (by omega) hr
theorem fin_start4 {n : Nat} (h : n ≤ 23) (hr : n % 6 = 4) : finX n 500 866 = vX n ∧ finY n 500 866 = vY n := by
  have : ∀ m < 24, m % 6 = 4 → finX m 500 866 = vxL.getD m 0 ∧ finY m 500 866 = vyL.getD m 0 := by decide
  exact this n (by omega) hr
theorem fin_start5 {n : Nat} (h : n ≤ 23) (hr : n % 6 = 5) : finX n 259 966 = vX n ∧ finY n 259 966 = vY n := by
  have : ∀ m < 24, m % 6 = 5 → finX m 259 966 = vxL.getD m 0 ∧ finY m 259 966 = vyL.getD m 0 := by decide
  exact this n (by omega) hr
set_option maxHeartbeats 4000000 in
set_option maxRecDepth 20000 in
theorem implVec_any0 (n : Nat) (w : World) (hn : n ≤ 23) (hr : n % 6 = 0) (hQ : Quar w) : Calls Tryd.prog 65 #[.int .i64 (n : Int)] w fun e w' => e = .returned (.agg #[.int .i64 (vX n), .int .i64 (vY n)]) ∧ Below w.heap.size w w' := by
  have hm : (n : Int).tmod 6 = 0 := by rw [Int.tmod_eq_emod_of_nonneg (by omega)]; omega
  have hG := hQ.1
  obtain ⟨q0, q1⟩ := hQ.2 0 (1000, 0) rfl
  simp only at q0 q1
  clear hQ
  have HFS := Lib.hid (fin_start0 hn hr)
  go_enter Tryd.func65, Tryd.ntmps65
  go_wp2_with fail
  go_loopw [0] (fun dv wr => ∃ (j : Nat) (x y : Int), j ≤ 23 ∧ dv = .int .i64 (j : Int) ∧ (-1000 ≤ x ∧ x ≤ 1000) ∧ (-1000 ≤ y ∧ y ≤ 1000) ∧ Hid (finX j x y = vX n ∧ finY j x y = vY n) ∧ Hid (Box2 wr w.heap.size 28 (.int .i64 0) (.int .i64 0)) ∧ Hid (Box2 wr (w.heap.size + 1) 28 (.int .i64 x) (.int .i64 y)) ∧ Hid (Below w.heap.size w wr)) (fun dv _ => (intOf dv).toNat)
  case atStart =>
    refine ⟨n, 1000, 0, hn, rfl, by omega, by omega, HFS.out, ?_, ?_, Lib.hid (by repeat' first | exact gr_refl _ | with_reducible assumption | with_reducible apply gr_alloc | with_reducible apply gr_set | with_reducible apply gr_drew | with_reducible apply gr_drewN | exact Nat.le_add_right _ _ | exact Nat.le_refl _ | (refine gr_then (by with_reducible assumption) ?_))⟩
    · exact Lib.hid ((Box2.new w 28 (.int .i64 0) (.int .i64 0)).late (gr_alloc (gr_refl _)))
    · have h := Box2.new (w.alloc (.cells #[.int .i64 0, .int .i64 0] 28)) 28 (.int .i64 1000) (.int .i64 0)
      simp only [World.size_alloc] at h
      exact h
  case round =>
    obtain ⟨j, x, y, hj, rfl, hx, hy, HF, HR, HP, HB⟩ := hrel
    have p0 := HP.out.c0
    have p1 := HP.out.c1
    have f0 := HP.out.f0 0
    have f1 := HP.out.f0 1
    have hs := HP.out.lt
    have r0 := HR.out.c0
    have r1 := HR.out.c1
    have g0 := HR.out.f0 0
    have g1 := HR.out.f0 1
    by_cases h6 : 6 ≤ j
    · have hd : decide ((6 : Int) ≤ (j : Int)) = true := decide_eq_true (by omega)
      have FN := Lib.hid (fin_next x y ⟨h6, hj⟩)
      go_wp2_with fail
      go_roundw
      case rel => exact ⟨j - 6, -y, x, by omega, by go_num, by omega, hx, ⟨FN.out.1.trans HF.out.1, FN.out.2.trans HF.out.2⟩, (HR.out.far (by dsimp only; omega) _).far (by dsimp only; omega) _, (HP.out.put0 _).put1 _, gr_set (by dsimp only; omega) (gr_set (by dsimp only; omega) HB.out)⟩
      case measure => simp [intOf]; omega
    · have hd : decide ((6 : Int) ≤ (j : Int)) = false := decide_eq_false (by omega)
      have FE := Lib.hid (fin_end x y (show j < 6 by omega))
      go_wp2_with fail
      refine bodyPost_ret (v := .agg #[.int .i64 x, .int .i64 y]) (by simp [results, Tryd.results65, go_sem, *]) rfl ⟨by rw [← HF.out.1, ← HF.out.2, FE.out.1, FE.out.2], by repeat' (first | exact HB.out | (refine gr_set (by dsimp only; omega) ?_))⟩
set_option maxHeartbeats 4000000 in
set_option maxRecDepth 20000 in
theorem implVec_any1 (n : Nat) (w : World) (hn : n ≤ 23) (hr : n % 6 = 1) (hQ : Quar w) : Calls Tryd.prog 65 #[.int .i64 (n : Int)] w fun e w' => e = .returned (.agg #[.int .i64 (vX n), .int .i64 (vY n)]) ∧ Below w.heap.size w w' := by
  have hm : (n : Int).tmod 6 = 1 := by rw [Int.tmod_eq_emod_of_nonneg (by omega)]; omega
  have hG := hQ.1
  obtain ⟨q0, q1⟩ := hQ.2 1 (966, 259) rfl
  simp only at q0 q1
  clear hQ
  have HFS := Lib.hid (fin_start1 hn hr)
  go_enter Tryd.func65, Tryd.ntmps65
  go_wp2_with fail
  go_loopw [0] (fun dv wr => ∃ (j : Nat) (x y : Int), j ≤ 23 ∧ dv = .int .i64 (j : Int) ∧ (-1000 ≤ x ∧ x ≤ 1000) ∧ (-1000 ≤ y ∧ y ≤ 1000) ∧ Hid (finX j x y = vX n ∧ finY j x y = vY n) ∧ Hid (Box2 wr w.heap.size 28 (.int .i64 0) (.int .i64 0)) ∧ Hid (Box2 wr (w.heap.size + 1) 28 (.int .i64 x) (.int .i64 y)) ∧ Hid (Below w.heap.size w wr)) (fun dv _ => (intOf dv).toNat)
  case atStart =>
    refine ⟨n, 966, 259, hn, rfl, by omega, by omega, HFS.out, ?_, ?_, Lib.hid (by repeat' first | exact gr_refl _ | with_reducible assumption | with_reducible apply gr_alloc | with_reducible apply gr_set | with_reducible apply gr_drew | with_reducible apply gr_drewN | exact Nat.le_add_right _ _ | exact Nat.le_refl _ | (refine gr_then (by with_reducible assumption) ?_))⟩
    · exact Lib.hid ((Box2.new w 28 (.int .i64 0) (.int .i64 0)).late (gr_alloc (gr_refl _)))
    · have h := Box2.new (w.alloc (.cells #[.int .i64 0, .int .i64 0] 28)) 28 (.int .i64 966) (.int .i64 259)
      simp only [World.size_alloc] at h
      exact h
  case round =>
    obtain ⟨j, x, y, hj, rfl, hx, hy, HF, HR, HP, HB⟩ := hrel
    have p0 := HP.out.c0
    have p1 := HP.out.c1
    have f0 := HP.out.f0 0
    have f1 := HP.out.f0 1
    have hs := HP.out.lt
    have r0 := HR.out.c0
    have r1 := HR.out.c1
    have g0 := HR.out.f0 0
    have g1 := HR.out.f0 1
    by_cases h6 : 6 ≤ j
    · have hd : decide ((6 : Int) ≤ (j : Int)) = true := decide_eq_true (by omega)
      have FN := Lib.hid (fin_next x y ⟨h6, hj⟩)
      go_wp2_with fail
      go_roundw
      case rel => exact ⟨j - 6, -y, x, by omega, by go_num, by omega, hx, ⟨FN.out.1.trans HF.out.1, FN.out.2.trans HF.out.2⟩, (HR.out.far (by dsimp only; omega) _).far (by dsimp only; omega) _, (HP.out.put0 _).put1 _, gr_set (by dsimp only; omega) (gr_set (by dsimp only; omega) HB.out)⟩
      case measure => simp [intOf]; omega
    · have hd : decide ((6 : Int) ≤ (j : Int)) = false := decide_eq_false (by omega)
      have FE := Lib.hid (fin_end x y (show j < 6 by omega))
      go_wp2_with fail
      refine bodyPost_ret (v := .agg #[.int .i64 x, .int .i64 y]) (by simp [results, Tryd.results65, go_sem, *]) rfl ⟨by rw [← HF.out.1, ← HF.out.2, FE.out.1, FE.out.2], by repeat' (first | exact HB.out | (refine gr_set (by dsimp only; omega) ?_))⟩
set_option maxHeartbeats 4000000 in
set_option maxRecDepth 20000 in
theorem implVec_any2 (n : Nat) (w : World) (hn : n ≤ 23) (hr : n % 6 = 2) (hQ : Quar w) : Calls Tryd.prog 65 #[.int .i64 (n : Int)] w fun e w' => e = .returned (.agg #[.int .i64 (vX n), .int .i64 (vY n)]) ∧ Below w.heap.size w w' := by
  have hm : (n : Int).tmod 6 = 2 := by rw [Int.tmod_eq_emod_of_nonneg (by omega)]; omega
  have hG := hQ.1
  obtain ⟨q0, q1⟩ := hQ.2 2 (866, 500) rfl
  simp only at q0 q1
  clear hQ
  have HFS := Lib.hid (fin_start2 hn hr)
  go_enter Tryd.func65, Tryd.ntmps65
  go_wp2_with fail
  go_loopw [0] (fun dv wr => ∃ (j : Nat) (x y : Int), j ≤ 23 ∧ dv = .int .i64 (j : Int) ∧ (-1000 ≤ x ∧ x ≤ 1000) ∧ (-1000 ≤ y ∧ y ≤ 1000) ∧ Hid (finX j x y = vX n ∧ finY j x y = vY n) ∧ Hid (Box2 wr w.heap.size 28 (.int .i64 0) (.int .i64 0)) ∧ Hid (Box2 wr (w.heap.size + 1) 28 (.int .i64 x) (.int .i64 y)) ∧ Hid (Below w.heap.size w wr)) (fun dv _ => (intOf dv).toNat)
  case atStart =>
    refine ⟨n, 866, 500, hn, rfl, by omega, by omega, HFS.out, ?_, ?_, Lib.hid (by repeat' first | exact gr_refl _ | with_reducible assumption | with_reducible apply gr_alloc | with_reducible apply gr_set | with_reducible apply gr_drew | with_reducible apply gr_drewN | exact Nat.le_add_right _ _ | exact Nat.le_refl _ | (refine gr_then (by with_reducible assumption) ?_))⟩
    · exact Lib.hid ((Box2.new w 28 (.int .i64 0) (.int .i64 0)).late (gr_alloc (gr_refl _)))
    · have h := Box2.new (w.alloc (.cells #[.int .i64 0, .int .i64 0] 28)) 28 (.int .i64 866) (.int .i64 500)
      simp only [World.size_alloc] at h
      exact h
  case round =>
    obtain ⟨j, x, y, hj, rfl, hx, hy, HF, HR, HP, HB⟩ := hrel
    have p0 := HP.out.c0
    have p1 := HP.out.c1
    have f0 := HP.out.f0 0
    have f1 := HP.out.f0 1
    have hs := HP.out.lt
    have r0 := HR.out.c0
    have r1 := HR.out.c1
    have g0 := HR.out.f0 0
    have g1 := HR.out.f0 1
    by_cases h6 : 6 ≤ j
    · have hd : decide ((6 : Int) ≤ (j : Int)) = true := decide_eq_true (by omega)
      have FN := Lib.hid (fin_next x y ⟨h6, hj⟩)
      go_wp2_with fail
      go_roundw
      case rel => exact ⟨j - 6, -y, x, by omega, by go_num, by omega, hx, ⟨FN.out.1.trans HF.out.1, FN.out.2.trans HF.out.2⟩, (HR.out.far (by dsimp only; omega) _).far (by dsimp only; omega) _, (HP.out.put0 _).put1 _, gr_set (by dsimp only; omega) (gr_set (by dsimp only; omega) HB.out)⟩
      case measure => simp [intOf]; omega
    · have hd : decide ((6 : Int) ≤ (j : Int)) = false := decide_eq_false (by omega)
      have FE := Lib.hid (fin_end x y (show j < 6 by omega))
      go_wp2_with fail
      refine bodyPost_ret (v := .agg #[.int .i64 x, .int .i64 y]) (by simp [results, Tryd.results65, go_sem, *]) rfl ⟨by rw [← HF.out.1, ← HF.out.2, FE.out.1, FE.out.2], by repeat' (first | exact HB.out | (refine gr_set (by dsimp only; omega) ?_))⟩
set_option maxHeartbeats 4000000 in
set_option maxRecDepth 20000 in
theorem implVec_any3 (n : Nat) (w : World) (hn : n ≤ 23) (hr : n % 6 = 3) (hQ : Quar w) : Calls Tryd.prog 65 #[.int .i64 (n : Int)] w fun e w' => e = .returned (.agg #[.int .i64 (vX n), .int .i64 (vY n)]) ∧ Below w.heap.size w w' := by
  have hm : (n : Int).tmod 6 = 3 := by rw [Int.tmod_eq_emod_of_nonneg (by omega)]; omega
  have hG := hQ.1
  obtain ⟨q0, q1⟩ := hQ.2 3 (707, 707) rfl
  simp only at q0 q1
  clear hQ
  have HFS := Lib.hid (fin_start3 hn hr)
  go_enter Tryd.func65, Tryd.ntmps65
  go_wp2_with fail
  go_loopw [0] (fun dv wr => ∃ (j : Nat) (x y : Int), j ≤ 23 ∧ dv = .int .i64 (j : Int) ∧ (-1000 ≤ x ∧ x ≤ 1000) ∧ (-1000 ≤ y ∧ y ≤ 1000) ∧ Hid (finX j x y = vX n ∧ finY j x y = vY n) ∧ Hid (Box2 wr w.heap.size 28 (.int .i64 0) (.int .i64 0)) ∧ Hid (Box2 wr (w.heap.size + 1) 28 (.int .i64 x) (.int .i64 y)) ∧ Hid (Below w.heap.size w wr)) (fun dv _ => (intOf dv).toNat)
  case atStart =>
    refine ⟨n, 707, 707, hn, rfl, by omega, by omega, HFS.out, ?_, ?_, Lib.hid (by repeat' first | exact gr_refl _ | with_reducible assumption | with_reducible apply gr_alloc | with_reducible apply gr_set | with_reducible apply gr_drew | with_reducible apply gr_drewN | exact Nat.le_add_right _ _ | exact Nat.le_refl _ | (refine gr_then (by with_reducible assumption) ?_))⟩
    · exact Lib.hid ((Box2.new w 28 (.int .i64 0) (.int .i64 0)).late (gr_alloc (gr_refl _)))
    · have h := Box2.new (w.alloc (.cells #[.int .i64 0, .int .i64 0] 28)) 28 (.int .i64 707) (.int .i64 707)
      simp only [World.size_alloc] at h
      exact h
  case round =>
    obtain ⟨j, x, y, hj, rfl, hx, hy, HF, HR, HP, HB⟩ := hrel
    have p0 := HP.out.c0
    have p1 := HP.out.c1
    have f0 := HP.out.f0 0
    have f1 := HP.out.f0 1
    have hs := HP.out.lt
    have r0 := HR.out.c0
    have r1 := HR.out.c1
    have g0 := HR.out.f0 0
    have g1 := HR.out.f0 1
    by_cases h6 : 6 ≤ j
    · have hd : decide ((6 : Int) ≤ (j : Int)) = true := decide_eq_true (by omega)
      have FN := Lib.hid (fin_next x y ⟨h6, hj⟩)
      go_wp2_with fail
      go_roundw
      case rel => exact ⟨j - 6, -y, x, by omega, by go_num, by omega, hx, ⟨FN.out.1.trans HF.out.1, FN.out.2.trans HF.out.2⟩, (HR.out.far (by dsimp only; omega) _).far (by dsimp only; omega) _, (HP.out.put0 _).put1 _, gr_set (by dsimp only; omega) (gr_set (by dsimp only; omega) HB.out)⟩
      case measure => simp [intOf]; omega
    · have hd : decide ((6 : Int) ≤ (j : Int)) = false := decide_eq_false (by omega)
      have FE := Lib.hid (fin_end x y (show j < 6 by omega))
      go_wp2_with fail
      refine bodyPost_ret (v := .agg #[.int .i64 x, .int .i64 y]) (by simp [results, Tryd.results65, go_sem, *]) rfl ⟨by rw [← HF.out.1, ← HF.out.2, FE.out.1, FE.out.2], by repeat' (first | exact HB.out | (refine gr_set (by dsimp only; omega) ?_))⟩
set_option maxHeartbeats 4000000 in
set_option maxRecDepth 20000 in
theorem implVec_any4 (n : Nat) (w : World) (hn : n ≤ 23) (hr : n % 6 = 4) (hQ : Quar w) : Calls Tryd.prog 65 #[.int .i64 (n : Int)] w fun e w' => e = .returned (.agg #[.int .i64 (vX n), .int .i64 (vY n)]) ∧ Below w.heap.size w w' := by
  have hm : (n : Int).tmod 6 = 4 := by rw [Int.tmod_eq_emod_of_nonneg (by omega)]; omega
  have hG := hQ.1
  obtain ⟨q0, q1⟩ := hQ.2 4 (500, 866) rfl
  simp only at q0 q1
  clear hQ
  have HFS := Lib.hid (fin_start4 hn hr)
  go_enter Tryd.func65, Tryd.ntmps65
  go_wp2_with fail
  go_loopw [0] (fun dv wr => ∃ (j : Nat) (x y : Int), j ≤ 23 ∧ dv = .int .i64 (j : Int) ∧ (-1000 ≤ x ∧ x ≤ 1000) ∧ (-1000 ≤ y ∧ y ≤ 1000) ∧ Hid (finX j x y = vX n ∧ finY j x y = vY n) ∧ Hid (Box2 wr w.heap.size 28 (.int .i64 0) (.int .i64 0)) ∧ Hid (Box2 wr (w.heap.size + 1) 28 (.int .i64 x) (.int .i64 y)) ∧ Hid (Below w.heap.size w wr)) (fun dv _ => (intOf dv).toNat)
  case atStart =>
    refine ⟨n, 500, 866, hn, rfl, by omega, by omega, HFS.out, ?_, ?_, Lib.hid (by repeat' first | exact gr_refl _ | with_reducible assumption | with_reducible apply gr_alloc | with_reducible apply gr_set | with_reducible apply gr_drew | with_reducible apply gr_drewN | exact Nat.le_add_right _ _ | exact Nat.le_refl _ | (refine gr_then (by with_reducible assumption) ?_))⟩
    · exact Lib.hid ((Box2.new w 28 (.int .i64 0) (.int .i64 0)).late (gr_alloc (gr_refl _)))
    · have h := Box2.new (w.alloc (.cells #[.int .i64 0, .int .i64 0] 28)) 28 (.int .i64 500) (.int .i64 866)
      simp only [World.size_alloc] at h
      exact h
  case round =>
    obtain ⟨j, x, y, hj, rfl, hx, hy, HF, HR, HP, HB⟩ := hrel
    have p0 := HP.out.c0
    have p1 := HP.out.c1
    have f0 := HP.out.f0 0
    have f1 := HP.out.f0 1
    have hs := HP.out.lt
    have r0 := HR.out.c0
    have r1 := HR.out.c1
    have g0 := HR.out.f0 0
    have g1 := HR.out.f0 1
    by_cases h6 : 6 ≤ j
    · have hd : decide ((6 : Int) ≤ (j : Int)) = true := decide_eq_true (by omega)
      have FN := Lib.hid (fin_next x y ⟨h6, hj⟩)
      go_wp2_with fail
      go_roundw
      case rel => exact ⟨j - 6, -y, x, by omega, by go_num, by omega, hx, ⟨FN.out.1.trans HF.out.1, FN.out.2.trans HF.out.2⟩, (HR.out.far (by dsimp only; omega) _).far (by dsimp only; omega) _, (HP.out.put0 _).put1 _, gr_set (by dsimp only; omega) (gr_set (by dsimp only; omega) HB.out)⟩
      case measure => simp [intOf]; omega
    · have hd : decide ((6 : Int) ≤ (j : Int)) = false := decide_eq_false (by omega)
      have FE := Lib.hid (fin_end x y (show j < 6 by omega))
      go_wp2_with fail
      refine bodyPost_ret (v := .agg #[.int .i64 x, .int .i64 y]) (by simp [results, Tryd.results65, go_sem, *]) rfl ⟨by rw [← HF.out.1, ← HF.out.2, FE.out.1, FE.out.2], by repeat' (first | exact HB.out | (refine gr_set (by dsimp only; omega) ?_))⟩
set_option maxHeartbeats 4000000 in
set_option maxRecDepth 20000 in
theorem implVec_any5 (n : Nat) (w : World) (hn : n ≤ 23) (hr : n % 6 = 5) (hQ : Quar w) : Calls Tryd.prog 65 #[.int .i64 (n : Int)] w fun e w' => e = .returned (.agg #[.int .i64 (vX n), .int .i64 (vY n)]) ∧ Below w.heap.size w w' := by
  have hm : (n : Int).tmod 6 = 5 := by rw [Int.tmod_eq_emod_of_nonneg (by omega)]; omega
  have hG := hQ.1
  obtain ⟨q0, q1⟩ := hQ.2 5 (259, 966) rfl
  simp only at q0 q1
  clear hQ
  have HFS := Lib.hid (fin_start5 hn hr)
  go_enter Tryd.func65, Tryd.ntmps65
  go_wp2_with fail
  go_loopw [0] (fun dv wr => ∃ (j : Nat) (x y : Int), j ≤ 23 ∧ dv = .int .i64 (j : Int) ∧ (-1000 ≤ x ∧ x ≤ 1000) ∧ (-1000 ≤ y ∧ y ≤ 1000) ∧ Hid (finX j x y = vX n ∧ finY j x y = vY n) ∧ Hid (Box2 wr w.heap.size 28 (.int .i64 0) (.int .i64 0)) ∧ Hid (Box2 wr (w.heap.size + 1) 28 (.int .i64 x) (.int .i64 y)) ∧ Hid (Below w.heap.size w wr)) (fun dv _ => (intOf dv).toNat)
  case atStart =>
    refine ⟨n, 259, 966, hn, rfl, by omega, by omega, HFS.out, ?_, ?_, Lib.hid (by repeat' first | exact gr_refl _ | with_reducible assumption | with_reducible apply gr_alloc | with_reducible apply gr_set | with_reducible apply gr_drew | with_reducible apply gr_drewN | exact Nat.le_add_right _ _ | exact Nat.le_refl _ | (refine gr_then (by with_reducible assumption) ?_))⟩
    · exact Lib.hid ((Box2.new w 28 (.int .i64 0) (.int .i64 0)).late (gr_alloc (gr_refl _)))
    · have h := Box2.new (w.alloc (.cells #[.int .i64 0, .int .i64 0] 28)) 28 (.int .i64 259) (.int .i64 966)
      simp only [World.size_alloc] at h
      exact h
  case round =>
    obtain ⟨j, x, y, hj, rfl, hx, hy, HF, HR, HP, HB⟩ := hrel
    have p0 := HP.out.c0
    have p1 := HP.out.c1
    have f0 := HP.out.f0 0
    have f1 := HP.out.f0 1
    have hs := HP.out.lt
    have r0 := HR.out.c0
    have r1 := HR.out.c1
    have g0 := HR.out.f0 0
    have g1 := HR.out.f0 1
    by_cases h6 : 6 ≤ j
    · have hd : decide ((6 : Int) ≤ (j : Int)) = true := decide_eq_true (by omega)
      have FN := Lib.hid (fin_next x y ⟨h6, hj⟩)
      go_wp2_with fail
      go_roundw
      case rel => exact ⟨j - 6, -y, x, by omega, by go_num, by omega, hx, ⟨FN.out.1.trans HF.out.1, FN.out.2.trans HF.out.2⟩, (HR.out.far (by dsimp only; omega) _).far (by dsimp only; omega) _, (HP.out.put0 _).put1 _, gr_set (by dsimp only; omega) (gr_set (by dsimp only; omega) HB.out)⟩
      case measure => simp [intOf]; omega
    · have hd : decide ((6 : Int) ≤ (j : Int)) = false := decide_eq_false (by omega)
      have FE := Lib.hid (fin_end x y (show j < 6 by omega))
      go_wp2_with fail
      refine bodyPost_ret (v := .agg #[.int .i64 x, .int .i64 y]) (by simp [results, Tryd.results65, go_sem, *]) rfl ⟨by rw [← HF.out.1, ← HF.out.2, FE.out.1, FE.out.2], by repeat' (first | exact HB.out | (refine gr_set (by dsimp only; omega) ?_))⟩
theorem implVec_any (n : Nat) (w : World) (hn : n ≤ 23) (hQ : Quar w) : Calls Tryd.prog 65 #[.int .i64 (n : Int)] w fun e w' => e = .returned (.agg #[.int .i64 (vX n), .int .i64 (vY n)]) ∧ Below w.heap.size w w' := by
  have h : n % 6 < 6 := Nat.mod_lt _ (by omega)
  by_cases h0 : n % 6 = 0
  · exact implVec_any0 n w hn h0 hQ
  by_cases h1 : n % 6 = 1
  · exact implVec_any1 n w hn h1 hQ
  by_cases h2 : n % 6 = 2
  · exact implVec_any2 n w hn h2 hQ
  by_cases h3 : n % 6 = 3
  · exact implVec_any3 n w hn h3 hQ
  by_cases h4 : n % 6 = 4
  · exact implVec_any4 n w hn h4 hQ
  by_cases h5 : n % 6 = 5
  · exact implVec_any5 n w hn h5 hQ
  omega
set_option maxHeartbeats 4000000 in
set_option maxRecDepth 20000 in
theorem specVec_any0 (n : Nat) (w : World) (hn : n ≤ 23) (hr : n % 6 = 0) : Calls Tryd.prog 64 #[.int .i64 (n : Int)] w fun e w' => e = .returned (.agg #[.int .i64 (vX n), .int .i64 (vY n)]) ∧ Below w.heap.size w w' := by
  have hm : (n : Int).tmod 6 = 0 := by rw [Int.tmod_eq_emod_of_nonneg (by omega)]; omega
  have HFS := Lib.hid (fin_start0 hn hr)
  go_enter Tryd.func64, Tryd.ntmps64
  go_wp2_with fail
  go_loopw [0] (fun dv wr => ∃ (j : Nat) (x y : Int), j ≤ 23 ∧ dv = .int .i64 (j : Int) ∧ (-1000 ≤ x ∧ x ≤ 1000) ∧ (-1000 ≤ y ∧ y ≤ 1000) ∧ Hid (finX j x y = vX n ∧ finY j x y = vY n) ∧ Hid (Box2 wr w.heap.size 28 (.int .i64 0) (.int .i64 0)) ∧ Hid (Box2 wr (w.heap.size + 1 + 1) 28 (.int .i64 x) (.int .i64 y)) ∧ Hid (Below w.heap.size w wr)) (fun dv _ => (intOf dv).toNat)
  case atStart =>
    refine ⟨n, 1000, 0, hn, rfl, by omega, by omega, HFS.out, ?_, ?_, Lib.hid (by repeat' first | exact gr_refl _ | with_reducible assumption | with_reducible apply gr_alloc | with_reducible apply gr_set | with_reducible apply gr_drew | with_reducible apply gr_drewN | exact Nat.le_add_right _ _ | exact Nat.le_refl _ | (refine gr_then (by with_reducible assumption) ?_))⟩
    · exact Lib.hid (((Box2.new w 28 (.int .i64 0) (.int .i64 0)).late (gr_alloc (gr_refl _))).late (gr_alloc (gr_refl _)))
    · have h := Box2.new ((w.alloc (.cells #[.int .i64 0, .int .i64 0] 28)).alloc (.cells #[.int .i64 1000, .int .i64 0, .int .i64 966, .int .i64 259, .int .i64 866, .int .i64 500, .int .i64 707, .int .i64 707, .int .i64 500, .int .i64 866, .int .i64 259, .int .i64 966] 28)) 28 (.int .i64 1000) (.int .i64 0)
      simp only [World.size_alloc] at h
      exact h
  case round =>
    obtain ⟨j, x, y, hj, rfl, hx, hy, HF, HR, HP, HB⟩ := hrel
    have p0 := HP.out.c0
    have p1 := HP.out.c1
    have f0 := HP.out.f0 0
    have f1 := HP.out.f0 1
    have hs := HP.out.lt
    have r0 := HR.out.c0
    have r1 := HR.out.c1
    have g0 := HR.out.f0 0
    have g1 := HR.out.f0 1
    by_cases h6 : 6 ≤ j
    · have hd : decide ((6 : Int) ≤ (j : Int)) = true := decide_eq_true (by omega)
      have FN := Lib.hid (fin_next x y ⟨h6, hj⟩)
      go_wp2_with fail
      go_roundw
      case rel => exact ⟨j - 6, -y, x, by omega, by go_num, by omega, hx, ⟨FN.out.1.trans HF.out.1, FN.out.2.trans HF.out.2⟩, (HR.out.far (by dsimp only; omega) _).far (by dsimp only; omega) _, (HP.out.put0 _).put1 _, gr_set (by dsimp only; omega) (gr_set (by dsimp only; omega) HB.out)⟩
      case measure => simp [intOf]; omega
    · have hd : decide ((6 : Int) ≤ (j : Int)) = false := decide_eq_false (by omega)
      have FE := Lib.hid (fin_end x y (show j < 6 by omega))
      go_wp2_with fail
      refine bodyPost_ret (v := .agg #[.int .i64 x, .int .i64 y]) (by simp [results, Tryd.results64, go_sem, *]) rfl ⟨by rw [← HF.out.1, ← HF.out.2, FE.out.1, FE.out.2], by repeat' (first | exact HB.out | (refine gr_set (by dsimp only; omega) ?_))⟩
set_option maxHeartbeats 4000000 in
set_option maxRecDepth 20000 in
theorem specVec_any1 (n : Nat) (w : World) (hn : n ≤ 23) (hr : n % 6 = 1) : Calls Tryd.prog 64 #[.int .i64 (n : Int)] w fun e w' => e = .returned (.agg #[.int .i64 (vX n), .int .i64 (vY n)]) ∧ Below w.heap.size w w' := by
  have hm : (n : Int).tmod 6 = 1 := by rw [Int.tmod_eq_emod_of_nonneg (by omega)]; omega
  have HFS := Lib.hid (fin_start1 hn hr)
  go_enter Tryd.func64, Tryd.ntmps64
  go_wp2_with fail
  go_loopw [0] (fun dv wr => ∃ (j : Nat) (x y : Int), j ≤ 23 ∧ dv = .int .i64 (j : Int) ∧ (-1000 ≤ x ∧ x ≤ 1000) ∧ (-1000 ≤ y ∧ y ≤ 1000) ∧ Hid (finX j x y = vX n ∧ finY j x y = vY n) ∧ Hid (Box2 wr w.heap.size 28 (.int .i64 0) (.int .i64 0)) ∧ Hid (Box2 wr (w.heap.size + 1 + 1) 28 (.int .i64 x) (.int .i64 y)) ∧ Hid (Below w.heap.size w wr)) (fun dv _ => (intOf dv).toNat)
  case atStart =>
    refine ⟨n, 966, 259, hn, rfl, by omega, by omega, HFS.out, ?_, ?_, Lib.hid (by repeat' first | exact gr_refl _ | with_reducible assumption | with_reducible apply gr_alloc | with_reducible apply gr_set | with_reducible apply gr_drew | with_reducible apply gr_drewN | exact Nat.le_add_right _ _ | exact Nat.le_refl _ | (refine gr_then (by with_reducible assumption) ?_))⟩
    · exact Lib.hid (((Box2.new w 28 (.int .i64 0) (.int .i64 0)).late (gr_alloc (gr_refl _))).late (gr_alloc (gr_refl _)))
    · have h := Box2.new ((w.alloc (.cells #[.int .i64 0, .int .i64 0] 28)).alloc (.cells #[.int .i64 1000, .int .i64 0, .int .i64 966, .int .i64 259, .int .i64 866, .int .i64 500, .int .i64 707, .int .i64 707, .int .i64 500, .int .i64 866, .int .i64 259, .int .i64 966] 28)) 28 (.int .i64 966) (.int .i64 259)
      simp only [World.size_alloc] at h
      exact h
  case round =>
    obtain ⟨j, x, y, hj, rfl, hx, hy, HF, HR, HP, HB⟩ := hrel
    have p0 := HP.out.c0
    have p1 := HP.out.c1
    have f0 := HP.out.f0 0
    have f1 := HP.out.f0 1
    have hs := HP.out.lt
    have r0 := HR.out.c0
    have r1 := HR.out.c1
    have g0 := HR.out.f0 0
    have g1 := HR.out.f0 1
    by_cases h6 : 6 ≤ j
    · have hd : decide ((6 : Int) ≤ (j : Int)) = true := decide_eq_true (by omega)
      have FN := Lib.hid (fin_next x y ⟨h6, hj⟩)
      go_wp2_with fail
      go_roundw
      case rel => exact ⟨j - 6, -y, x, by omega, by go_num, by omega, hx, ⟨FN.out.1.trans HF.out.1, FN.out.2.trans HF.out.2⟩, (HR.out.far (by dsimp only; omega) _).far (by dsimp only; omega) _, (HP.out.put0 _).put1 _, gr_set (by dsimp only; omega) (gr_set (by dsimp only; omega) HB.out)⟩
      case measure => simp [intOf]; omega
    · have hd : decide ((6 : Int) ≤ (j : Int)) = false := decide_eq_false (by omega)
      have FE := Lib.hid (fin_end x y (show j < 6 by omega))
      go_wp2_with fail
      refine bodyPost_ret (v := .agg #[.int .i64 x, .int .i64 y]) (by simp [results, Tryd.results64, go_sem, *]) rfl ⟨by rw [← HF.out.1, ← HF.out.2, FE.out.1, FE.out.2], by repeat' (first | exact HB.out | (refine gr_set (by dsimp only; omega) ?_))⟩
set_option maxHeartbeats 4000000 in
set_option maxRecDepth 20000 in
theorem specVec_any2 (n : Nat) (w : World) (hn : n ≤ 23) (hr : n % 6 = 2) : Calls Tryd.prog 64 #[.int .i64 (n : Int)] w fun e w' => e = .returned (.agg #[.int .i64 (vX n), .int .i64 (vY n)]) ∧ Below w.heap.size w w' := by
  have hm : (n : Int).tmod 6 = 2 := by rw [Int.tmod_eq_emod_of_nonneg (by omega)]; omega
  have HFS := Lib.hid (fin_start2 hn hr)
  go_enter Tryd.func64, Tryd.ntmps64
  go_wp2_with fail
  go_loopw [0] (fun dv wr => ∃ (j : Nat) (x y : Int), j ≤ 23 ∧ dv = .int .i64 (j : Int) ∧ (-1000 ≤ x ∧ x ≤ 1000) ∧ (-1000 ≤ y ∧ y ≤ 1000) ∧ Hid (finX j x y = vX n ∧ finY j x y = vY n) ∧ Hid (Box2 wr w.heap.size 28 (.int .i64 0) (.int .i64 0)) ∧ Hid (Box2 wr (w.heap.size + 1 + 1) 28 (.int .i64 x) (.int .i64 y)) ∧ Hid (Below w.heap.size w wr)) (fun dv _ => (intOf dv).toNat)
  case atStart =>
    refine ⟨n, 866, 500, hn, rfl, by omega, by omega, HFS.out, ?_, ?_, Lib.hid (by repeat' first | exact gr_refl _ | with_reducible assumption | with_reducible apply gr_alloc | with_reducible apply gr_set | with_reducible apply gr_drew | with_reducible apply gr_drewN | exact Nat.le_add_right _ _ | exact Nat.le_refl _ | (refine gr_then (by with_reducible assumption) ?_))⟩
    · exact Lib.hid (((Box2.new w 28 (.int .i64 0) (.int .i64 0)).late (gr_alloc (gr_refl _))).late (gr_alloc (gr_refl _)))
    · have h := Box2.new ((w.alloc (.cells #[.int .i64 0, .int .i64 0] 28)).alloc (.cells #[.int .i64 1000, .int .i64 0, .int .i64 966, .int .i64 259, .int .i64 866, .int .i64 500, .int .i64 707, .int .i64 707, .int .i64 500, .int .i64 866, .int .i64 259, .int .i64 966] 28)) 28 (.int .i64 866) (.int .i64 500)
      simp only [World.size_alloc] at h
      exact h
  case round =>
    obtain ⟨j, x, y, hj, rfl, hx, hy, HF, HR, HP, HB⟩ := hrel
    have p0 := HP.out.c0
    have p1 := HP.out.c1
    have f0 := HP.out.f0 0
    have f1 := HP.out.f0 1
    have hs := HP.out.lt
    have r0 := HR.out.c0
    have r1 := HR.out.c1
    have g0 := HR.out.f0 0
    have g1 := HR.out.f0 1
    by_cases h6 : 6 ≤ j
    · have hd : decide ((6 : Int) ≤ (j : Int)) = true := decide_eq_true (by omega)
      have FN := Lib.hid (fin_next x y ⟨h6, hj⟩)
      go_wp2_with fail
      go_roundw
      case rel => exact ⟨j - 6, -y, x, by omega, by go_num, by omega, hx, ⟨FN.out.1.trans HF.out.1, FN.out.2.trans HF.out.2⟩, (HR.out.far (by dsimp only; omega) _).far (by dsimp only; omega) _, (HP.out.put0 _).put1 _, gr_set (by dsimp only; omega) (gr_set (by dsimp only; omega) HB.out)⟩
      case measure => simp [intOf]; omega
    · have hd : decide ((6 : Int) ≤ (j : Int)) = false := decide_eq_false (by omega)
      have FE := Lib.hid (fin_end x y (show j < 6 by omega))
      go_wp2_with fail
      refine bodyPost_ret (v := .agg #[.int .i64 x, .int .i64 y]) (by simp [results, Tryd.results64, go_sem, *]) rfl ⟨by rw [← HF.out.1, ← HF.out.2, FE.out.1, FE.out.2], by repeat' (first | exact HB.out | (refine gr_set (by dsimp only; omega) ?_))⟩
set_option maxHeartbeats 4000000 in
set_option maxRecDepth 20000 in
theorem specVec_any3 (n : Nat) (w : World) (hn : n ≤ 23) (hr : n % 6 = 3) : Calls Tryd.prog 64 #[.int .i64 (n : Int)] w fun e w' => e = .returned (.agg #[.int .i64 (vX n), .int .i64 (vY n)]) ∧ Below w.heap.size w w' := by
  have hm : (n : Int).tmod 6 = 3 := by rw [Int.tmod_eq_emod_of_nonneg (by omega)]; omega
  have HFS := Lib.hid (fin_start3 hn hr)
  go_enter Tryd.func64, Tryd.ntmps64
  go_wp2_with fail
  go_loopw [0] (fun dv wr => ∃ (j : Nat) (x y : Int), j ≤ 23 ∧ dv = .int .i64 (j : Int) ∧ (-1000 ≤ x ∧ x ≤ 1000) ∧ (-1000 ≤ y ∧ y ≤ 1000) ∧ Hid (finX j x y = vX n ∧ finY j x y = vY n) ∧ Hid (Box2 wr w.heap.size 28 (.int .i64 0) (.int .i64 0)) ∧ Hid (Box2 wr (w.heap.size + 1 + 1) 28 (.int .i64 x) (.int .i64 y)) ∧ Hid (Below w.heap.size w wr)) (fun dv _ => (intOf dv).toNat)
  case atStart =>
    refine ⟨n, 707, 707, hn, rfl, by omega, by omega, HFS.out, ?_, ?_, Lib.hid (by repeat' first | exact gr_refl _ | with_reducible assumption | with_reducible apply gr_alloc | with_reducible apply gr_set | with_reducible apply gr_drew | with_reducible apply gr_drewN | exact Nat.le_add_right _ _ | exact Nat.le_refl _ | (refine gr_then (by with_reducible assumption) ?_))⟩
    · exact Lib.hid (((Box2.new w 28 (.int .i64 0) (.int .i64 0)).late (gr_alloc (gr_refl _))).late (gr_alloc (gr_refl _)))
    · have h := Box2.new ((w.alloc (.cells #[.int .i64 0, .int .i64 0] 28)).alloc (.cells #[.int .i64 1000, .int .i64 0, .int .i64 966, .int .i64 259, .int .i64 866, .int .i64 500, .int .i64 707, .int .i64 707, .int .i64 500, .int .i64 866, .int .i64 259, .int .i64 966] 28)) 28 (.int .i64 707) (.int .i64 707)
      simp only [World.size_alloc] at h
      exact h
  case round =>
    obtain ⟨j, x, y, hj, rfl, hx, hy, HF, HR, HP, HB⟩ := hrel
    have p0 := HP.out.c0
    have p1 := HP.out.c1
    have f0 := HP.out.f0 0
    have f1 := HP.out.f0 1
    have hs := HP.out.lt
    have r0 := HR.out.c0
    have r1 := HR.out.c1
    have g0 := HR.out.f0 0
    have g1 := HR.out.f0 1
    by_cases h6 : 6 ≤ j
    · have hd : decide ((6 : Int) ≤ (j : Int)) = true := decide_eq_true (by omega)
      have FN := Lib.hid (fin_next x y ⟨h6, hj⟩)
      go_wp2_with fail
      go_roundw
      case rel => exact ⟨j - 6, -y, x, by omega, by go_num, by omega, hx, ⟨FN.out.1.trans HF.out.1, FN.out.2.trans HF.out.2⟩, (HR.out.far (by dsimp only; omega) _).far (by dsimp only; omega) _, (HP.out.put0 _).put1 _, gr_set (by dsimp only; omega) (gr_set (by dsimp only; omega) HB.out)⟩
      case measure => simp [intOf]; omega
    · have hd : decide ((6 : Int) ≤ (j : Int)) = false := decide_eq_false (by omega)
      have FE := Lib.hid (fin_end x y (show j < 6 by omega))
      go_wp2_with fail
      refine bodyPost_ret (v := .agg #[.int .i64 x, .int .i64 y]) (by simp [results, Tryd.results64, go_sem, *]) rfl ⟨by rw [← HF.out.1, ← HF.out.2, FE.out.1, FE.out.2], by repeat' (first | exact HB.out | (refine gr_set (by dsimp only; omega) ?_))⟩
set_option maxHeartbeats 4000000 in
set_option maxRecDepth 20000 in
theorem specVec_any4 (n : Nat) (w : World) (hn : n ≤ 23) (hr : n % 6 = 4) : Calls Tryd.prog 64 #[.int .i64 (n : Int)] w fun e w' => e = .returned (.agg #[.int .i64 (vX n), .int .i64 (vY n)]) ∧ Below w.heap.size w w' := by
  have hm : (n : Int).tmod 6 = 4 := by rw [Int.tmod_eq_emod_of_nonneg (by omega)]; omega
  have HFS := Lib.hid (fin_start4 hn hr)
  go_enter Tryd.func64, Tryd.ntmps64
  go_wp2_with fail
  go_loopw [0] (fun dv wr => ∃ (j : Nat) (x y : Int), j ≤ 23 ∧ dv = .int .i64 (j : Int) ∧ (-1000 ≤ x ∧ x ≤ 1000) ∧ (-1000 ≤ y ∧ y ≤ 1000) ∧ Hid (finX j x y = vX n ∧ finY j x y = vY n) ∧ Hid (Box2 wr w.heap.size 28 (.int .i64 0) (.int .i64 0)) ∧ Hid (Box2 wr (w.heap.size + 1 + 1) 28 (.int .i64 x) (.int .i64 y)) ∧ Hid (Below w.heap.size w wr)) (fun dv _ => (intOf dv).toNat)
  case atStart =>
    refine ⟨n, 500, 866, hn, rfl, by omega, by omega, HFS.out, ?_, ?_, Lib.hid (by repeat' first | exact gr_refl _ | with_reducible assumption | with_reducible apply gr_alloc | with_reducible apply gr_set | with_reducible apply gr_drew | with_reducible apply gr_drewN | exact Nat.le_add_right _ _ | exact Nat.le_refl _ | (refine gr_then (by with_reducible assumption) ?_))⟩
    · exact Lib.hid (((Box2.new w 28 (.int .i64 0) (.int .i64 0)).late (gr_alloc (gr_refl _))).late (gr_alloc (gr_refl _)))
    · have h := Box2.new ((w.alloc (.cells #[.int .i64 0, .int .i64 0] 28)).alloc (.cells #[.int .i64 1000, .int .i64 0, .int .i64 966, .int .i64 259, .int .i64 866, .int .i64 500, .int .i64 707, .int .i64 707, .int .i64 500, .int .i64 866, .int .i64 259, .int .i64 966] 28)) 28 (.int .i64 500) (.int .i64 866)
      simp only [World.size_alloc] at h
      exact h
  case round =>
    obtain ⟨j, x, y, hj, rfl, hx, hy, HF, HR, HP, HB⟩ := hrel
    have p0 := HP.out.c0
    have p1 := HP.out.c1
    have f0 := HP.out.f0 0
    have f1 := HP.out.f0 1
    have hs := HP.out.lt
    have r0 := HR.out.c0
    have r1 := HR.out.c1
    have g0 := HR.out.f0 0
    have g1 := HR.out.f0 1
    by_cases h6 : 6 ≤ j
    · have hd : decide ((6 : Int) ≤ (j : Int)) = true := decide_eq_true (by omega)
      have FN := Lib.hid (fin_next x y ⟨h6, hj⟩)
      go_wp2_with fail
      go_roundw
      case rel => exact ⟨j - 6, -y, x, by omega, by go_num, by omega, hx, ⟨FN.out.1.trans HF.out.1, FN.out.2.trans HF.out.2⟩, (HR.out.far (by dsimp only; omega) _).far (by dsimp only; omega) _, (HP.out.put0 _).put1 _, gr_set (by dsimp only; omega) (gr_set (by dsimp only; omega) HB.out)⟩
      case measure => simp [intOf]; omega
    · have hd : decide ((6 : Int) ≤ (j : Int)) = false := decide_eq_false (by omega)
      have FE := Lib.hid (fin_end x y (show j < 6 by omega))
      go_wp2_with fail
      refine bodyPost_ret (v := .agg #[.int .i64 x, .int .i64 y]) (by simp [results, Tryd.results64, go_sem, *]) rfl ⟨by rw [← HF.out.1, ← HF.out.2, FE.out.1, FE.out.2], by repeat' (first | exact HB.out | (refine gr_set (by dsimp only; omega) ?_))⟩
set_option maxHeartbeats 4000000 in
set_option maxRecDepth 20000 in
theorem specVec_any5 (n : Nat) (w : World) (hn : n ≤ 23) (hr : n % 6 = 5) : Calls Tryd.prog 64 #[.int .i64 (n : Int)] w fun e w' => e = .returned (.agg #[.int .i64 (vX n), .int .i64 (vY n)]) ∧ Below w.heap.size w w' := by
  have hm : (n : Int).tmod 6 = 5 := by rw [Int.tmod_eq_emod_of_nonneg (by omega)]; omega
  have HFS := Lib.hid (fin_start5 hn hr)
  go_enter Tryd.func64, Tryd.ntmps64
  go_wp2_with fail
  go_loopw [0] (fun dv wr => ∃ (j : Nat) (x y : Int), j ≤ 23 ∧ dv = .int .i64 (j : Int) ∧ (-1000 ≤ x ∧ x ≤ 1000) ∧ (-1000 ≤ y ∧ y ≤ 1000) ∧ Hid (finX j x y = vX n ∧ finY j x y = vY n) ∧ Hid (Box2 wr w.heap.size 28 (.int .i64 0) (.int .i64 0)) ∧ Hid (Box2 wr (w.heap.size + 1 + 1) 28 (.int .i64 x) (.int .i64 y)) ∧ Hid (Below w.heap.size w wr)) (fun dv _ => (intOf dv).toNat)
  case atStart =>
    refine ⟨n, 259, 966, hn, rfl, by omega, by omega, HFS.out, ?_, ?_, Lib.hid (by repeat' first | exact gr_refl _ | with_reducible assumption | with_reducible apply gr_alloc | with_reducible apply gr_set | with_reducible apply gr_drew | with_reducible apply gr_drewN | exact Nat.le_add_right _ _ | exact Nat.le_refl _ | (refine gr_then (by with_reducible assumption) ?_))⟩
    · exact Lib.hid (((Box2.new w 28 (.int .i64 0) (.int .i64 0)).late (gr_alloc (gr_refl _))).late (gr_alloc (gr_refl _)))
    · have h := Box2.new ((w.alloc (.cells #[.int .i64 0, .int .i64 0] 28)).alloc (.cells #[.int .i64 1000, .int .i64 0, .int .i64 966, .int .i64 259, .int .i64 866, .int .i64 500, .int .i64 707, .int .i64 707, .int .i64 500, .int .i64 866, .int .i64 259, .int .i64 966] 28)) 28 (.int .i64 259) (.int .i64 966)
      simp only [World.size_alloc] at h
      exact h
  case round =>
    obtain ⟨j, x, y, hj, rfl, hx, hy, HF, HR, HP, HB⟩ := hrel
    have p0 := HP.out.c0
    have p1 := HP.out.c1
    have f0 := HP.out.f0 0
    have f1 := HP.out.f0 1
    have hs := HP.out.lt
    have r0 := HR.out.c0
    have r1 := HR.out.c1
    have g0 := HR.out.f0 0
    have g1 := HR.out.f0 1
    by_cases h6 : 6 ≤ j
    · have hd : decide ((6 : Int) ≤ (j : Int)) = true := decide_eq_true (by omega)
      have FN := Lib.hid (fin_next x y ⟨h6, hj⟩)
      go_wp2_with fail
      go_roundw
      case rel => exact ⟨j - 6, -y, x, by omega, by go_num, by omega, hx, ⟨FN.out.1.trans HF.out.1, FN.out.2.trans HF.out.2⟩, (HR.out.far (by dsimp only; omega) _).far (by dsimp only; omega) _, (HP.out.put0 _).put1 _, gr_set (by dsimp only; omega) (gr_set (by dsimp only; omega) HB.out)⟩
      case measure => simp [intOf]; omega
    · have hd : decide ((6 : Int) ≤ (j : Int)) = false := decide_eq_false (by omega)
      have FE := Lib.hid (fin_end x y (show j < 6 by omega))
      go_wp2_with fail
      refine bodyPost_ret (v := .agg #[.int .i64 x, .int .i64 y]) (by simp [results, Tryd.results64, go_sem, *]) rfl ⟨by rw [← HF.out.1, ← HF.out.2, FE.out.1, FE.out.2], by repeat' (first | exact HB.out | (refine gr_set (by dsimp only; omega) ?_))⟩
theorem specVec_any (n : Nat) (w : World) (hn : n ≤ 23) : Calls Tryd.prog 64 #[.int .i64 (n : Int)] w fun e w' => e = .returned (.agg #[.int .i64 (vX n), .int .i64 (vY n)]) ∧ Below w.heap.size w w' := by
  have h : n % 6 < 6 := Nat.mod_lt _ (by omega)
  by_cases h0 : n % 6 = 0
  · exact specVec_any0 n w hn h0
  by_cases h1 : n % 6 = 1
  · exact specVec_any1 n w hn h1
  by_cases h2 : n % 6 = 2
  · exact specVec_any2 n w hn h2
  by_cases h3 : n % 6 = 3
  · exact specVec_any3 n w hn h3
  by_cases h4 : n % 6 = 4
  · exact specVec_any4 n w hn h4
  by_cases h5 : n % 6 = 5
  · exact specVec_any5 n w hn h5
  omega
end Go.Proofs.YtbdhmadgflmhmaaDoor
