/- Squares of distances and radii, both sides. -/
import Derived.Test.YtbdhmadgflmhmaaDoorBase
import Derived.Test.YtbdhmadgflmhmaaDoorDirP
import Derived.Test.YtbdhmadgflmhmaaDoorRoot
import Derived.Test.YtbdhmadgflmhmaaDoorCrn
import Derived.BigQuiet
import Derived.IntWalk
namespace Go.Proofs.YtbdhmadgflmhmaaDoor
open Go.RowKit Go.Deep
set_option maxHeartbeats 2000000 in
set_option maxRecDepth 20000 in
theorem sq02_any (a b c d : Int) (w : World) (hu : -400000 ≤ a - c ∧ a - c ≤ 400000) (hv : -400000 ≤ b - d ∧ b - d ≤ 400000) : Calls Tryd.prog 35 #[.agg #[.int .i64 a, .int .i64 b], .agg #[.int .i64 c, .int .i64 d]] w fun e w' => e = .returned (.int .i64 (sqI (a - c) (b - d))) ∧ Below w.heap.size w w' := by
  obtain ⟨h1, h2, h3, h4⟩ := sqI_bd hu hv
  have hw1 : IntKind.i64.wrap (a - c) = a - c := IntWalk.i64_in _ (by omega)
  have hw2 : IntKind.i64.wrap (b - d) = b - d := IntWalk.i64_in _ (by omega)
  have hw3 : IntKind.i64.wrap ((a - c) * (a - c)) = (a - c) * (a - c) := IntWalk.i64_in _ (by omega)
  have hw4 : IntKind.i64.wrap ((b - d) * (b - d)) = (b - d) * (b - d) := IntWalk.i64_in _ (by omega)
  have hw5 : IntKind.i64.wrap ((a - c) * (a - c) + (b - d) * (b - d)) = (a - c) * (a - c) + (b - d) * (b - d) := IntWalk.i64_in _ (by omega)
  clear h3 h4
  go_enter Tryd.func35, Tryd.ntmps35; go_wp2
  go_returns
  exact ⟨rfl, by repeat' first | exact gr_refl _ | with_reducible apply gr_drewN | with_reducible assumption | with_reducible apply gr_alloc | with_reducible apply gr_set | with_reducible apply gr_drew | with_reducible apply gr_drewN | exact Nat.le_add_right _ _ | exact Nat.le_refl _ | (refine gr_then (by with_reducible assumption) ?_)⟩
set_option maxHeartbeats 2000000 in
set_option maxRecDepth 20000 in
theorem square_any (a b c d : Int) (w : World) (hu : -400000 ≤ a - c ∧ a - c ≤ 400000) (hv : -400000 ≤ b - d ∧ b - d ≤ 400000) : Calls Tryd.prog 56 #[.agg #[.int .i64 a, .int .i64 b], .agg #[.int .i64 c, .int .i64 d]] w fun e w' => e = .returned (.int .i64 (sqI (a - c) (b - d))) ∧ Below w.heap.size w w' := by
  obtain ⟨h1, h2, h3, h4⟩ := sqI_bd hu hv
  have hw1 : IntKind.i64.wrap (a - c) = a - c := IntWalk.i64_in _ (by omega)
  have hw2 : IntKind.i64.wrap (b - d) = b - d := IntWalk.i64_in _ (by omega)
  have hw3 : IntKind.i64.wrap ((a - c) * (a - c)) = (a - c) * (a - c) := IntWalk.i64_in _ (by omega)
  have hw4 : IntKind.i64.wrap ((b - d) * (b - d)) = (b - d) * (b - d) := IntWalk.i64_in _ (by omega)
  have hw5 : IntKind.i64.wrap ((a - c) * (a - c) + (b - d) * (b - d)) = (a - c) * (a - c) + (b - d) * (b - d) := IntWalk.i64_in _ (by omega)
  clear h3 h4
  go_enter Tryd.func56, Tryd.ntmps56; go_wp2
  go_quiet (fail)
  go_wp2
  go_returns
  exact ⟨rfl, by repeat' first | exact gr_refl _ | with_reducible apply gr_drewN | with_reducible assumption | with_reducible apply gr_alloc | with_reducible apply gr_set | with_reducible apply gr_drew | with_reducible apply gr_drewN | exact Nat.le_add_right _ _ | exact Nat.le_refl _ | (refine gr_then (by with_reducible assumption) ?_)⟩
set_option maxHeartbeats 2000000 in
set_option maxRecDepth 20000 in
theorem radBt_any (a b c d : Int) (w : World) (ha : okPl a b = true) (hc : okPl c d = true) : Calls Tryd.prog 16 #[.agg #[.int .i64 a, .int .i64 b], .agg #[.int .i64 c, .int .i64 d]] w fun e w' => e = .returned (.tuple #[.int .i64 (radN (a - c) (b - d)), .int .i64 0]) ∧ Below w.heap.size w w' := by
  have b1 := okPl_t ha
  have b2 := okPl_t hc
  have hu : -400000 ≤ a - c ∧ a - c ≤ 400000 := by omega
  have hv : -400000 ≤ b - d ∧ b - d ≤ 400000 := by omega
  have hsq := (sqI_bd hu hv).2.2
  have HA := Lib.hid ha
  have HC := Lib.hid hc
  have HE := Lib.hid (show radN (a - c) (b - d) = rt (sqI (a - c) (b - d)) from rfl)
  rw [HE.out]
  clear ha hc b1 b2
  have HX0 := Lib.hid (show Box2 ((w.alloc (.cells #[.int .i64 a, .int .i64 b] 28)).alloc (.cells #[.int .i64 c, .int .i64 d] 28)) (w.heap.size) 28 (.int .i64 a) (.int .i64 b) by have h := (Box2.new (w) 28 (.int .i64 a) (.int .i64 b)).late (gr_alloc (o := .cells #[.int .i64 c, .int .i64 d] 28) (gr_refl _)); (try simp only [World.size_alloc] at h); exact h)
  have q0_0 := HX0.out.c0
  have q0_1 := HX0.out.c1
  have HX1 := Lib.hid (show Box2 ((w.alloc (.cells #[.int .i64 a, .int .i64 b] 28)).alloc (.cells #[.int .i64 c, .int .i64 d] 28)) (w.heap.size + 1) 28 (.int .i64 c) (.int .i64 d) by have h := Box2.new (w.alloc (.cells #[.int .i64 a, .int .i64 b] 28)) 28 (.int .i64 c) (.int .i64 d); (try simp only [World.size_alloc] at h); exact h)
  have q1_0 := HX1.out.c0
  have q1_1 := HX1.out.c1
  have HB := Lib.hid (show Below w.heap.size w ((w.alloc (.cells #[.int .i64 a, .int .i64 b] 28)).alloc (.cells #[.int .i64 c, .int .i64 d] 28)) by repeat' first | exact gr_refl _ | with_reducible assumption | with_reducible apply gr_alloc | with_reducible apply gr_set | with_reducible apply gr_drew | with_reducible apply gr_drewN | exact Nat.le_add_right _ _ | exact Nat.le_refl _ | (refine gr_then (by with_reducible assumption) ?_))
  have hz : w.heap.size + 2 ≤ ((w.alloc (.cells #[.int .i64 a, .int .i64 b] 28)).alloc (.cells #[.int .i64 c, .int .i64 d] 28)).heap.size := by simp
  go_enter Tryd.func16, Tryd.ntmps16
  go_wp2_with fail
  generalize (w.alloc (.cells #[.int .i64 a, .int .i64 b] 28)).alloc (.cells #[.int .i64 c, .int .i64 d] 28) = v0 at *
  go_at_call 33
  (with_reducible refine (pl02_is HA.out _).mono ?_)
  rintro e u1 ⟨rfl, hb⟩
  have hy1 := hb.size
  replace q0_0 := keepc hb q0_0
  replace q0_1 := keepc hb q0_1
  replace q1_0 := keepc hb q1_0
  replace q1_1 := keepc hb q1_1
  replace HX0 := Lib.hid (HX0.out.late hb)
  replace HX1 := Lib.hid (HX1.out.late hb)
  replace HB := Lib.hid (gr_then hb HB.out)
  clear hb
  go_wp2_with fail
  go_at_call 33
  (with_reducible refine (pl02_is HC.out _).mono ?_)
  rintro e u2 ⟨rfl, hb⟩
  have hy2 := hb.size
  replace q0_0 := keepc hb q0_0
  replace q0_1 := keepc hb q0_1
  replace q1_0 := keepc hb q1_0
  replace q1_1 := keepc hb q1_1
  replace HX0 := Lib.hid (HX0.out.late hb)
  replace HX1 := Lib.hid (HX1.out.late hb)
  replace HB := Lib.hid (gr_then hb HB.out)
  clear hb
  go_wp2_with fail
  go_at_call 35
  (with_reducible refine (sq02_any a b c d _ hu hv).mono ?_)
  rintro e u3 ⟨rfl, hb⟩
  have hy3 := hb.size
  replace q0_0 := keepc hb q0_0
  replace q0_1 := keepc hb q0_1
  replace q1_0 := keepc hb q1_0
  replace q1_1 := keepc hb q1_1
  replace HX0 := Lib.hid (HX0.out.late hb)
  replace HX1 := Lib.hid (HX1.out.late hb)
  replace HB := Lib.hid (gr_then hb HB.out)
  clear hb
  go_wp2_with fail
  go_at_call 34
  (with_reducible refine (root02_any _ _ (by omega) (by omega)).mono ?_)
  rintro e u9 ⟨rfl, rfl⟩
  go_wp2
  go_returns
  exact ⟨rfl, HB.out⟩
end Go.Proofs.YtbdhmadgflmhmaaDoor
