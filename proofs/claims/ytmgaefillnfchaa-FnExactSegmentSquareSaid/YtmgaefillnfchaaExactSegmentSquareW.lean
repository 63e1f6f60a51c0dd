/- The walk of the law FnExactSegmentSquare: whatever the numbers are, both functions agree. No condition. -/
import Derived.Test.YtmgaefillnfchaaSegJ
import Derived.Test.YtmgaefillnfchaaSegB
import Derived.Deep.RegionHeld3
import Derived.Deep.DeepCutAuto
namespace Go.Proofs.Ytmgaefillnfchaa.fnExactSegmentSquare
open Go.RowKit
set_option maxHeartbeats 8000000 in
theorem walk (a b c d e f g h : Int) (_ : -9223372036854775808 ≤ a ∧ a ≤ 9223372036854775807) (_ : -9223372036854775808 ≤ b ∧ b ≤ 9223372036854775807) (_ : -9223372036854775808 ≤ c ∧ c ≤ 9223372036854775807) (_ : -9223372036854775808 ≤ d ∧ d ≤ 9223372036854775807) (_ : -9223372036854775808 ≤ e ∧ e ≤ 9223372036854775807) (_ : -9223372036854775808 ≤ f ∧ f ≤ 9223372036854775807) (_ : -9223372036854775808 ≤ g ∧ g ≤ 9223372036854775807) (_ : -9223372036854775808 ≤ h ∧ h ≤ 9223372036854775807) (w : World) :
    Calls Try.prog 7 #[.agg #[.int .i64 a, .int .i64 b, .int .i64 c, .int .i64 d], .agg #[.int .i64 e, .int .i64 f, .int .i64 g, .int .i64 h]] w fun ee w' => ee = .returned (.bool true) ∧ Below w.heap.size w w' := by
  go_enter Try.func7, Try.ntmps7
  go_wp2
  have HW : Below w.heap.size w (((w).alloc (.cells #[.int .i64 a, .int .i64 b, .int .i64 c, .int .i64 d] 25)).alloc (.cells #[.int .i64 e, .int .i64 f, .int .i64 g, .int .i64 h] 25)) := gr_alloc (gr_alloc (gr_refl w))
  have c0 : (((w).alloc (.cells #[.int .i64 a, .int .i64 b, .int .i64 c, .int .i64 d] 25)).alloc (.cells #[.int .i64 e, .int .i64 f, .int .i64 g, .int .i64 h] 25)).cell? ⟨w.heap.size, 0, none⟩ = some (.int .i64 a) := by simp [go_sem]
  have c1 : (((w).alloc (.cells #[.int .i64 a, .int .i64 b, .int .i64 c, .int .i64 d] 25)).alloc (.cells #[.int .i64 e, .int .i64 f, .int .i64 g, .int .i64 h] 25)).cell? ⟨w.heap.size, 1, none⟩ = some (.int .i64 b) := by simp [go_sem]
  have c2 : (((w).alloc (.cells #[.int .i64 a, .int .i64 b, .int .i64 c, .int .i64 d] 25)).alloc (.cells #[.int .i64 e, .int .i64 f, .int .i64 g, .int .i64 h] 25)).cell? ⟨w.heap.size, 2, none⟩ = some (.int .i64 c) := by simp [go_sem]
  have c3 : (((w).alloc (.cells #[.int .i64 a, .int .i64 b, .int .i64 c, .int .i64 d] 25)).alloc (.cells #[.int .i64 e, .int .i64 f, .int .i64 g, .int .i64 h] 25)).cell? ⟨w.heap.size, 3, none⟩ = some (.int .i64 d) := by simp [go_sem]
  have c4 : (((w).alloc (.cells #[.int .i64 a, .int .i64 b, .int .i64 c, .int .i64 d] 25)).alloc (.cells #[.int .i64 e, .int .i64 f, .int .i64 g, .int .i64 h] 25)).cell? ⟨w.heap.size + 1, 0, none⟩ = some (.int .i64 e) := by simp [go_sem]
  have c5 : (((w).alloc (.cells #[.int .i64 a, .int .i64 b, .int .i64 c, .int .i64 d] 25)).alloc (.cells #[.int .i64 e, .int .i64 f, .int .i64 g, .int .i64 h] 25)).cell? ⟨w.heap.size + 1, 1, none⟩ = some (.int .i64 f) := by simp [go_sem]
  have c6 : (((w).alloc (.cells #[.int .i64 a, .int .i64 b, .int .i64 c, .int .i64 d] 25)).alloc (.cells #[.int .i64 e, .int .i64 f, .int .i64 g, .int .i64 h] 25)).cell? ⟨w.heap.size + 1, 2, none⟩ = some (.int .i64 g) := by simp [go_sem]
  have c7 : (((w).alloc (.cells #[.int .i64 a, .int .i64 b, .int .i64 c, .int .i64 d] 25)).alloc (.cells #[.int .i64 e, .int .i64 f, .int .i64 g, .int .i64 h] 25)).cell? ⟨w.heap.size + 1, 3, none⟩ = some (.int .i64 h) := by simp [go_sem]
  generalize ((w).alloc (.cells #[.int .i64 a, .int .i64 b, .int .i64 c, .int .i64 d] 25)).alloc (.cells #[.int .i64 e, .int .i64 f, .int .i64 g, .int .i64 h] 25) = W0 at *
  go_cut [5, 6] (fun p5 n6 wx => ∃ gg, p5 = .pointer (some ⟨gg, 0, none⟩) ∧ n6 = .int .i64 (sqE a b c d e f g h) ∧ wx.heap[gg]? = some (.cells #[.int .i64 (sqN a b c d e f g h), .int .i64 (sqD a b c d e f g h)] 39 (0, 0)) ∧ Below W0.heap.size W0 wx)
  case first =>
    have hB : Below W0.heap.size W0 W0 := gr_refl _
    go_region_held3 (fun w' => w'.cell? ⟨w.heap.size, 0, none⟩ = some (.int .i64 a) ∧ w'.cell? ⟨w.heap.size, 1, none⟩ = some (.int .i64 b) ∧ w'.cell? ⟨w.heap.size, 2, none⟩ = some (.int .i64 c) ∧ w'.cell? ⟨w.heap.size, 3, none⟩ = some (.int .i64 d) ∧ w'.cell? ⟨w.heap.size + 1, 0, none⟩ = some (.int .i64 e) ∧ w'.cell? ⟨w.heap.size + 1, 1, none⟩ = some (.int .i64 f) ∧ w'.cell? ⟨w.heap.size + 1, 2, none⟩ = some (.int .i64 g) ∧ w'.cell? ⟨w.heap.size + 1, 3, none⟩ = some (.int .i64 h)) ((refine ⟨grc (W := W0) ?_ c0, grc (W := W0) ?_ c1, grc (W := W0) ?_ c2, grc (W := W0) ?_ c3, grc (W := W0) ?_ c4, grc (W := W0) ?_ c5, grc (W := W0) ?_ c6, grc (W := W0) ?_ c7⟩; all_goals (repeat' first | exact gr_refl _ | with_reducible assumption | with_reducible apply gr_alloc | with_reducible apply gr_set | with_reducible apply gr_drew | with_reducible apply gr_drewN | (dsimp only; omega) | (dsimp only; simp only [World.size_alloc, World.size_setCell]; omega)); done)) (first | (go_at_call 11; refine (toSegment_any _ _ _ _ _).mono ?_; rintro e w1 ⟨rfl, hb⟩; have hB : Below W0.heap.size W0 w1 := gr_then hb (by repeat' first | exact gr_refl _ | with_reducible assumption | with_reducible apply gr_alloc | with_reducible apply gr_set | with_reducible apply gr_drew | with_reducible apply gr_drewN | (dsimp only; omega) | (dsimp only; simp only [World.size_alloc, World.size_setCell]; omega)); have hz := hB.size; (first | have hF := late hF hb | have hF := late (heap_alloc_new _ (.cells #[.int .i64 0, .int .i64 0] 39)) hb | have hF := late (heap_drew_new _ (.cells #[.int .i64 0, .int .i64 0] 39)) hb | skip); (first | (have hG := two_cells hF; obtain ⟨i0, i1, i2, i3, i4⟩ := hG) | skip)) | (go_at_call 21; refine (specSq_any _ _ _ _ _ _ _ _ _).mono ?_; rintro e w1 ⟨rfl, hb⟩; have hB : Below W0.heap.size W0 w1 := gr_then hb (by repeat' first | exact gr_refl _ | with_reducible assumption | with_reducible apply gr_alloc | with_reducible apply gr_set | with_reducible apply gr_drew | with_reducible apply gr_drewN | (dsimp only; omega) | (dsimp only; simp only [World.size_alloc, World.size_setCell]; omega)); have hz := hB.size; (first | have hF := late hF hb | have hF := late (heap_alloc_new _ (.cells #[.int .i64 0, .int .i64 0] 39)) hb | have hF := late (heap_drew_new _ (.cells #[.int .i64 0, .int .i64 0] 39)) hb | skip); (first | (have hG := two_cells hF; obtain ⟨i0, i1, i2, i3, i4⟩ := hG) | skip)))
    all_goals (go_wp2; go_meet; refine ⟨_, rfl, rfl, ?_, by repeat' first | exact gr_refl _ | with_reducible assumption | with_reducible apply gr_alloc | with_reducible apply gr_set | with_reducible apply gr_drew | with_reducible apply gr_drewN | (dsimp only; omega) | (dsimp only; simp only [World.size_alloc, World.size_setCell]; omega)⟩; first | exact heap_alloc_new _ _ | exact put2 hF)
  case rest =>
    obtain ⟨gg, rfl, rfl, hg, hbe⟩ := hcut
    replace c0 := grc hbe c0
    replace c1 := grc hbe c1
    replace c2 := grc hbe c2
    replace c3 := grc hbe c3
    replace c4 := grc hbe c4
    replace c5 := grc hbe c5
    replace c6 := grc hbe c6
    replace c7 := grc hbe c7
    replace HW := gr_then hbe HW
    clear hbe
    go_wp2
    go_cut [7, 8] (fun p5 n6 wx => ∃ gg, p5 = .pointer (some ⟨gg, 0, none⟩) ∧ n6 = .int .i64 (sqE a b c d e f g h) ∧ wx.heap[gg]? = some (.cells #[.int .i64 (sqN a b c d e f g h), .int .i64 (sqD a b c d e f g h)] 39 (0, 0)) ∧ Below wc.heap.size wc wx)
    case first =>
      have hB : Below wc.heap.size wc wc := gr_refl _
      go_region_held3 (fun w' => w'.cell? ⟨w.heap.size, 0, none⟩ = some (.int .i64 a) ∧ w'.cell? ⟨w.heap.size, 1, none⟩ = some (.int .i64 b) ∧ w'.cell? ⟨w.heap.size, 2, none⟩ = some (.int .i64 c) ∧ w'.cell? ⟨w.heap.size, 3, none⟩ = some (.int .i64 d) ∧ w'.cell? ⟨w.heap.size + 1, 0, none⟩ = some (.int .i64 e) ∧ w'.cell? ⟨w.heap.size + 1, 1, none⟩ = some (.int .i64 f) ∧ w'.cell? ⟨w.heap.size + 1, 2, none⟩ = some (.int .i64 g) ∧ w'.cell? ⟨w.heap.size + 1, 3, none⟩ = some (.int .i64 h)) ((refine ⟨grc (W := wc) ?_ c0, grc (W := wc) ?_ c1, grc (W := wc) ?_ c2, grc (W := wc) ?_ c3, grc (W := wc) ?_ c4, grc (W := wc) ?_ c5, grc (W := wc) ?_ c6, grc (W := wc) ?_ c7⟩; all_goals (repeat' first | exact gr_refl _ | with_reducible assumption | with_reducible apply gr_alloc | with_reducible apply gr_set | with_reducible apply gr_drew | with_reducible apply gr_drewN | (dsimp only; omega) | (dsimp only; simp only [World.size_alloc, World.size_setCell]; omega)); done)) (first | (go_at_call 11; refine (toSegment_any _ _ _ _ _).mono ?_; rintro e w1 ⟨rfl, hb⟩; have hB : Below wc.heap.size wc w1 := gr_then hb (by repeat' first | exact gr_refl _ | with_reducible assumption | with_reducible apply gr_alloc | with_reducible apply gr_set | with_reducible apply gr_drew | with_reducible apply gr_drewN | (dsimp only; omega) | (dsimp only; simp only [World.size_alloc, World.size_setCell]; omega)); have hz := hB.size; (first | have hF := late hF hb | have hF := late (heap_alloc_new _ (.cells #[.int .i64 0, .int .i64 0] 39)) hb | have hF := late (heap_drew_new _ (.cells #[.int .i64 0, .int .i64 0] 39)) hb | skip); (first | (have hG := two_cells hF; obtain ⟨i0, i1, i2, i3, i4⟩ := hG) | skip)) | (go_at_call 22; refine (implSq_any _ _ _ _ _ _ _ _ _).mono ?_; rintro e w1 ⟨rfl, hb⟩; have hB : Below wc.heap.size wc w1 := gr_then hb (by repeat' first | exact gr_refl _ | with_reducible assumption | with_reducible apply gr_alloc | with_reducible apply gr_set | with_reducible apply gr_drew | with_reducible apply gr_drewN | (dsimp only; omega) | (dsimp only; simp only [World.size_alloc, World.size_setCell]; omega)); have hz := hB.size; (first | have hF := late hF hb | have hF := late (heap_alloc_new _ (.cells #[.int .i64 0, .int .i64 0] 39)) hb | have hF := late (heap_drew_new _ (.cells #[.int .i64 0, .int .i64 0] 39)) hb | skip); (first | (have hG := two_cells hF; obtain ⟨i0, i1, i2, i3, i4⟩ := hG) | skip)))
      all_goals (go_wp2; go_meet; refine ⟨_, rfl, rfl, ?_, by repeat' first | exact gr_refl _ | with_reducible assumption | with_reducible apply gr_alloc | with_reducible apply gr_set | with_reducible apply gr_drew | with_reducible apply gr_drewN | (dsimp only; omega) | (dsimp only; simp only [World.size_alloc, World.size_setCell]; omega)⟩; first | exact heap_alloc_new _ _ | exact put2 hF)
    case rest =>
      obtain ⟨gg2, rfl, rfl, hg2, hbe2⟩ := hcut
      obtain ⟨_, j1, j2, j3, j4⟩ := two_cells (late hg hbe2)
      obtain ⟨_, l1, l2, l3, l4⟩ := two_cells hg2
      have HE := Lib.hid (gr_then hbe2 HW)
      clear c0 c1 c2 c3 c4 c5 c6 c7 hg hg2 hbe2 HW
      go_wp2_with (go_at_call 20; refine (eqFraction_same _ _ _).mono ?_; rintro e w1 ⟨rfl, hb⟩)
      go_returns
      exact ⟨rfl, gr_then hb HE.out⟩
end Go.Proofs.Ytmgaefillnfchaa.fnExactSegmentSquare
