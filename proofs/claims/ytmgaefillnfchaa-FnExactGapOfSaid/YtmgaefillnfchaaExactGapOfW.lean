/- The walk of the law FnExactGapOf: whatever the numbers are, both functions agree. No condition. -/
import Derived.Test.YtmgaefillnfchaaSegJ
import Derived.Test.YtmgaefillnfchaaSegB
namespace Go.Proofs.Ytmgaefillnfchaa.fnExactGapOf
open Go.RowKit
set_option maxHeartbeats 4000000 in
theorem walk (a b c d e f g h : Int) (_ : -9223372036854775808 ≤ a ∧ a ≤ 9223372036854775807) (_ : -9223372036854775808 ≤ b ∧ b ≤ 9223372036854775807) (_ : -9223372036854775808 ≤ c ∧ c ≤ 9223372036854775807) (_ : -9223372036854775808 ≤ d ∧ d ≤ 9223372036854775807) (_ : -9223372036854775808 ≤ e ∧ e ≤ 9223372036854775807) (_ : -9223372036854775808 ≤ f ∧ f ≤ 9223372036854775807) (_ : -9223372036854775808 ≤ g ∧ g ≤ 9223372036854775807) (_ : -9223372036854775808 ≤ h ∧ h ≤ 9223372036854775807) (w : World) :
    Calls Try.prog 9 #[.agg #[.int .i64 a, .int .i64 b, .int .i64 c, .int .i64 d], .agg #[.int .i64 e, .int .i64 f, .int .i64 g, .int .i64 h]] w fun ee w' => ee = .returned (.bool true) ∧ Below w.heap.size w w' := by
  go_enter Try.func9, Try.ntmps9
  go_wp2
  have gw0 : ∀ X, (grw (((w).alloc (.cells #[.int .i64 a, .int .i64 b, .int .i64 c, .int .i64 d] 25)).alloc (.cells #[.int .i64 e, .int .i64 f, .int .i64 g, .int .i64 h] 25)) X).cell? ⟨w.heap.size, 0, none⟩ = some (.int .i64 a) := grw_cell (by simp [go_sem])
  have gw1 : ∀ X, (grw (((w).alloc (.cells #[.int .i64 a, .int .i64 b, .int .i64 c, .int .i64 d] 25)).alloc (.cells #[.int .i64 e, .int .i64 f, .int .i64 g, .int .i64 h] 25)) X).cell? ⟨w.heap.size, 1, none⟩ = some (.int .i64 b) := grw_cell (by simp [go_sem])
  have gw2 : ∀ X, (grw (((w).alloc (.cells #[.int .i64 a, .int .i64 b, .int .i64 c, .int .i64 d] 25)).alloc (.cells #[.int .i64 e, .int .i64 f, .int .i64 g, .int .i64 h] 25)) X).cell? ⟨w.heap.size, 2, none⟩ = some (.int .i64 c) := grw_cell (by simp [go_sem])
  have gw3 : ∀ X, (grw (((w).alloc (.cells #[.int .i64 a, .int .i64 b, .int .i64 c, .int .i64 d] 25)).alloc (.cells #[.int .i64 e, .int .i64 f, .int .i64 g, .int .i64 h] 25)) X).cell? ⟨w.heap.size, 3, none⟩ = some (.int .i64 d) := grw_cell (by simp [go_sem])
  have gw4 : ∀ X, (grw (((w).alloc (.cells #[.int .i64 a, .int .i64 b, .int .i64 c, .int .i64 d] 25)).alloc (.cells #[.int .i64 e, .int .i64 f, .int .i64 g, .int .i64 h] 25)) X).cell? ⟨w.heap.size + 1, 0, none⟩ = some (.int .i64 e) := grw_cell (by simp [go_sem])
  have gw5 : ∀ X, (grw (((w).alloc (.cells #[.int .i64 a, .int .i64 b, .int .i64 c, .int .i64 d] 25)).alloc (.cells #[.int .i64 e, .int .i64 f, .int .i64 g, .int .i64 h] 25)) X).cell? ⟨w.heap.size + 1, 1, none⟩ = some (.int .i64 f) := grw_cell (by simp [go_sem])
  have gw6 : ∀ X, (grw (((w).alloc (.cells #[.int .i64 a, .int .i64 b, .int .i64 c, .int .i64 d] 25)).alloc (.cells #[.int .i64 e, .int .i64 f, .int .i64 g, .int .i64 h] 25)) X).cell? ⟨w.heap.size + 1, 2, none⟩ = some (.int .i64 g) := grw_cell (by simp [go_sem])
  have gw7 : ∀ X, (grw (((w).alloc (.cells #[.int .i64 a, .int .i64 b, .int .i64 c, .int .i64 d] 25)).alloc (.cells #[.int .i64 e, .int .i64 f, .int .i64 g, .int .i64 h] 25)) X).cell? ⟨w.heap.size + 1, 3, none⟩ = some (.int .i64 h) := grw_cell (by simp [go_sem])
  refine wp_region_grow (by kernel_rfl) (by kernel_rfl) ?_
  repeat (go_big_quiet_step ((first | (go_at_call 11; exact grow_of (toSegment_any _ _ _ _ _)) | (go_at_call 25; exact grow_of (specGp_any _ _ _ _ _ _ _ _ _)))))
  refine wpQuiet_nil ?_
  rintro wq ⟨X, hX⟩
  have hQ_wq : Below (((w).alloc (.cells #[.int .i64 a, .int .i64 b, .int .i64 c, .int .i64 d] 25)).alloc (.cells #[.int .i64 e, .int .i64 f, .int .i64 g, .int .i64 h] 25)).heap.size (((w).alloc (.cells #[.int .i64 a, .int .i64 b, .int .i64 c, .int .i64 d] 25)).alloc (.cells #[.int .i64 e, .int .i64 f, .int .i64 g, .int .i64 h] 25)) wq := by rw [hX]; exact grw_below _ _
  clear hX gw0 gw1 gw2 gw3 gw4 gw5 gw6 gw7
  have cq := bcell hQ_wq
  go_wp2
  have gw0 : ∀ X, (grw (wq) X).cell? ⟨w.heap.size, 0, none⟩ = some (.int .i64 a) := grw_cell (by rw [cq.1 _ _ (by simp only [World.size_alloc]; omega)]; simp [go_sem])
  have gw1 : ∀ X, (grw (wq) X).cell? ⟨w.heap.size, 1, none⟩ = some (.int .i64 b) := grw_cell (by rw [cq.1 _ _ (by simp only [World.size_alloc]; omega)]; simp [go_sem])
  have gw2 : ∀ X, (grw (wq) X).cell? ⟨w.heap.size, 2, none⟩ = some (.int .i64 c) := grw_cell (by rw [cq.1 _ _ (by simp only [World.size_alloc]; omega)]; simp [go_sem])
  have gw3 : ∀ X, (grw (wq) X).cell? ⟨w.heap.size, 3, none⟩ = some (.int .i64 d) := grw_cell (by rw [cq.1 _ _ (by simp only [World.size_alloc]; omega)]; simp [go_sem])
  have gw4 : ∀ X, (grw (wq) X).cell? ⟨w.heap.size + 1, 0, none⟩ = some (.int .i64 e) := grw_cell (by rw [cq.1 _ _ (by simp only [World.size_alloc]; omega)]; simp [go_sem])
  have gw5 : ∀ X, (grw (wq) X).cell? ⟨w.heap.size + 1, 1, none⟩ = some (.int .i64 f) := grw_cell (by rw [cq.1 _ _ (by simp only [World.size_alloc]; omega)]; simp [go_sem])
  have gw6 : ∀ X, (grw (wq) X).cell? ⟨w.heap.size + 1, 2, none⟩ = some (.int .i64 g) := grw_cell (by rw [cq.1 _ _ (by simp only [World.size_alloc]; omega)]; simp [go_sem])
  have gw7 : ∀ X, (grw (wq) X).cell? ⟨w.heap.size + 1, 3, none⟩ = some (.int .i64 h) := grw_cell (by rw [cq.1 _ _ (by simp only [World.size_alloc]; omega)]; simp [go_sem])
  refine wp_region_grow (by kernel_rfl) (by kernel_rfl) ?_
  repeat (go_big_quiet_step ((first | (go_at_call 11; exact grow_of (toSegment_any _ _ _ _ _)) | (go_at_call 26; exact grow_of (implGp_any _ _ _ _ _ _ _ _ _)))))
  refine wpQuiet_nil ?_
  rintro wr ⟨X, hX⟩
  have hQ_wr : Below (wq).heap.size (wq) wr := by rw [hX]; exact grw_below _ _
  clear hX gw0 gw1 gw2 gw3 gw4 gw5 gw6 gw7
  clear cq
  go_wp2
  go_returns
  exact ⟨rfl, gr_then hQ_wr (gr_then hQ_wq (gr_alloc (gr_alloc (gr_refl w))))⟩
end Go.Proofs.Ytmgaefillnfchaa.fnExactGapOf
