/- The walk of the law FnExactSideOf: whatever the numbers are, both functions agree. No condition. -/
import Derived.Test.YtmgaefillnfchaaSegE
import Derived.Test.YtmgaefillnfchaaSegB
namespace Go.Proofs.Ytmgaefillnfchaa.fnExactSideOf
open Go.RowKit
set_option maxHeartbeats 4000000 in
theorem walk (a b c d x y : Int) (_ : -9223372036854775808 ≤ a ∧ a ≤ 9223372036854775807) (_ : -9223372036854775808 ≤ b ∧ b ≤ 9223372036854775807) (_ : -9223372036854775808 ≤ c ∧ c ≤ 9223372036854775807) (_ : -9223372036854775808 ≤ d ∧ d ≤ 9223372036854775807) (_ : -9223372036854775808 ≤ x ∧ x ≤ 9223372036854775807) (_ : -9223372036854775808 ≤ y ∧ y ≤ 9223372036854775807) (w : World) :
    Calls Try.prog 4 #[.agg #[.int .i64 a, .int .i64 b, .int .i64 c, .int .i64 d], .agg #[.int .i64 x, .int .i64 y]] w fun ee w' => ee = .returned (.bool true) ∧ Below w.heap.size w w' := by
  go_enter Try.func4, Try.ntmps4
  go_wp2
  have gw0 : ∀ X, (grw (((w).alloc (.cells #[.int .i64 a, .int .i64 b, .int .i64 c, .int .i64 d] 25)).alloc (.cells #[.int .i64 x, .int .i64 y] 23)) X).cell? ⟨w.heap.size, 0, none⟩ = some (.int .i64 a) := grw_cell (by simp [go_sem])
  have gw1 : ∀ X, (grw (((w).alloc (.cells #[.int .i64 a, .int .i64 b, .int .i64 c, .int .i64 d] 25)).alloc (.cells #[.int .i64 x, .int .i64 y] 23)) X).cell? ⟨w.heap.size, 1, none⟩ = some (.int .i64 b) := grw_cell (by simp [go_sem])
  have gw2 : ∀ X, (grw (((w).alloc (.cells #[.int .i64 a, .int .i64 b, .int .i64 c, .int .i64 d] 25)).alloc (.cells #[.int .i64 x, .int .i64 y] 23)) X).cell? ⟨w.heap.size, 2, none⟩ = some (.int .i64 c) := grw_cell (by simp [go_sem])
  have gw3 : ∀ X, (grw (((w).alloc (.cells #[.int .i64 a, .int .i64 b, .int .i64 c, .int .i64 d] 25)).alloc (.cells #[.int .i64 x, .int .i64 y] 23)) X).cell? ⟨w.heap.size, 3, none⟩ = some (.int .i64 d) := grw_cell (by simp [go_sem])
  have gw4 : ∀ X, (grw (((w).alloc (.cells #[.int .i64 a, .int .i64 b, .int .i64 c, .int .i64 d] 25)).alloc (.cells #[.int .i64 x, .int .i64 y] 23)) X).cell? ⟨w.heap.size + 1, 0, none⟩ = some (.int .i64 x) := grw_cell (by simp [go_sem])
  have gw5 : ∀ X, (grw (((w).alloc (.cells #[.int .i64 a, .int .i64 b, .int .i64 c, .int .i64 d] 25)).alloc (.cells #[.int .i64 x, .int .i64 y] 23)) X).cell? ⟨w.heap.size + 1, 1, none⟩ = some (.int .i64 y) := grw_cell (by simp [go_sem])
  refine wp_region_grow (by kernel_rfl) (by kernel_rfl) ?_
  repeat (go_big_quiet_step ((first | (go_at_call 11; exact grow_of (toSegment_any _ _ _ _ _)) | (go_at_call 14; exact grow_of (toPoint_any _ _ _)) | (go_at_call 13; exact grow_of (specSo_any _ _ _ _ _ _ _)))))
  refine wpQuiet_nil ?_
  rintro wq ⟨X, hX⟩
  have hQ_wq : Below (((w).alloc (.cells #[.int .i64 a, .int .i64 b, .int .i64 c, .int .i64 d] 25)).alloc (.cells #[.int .i64 x, .int .i64 y] 23)).heap.size (((w).alloc (.cells #[.int .i64 a, .int .i64 b, .int .i64 c, .int .i64 d] 25)).alloc (.cells #[.int .i64 x, .int .i64 y] 23)) wq := by rw [hX]; exact grw_below _ _
  clear hX gw0 gw1 gw2 gw3 gw4 gw5
  have cq := bcell hQ_wq
  go_wp2
  have gw0 : ∀ X, (grw (wq) X).cell? ⟨w.heap.size, 0, none⟩ = some (.int .i64 a) := grw_cell (by rw [cq.1 _ _ (by simp only [World.size_alloc]; omega)]; simp [go_sem])
  have gw1 : ∀ X, (grw (wq) X).cell? ⟨w.heap.size, 1, none⟩ = some (.int .i64 b) := grw_cell (by rw [cq.1 _ _ (by simp only [World.size_alloc]; omega)]; simp [go_sem])
  have gw2 : ∀ X, (grw (wq) X).cell? ⟨w.heap.size, 2, none⟩ = some (.int .i64 c) := grw_cell (by rw [cq.1 _ _ (by simp only [World.size_alloc]; omega)]; simp [go_sem])
  have gw3 : ∀ X, (grw (wq) X).cell? ⟨w.heap.size, 3, none⟩ = some (.int .i64 d) := grw_cell (by rw [cq.1 _ _ (by simp only [World.size_alloc]; omega)]; simp [go_sem])
  have gw4 : ∀ X, (grw (wq) X).cell? ⟨w.heap.size + 1, 0, none⟩ = some (.int .i64 x) := grw_cell (by rw [cq.1 _ _ (by simp only [World.size_alloc]; omega)]; simp [go_sem])
  have gw5 : ∀ X, (grw (wq) X).cell? ⟨w.heap.size + 1, 1, none⟩ = some (.int .i64 y) := grw_cell (by rw [cq.1 _ _ (by simp only [World.size_alloc]; omega)]; simp [go_sem])
  refine wp_region_grow (by kernel_rfl) (by kernel_rfl) ?_
  repeat (go_big_quiet_step ((first | (go_at_call 11; exact grow_of (toSegment_any _ _ _ _ _)) | (go_at_call 14; exact grow_of (toPoint_any _ _ _)) | (go_at_call 15; exact grow_of (implSo_any _ _ _ _ _ _ _)))))
  refine wpQuiet_nil ?_
  rintro wr ⟨X, hX⟩
  have hQ_wr : Below (wq).heap.size (wq) wr := by rw [hX]; exact grw_below _ _
  clear hX gw0 gw1 gw2 gw3 gw4 gw5
  clear cq
  go_wp2
  go_returns
  exact ⟨rfl, gr_then hQ_wr (gr_then hQ_wq (gr_alloc (gr_alloc (gr_refl w))))⟩
end Go.Proofs.Ytmgaefillnfchaa.fnExactSideOf
