/- SlingText, both sides. -/
import Derived.Test.YtnmldhkcbekecaaDoorDecI
import Derived.Test.YtnmldhkcbekecaaDoorSling
import Derived.Test.YtnmldhkcbekecaaDoorGrow
namespace Go.Proofs.YtnmldhkcbekecaaDoor
open Go.RowKit
def slT (l s r m : Int) : ByteArray := strB (dS l) ++ ⟨#[120]⟩ ++ strB (dS s) ++ ⟨#[47]⟩ ++ strB (dS r) ++ ⟨#[32]⟩ ++ strB (dS m)
def slTx (l s r m : Int) : ByteArray := if okSl l s r m = true then slT l s r m else ⟨#[]⟩
theorem dS_size {n : Int} (h : -9223372036854775808 ≤ n ∧ n ≤ 9223372036854775807) : (strB (dS n)).size ≤ 21 := by rw [strB_size]; exact dS_len h
set_option maxHeartbeats 4000000 in
set_option maxRecDepth 20000 in
theorem text07_any (b o : Nat) (l s r m : Int) (w : World) (h : C4 w b o l s r m) (hok : okSl l s r m = true) : Calls Tryd.prog 12 #[.pointer (some ⟨b, o, none⟩)] w fun e w' => e = .returned (.string (slT l s r m)) ∧ Below w.heap.size w w' := by
  have hb := okSl_t hok
  obtain ⟨c0, c1, c2, c3⟩ := h
  have z0 := dS_size (n := l) (by constructor <;> omega)
  have z1 := dS_size (n := s) (by constructor <;> omega)
  have z2 := dS_size (n := r) (by constructor <;> omega)
  have z3 := dS_size (n := m) (by constructor <;> omega)
  have HD : Hid (∀ n : Int, -9223372036854775808 ≤ n ∧ n ≤ 9223372036854775807 → ∀ w : World, Calls Tryd.prog 21 #[.int .i64 n] w fun e w' => e = .returned (.string (strB (dS n))) ∧ Below w.heap.size w w') := fun n hn w => dec_any n hn w
  clear hok
  go_enter Tryd.func12, Tryd.ntmps12
  go_wp2
  have gw0 : ∀ X, (grw w X).cell? ⟨b, o, none⟩ = some (.int .i64 l) := grw_cell (c0)
  have gw1 : ∀ X, (grw w X).cell? ⟨b, o + 1, none⟩ = some (.int .i64 s) := grw_cell (c1)
  have gw2 : ∀ X, (grw w X).cell? ⟨b, o + 2, none⟩ = some (.int .i64 r) := grw_cell (c2)
  have gw3 : ∀ X, (grw w X).cell? ⟨b, o + 3, none⟩ = some (.int .i64 m) := grw_cell (c3)
  refine wp_region_grow (by kernel_rfl) (by kernel_rfl) ?_
  repeat (go_big_quiet_step (((go_at_call 21; (with_reducible refine grow_of (HD.out _ (by constructor <;> omega) _))))))
  refine wpQuiet_nil ?_
  rintro wq ⟨X, hX⟩
  have HA := Lib.hid (show Below w.heap.size w wq by rw [hX]; exact grw_below _ _)
  clear hX gw0 gw1 gw2 gw3
  go_wp2
  go_ret
  exact ⟨rfl, HA.out⟩
set_option maxHeartbeats 2000000 in
theorem specSlT_any (l s r m : Int) (w : World) : Calls Tryd.prog 5 #[.agg #[.int .i64 l, .int .i64 s, .int .i64 r, .int .i64 m]] w fun e w' => e = .returned (.string (slTx l s r m)) ∧ Below w.heap.size w w' := by
  have hc4 := C4.box w 25 l s r m
  obtain ⟨q, hq⟩ : ∃ q, okSl l s r m = q := ⟨_, rfl⟩
  have HO : Hid (Calls Tryd.prog 11 #[.pointer (some ⟨w.heap.size, 0, none⟩)] (w.alloc (.cells #[.int .i64 l, .int .i64 s, .int .i64 r, .int .i64 m] 25)) fun e w' => e = .returned (.bool q) ∧ (w.alloc (.cells #[.int .i64 l, .int .i64 s, .int .i64 r, .int .i64 m] 25)) = w') := by have h9 := l07Ok_any l s r m w.heap.size 0 _ hc4; rw [hq] at h9; exact h9
  cases q
  · rw [show slTx l s r m = ⟨#[]⟩ from if_neg (by rw [hq]; decide)]
    clear hq hc4
    go_enter Tryd.func5, Tryd.ntmps5; go_wp2_with (go_at_call 11; (with_reducible refine HO.out.mono ?_); rintro e w1 ⟨rfl, rfl⟩)
    go_ret
    exact ⟨rfl, gr_alloc (gr_refl w)⟩
  · rw [show slTx l s r m = slT l s r m from if_pos hq]
    have HT := Lib.hid (text07_any w.heap.size 0 l s r m _ hc4 hq)
    clear hq hc4
    go_enter Tryd.func5, Tryd.ntmps5; go_wp2_with (first | (go_at_call 11; (with_reducible refine HO.out.mono ?_); rintro e w1 ⟨rfl, rfl⟩) | (go_at_call 12; (with_reducible refine HT.out.mono ?_); rintro e w1 ⟨rfl, hb⟩))
    go_ret
    exact ⟨rfl, gr_then hb (gr_alloc (gr_refl w))⟩
set_option maxHeartbeats 4000000 in
set_option maxRecDepth 20000 in
theorem implSlT_any (l s r m : Int) (w : World) (ht : Pow10 w) : Calls Tryd.prog 7 #[.agg #[.int .i64 l, .int .i64 s, .int .i64 r, .int .i64 m]] w fun e w' => e = .returned (.string (slTx l s r m)) ∧ Below w.heap.size w w' := by
  have HC := Lib.hid (C4.box w 25 l s r m)
  have HTT := Lib.hid (ht.later (gr_alloc (o := .cells #[.int .i64 l, .int .i64 s, .int .i64 r, .int .i64 m] 25) (gr_refl w)))
  clear ht
  obtain ⟨q, hq⟩ : ∃ q, okSl l s r m = q := ⟨_, rfl⟩
  have HO : Hid (∀ w : World, Calls Tryd.prog 13 #[.agg #[.int .i64 l, .int .i64 s, .int .i64 r, .int .i64 m]] w fun e w' => e = .returned (.bool q) ∧ Below w.heap.size w w') := fun w => by have h9 := validSling_any l s r m w; rw [hq] at h9; exact h9
  cases q
  · rw [show slTx l s r m = ⟨#[]⟩ from if_neg (by rw [hq]; decide)]
    clear hq
    go_enter Tryd.func7, Tryd.ntmps7; go_wp2_with (go_at_call 13; (with_reducible refine (HO.out _).mono ?_); rintro e w1 ⟨rfl, hb⟩)
    go_ret
    exact ⟨rfl, gr_then hb (gr_alloc (gr_refl w))⟩
  rw [show slTx l s r m = slT l s r m from if_pos hq]
  have hbd := okSl_t hq
  have z0 := dS_size (n := l) (by constructor <;> omega)
  have z1 := dS_size (n := s) (by constructor <;> omega)
  have z2 := dS_size (n := r) (by constructor <;> omega)
  have z3 := dS_size (n := m) (by constructor <;> omega)
  clear hq
  go_enter Tryd.func7, Tryd.ntmps7; go_wp2_with (go_at_call 13; (with_reducible refine (HO.out _).mono ?_); rintro e w1 ⟨rfl, hb⟩)
  obtain ⟨c0, c1, c2, c3⟩ := HC.out.below hb (by simp)
  simp only [Nat.zero_add] at c1 c2 c3
  have HB := Lib.hid (gr_then hb (gr_alloc (gr_refl w)))
  have HT1 := Lib.hid (HTT.out.later hb)
  clear hb
  have HD : Hid (∀ (n : Int), -9223372036854775808 ≤ n ∧ n ≤ 9223372036854775807 → ∀ X : World, Calls Tryd.prog 14 #[.int .i64 n] (grw w1 X) fun e w' => e = .returned (.string (strB (dS n))) ∧ Below (grw w1 X).heap.size (grw w1 X) w') := fun n hn X => decimal_any n hn _ (HT1.out.later (grw_below _ _))
  have gw0 : ∀ X, (grw w1 X).cell? ⟨w.heap.size, 0, none⟩ = some (.int .i64 l) := grw_cell (c0)
  have gw1 : ∀ X, (grw w1 X).cell? ⟨w.heap.size, 1, none⟩ = some (.int .i64 s) := grw_cell (c1)
  have gw2 : ∀ X, (grw w1 X).cell? ⟨w.heap.size, 2, none⟩ = some (.int .i64 r) := grw_cell (c2)
  have gw3 : ∀ X, (grw w1 X).cell? ⟨w.heap.size, 3, none⟩ = some (.int .i64 m) := grw_cell (c3)
  refine wp_region_grow (by kernel_rfl) (by kernel_rfl) ?_
  repeat (go_big_quiet_step (((go_at_call 14; (with_reducible refine grow_of (HD.out _ (by constructor <;> omega) _))))))
  refine wpQuiet_nil ?_
  rintro wq ⟨X, hX⟩
  have HA := Lib.hid (show Below w1.heap.size w1 wq by rw [hX]; exact grw_below _ _)
  clear hX gw0 gw1 gw2 gw3
  go_wp2
  go_ret
  exact ⟨rfl, gr_then HA.out HB.out⟩
end Go.Proofs.YtnmldhkcbekecaaDoor
