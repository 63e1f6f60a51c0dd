/- The walk of the law FnExactSlowerSpeeds: whatever the numbers are, both functions agree. No condition. -/
import Derived.Test.YtoglmeiffidcbaaSlowI
namespace Go.Proofs.Ytoglmeiffidcbaa.fnExactSlowerSpeeds
open Go.RowKit
theorem box4 {w w1 : World} {t : TypeId} {x y z u : Value} (h : Below (w.alloc (.cells #[x, y, z, u] t)).heap.size (w.alloc (.cells #[x, y, z, u] t)) w1) : w1.cell? ⟨w.heap.size, 0, none⟩ = some x ∧ w1.cell? ⟨w.heap.size, 1, none⟩ = some y ∧ w1.cell? ⟨w.heap.size, 2, none⟩ = some z ∧ w1.cell? ⟨w.heap.size, 3, none⟩ = some u := by
  have hw1 := (h.block w.heap.size (by simp)).trans (heap_alloc_new w (.cells #[x, y, z, u] t))
  refine ⟨?_, ?_, ?_, ?_⟩ <;> (rw [cell_of_row _ _ _ _ _ _ hw1]; rfl)
set_option maxHeartbeats 2000000 in
theorem walk (a b c d p : Int) (_ : -9223372036854775808 ≤ a ∧ a ≤ 9223372036854775807) (_ : -9223372036854775808 ≤ b ∧ b ≤ 9223372036854775807) (_ : -9223372036854775808 ≤ c ∧ c ≤ 9223372036854775807) (_ : -9223372036854775808 ≤ d ∧ d ≤ 9223372036854775807) (_ : -9223372036854775808 ≤ p ∧ p ≤ 9223372036854775807) (w : World) :
    Calls Try.prog 8 #[.agg #[.int .i64 a, .int .i64 b, .int .i64 c, .int .i64 d], .int .i64 p] w fun e w' => e = .returned (.bool true) ∧ Below w.heap.size w w' := by
  go_enter Try.func8, Try.ntmps8
  go_wp2_with fail
  refine (toSpeeds_any _ _ _ _ _).mono ?_; rintro e w1 ⟨rfl, hb1⟩
  go_wp2_with fail
  refine (specSlow_any _ _ _ _ _ _).mono ?_; rintro e w2 ⟨rfl, hb2⟩
  have hB2 : Below (w.alloc (.cells #[.int .i64 a, .int .i64 b, .int .i64 c, .int .i64 d] 23)).heap.size (w.alloc (.cells #[.int .i64 a, .int .i64 b, .int .i64 c, .int .i64 d] 23)) w2 := gr_then hb2 hb1
  obtain ⟨c0, c1, c2, c3⟩ := box4 hB2
  have hz2 : w.heap.size < w2.heap.size := by have := hB2.size; simp at this; omega
  have HW := Lib.hid (gr_then hB2 (gr_alloc (gr_refl w)))
  clear hb1 hb2 hB2
  go_wp2_with fail
  refine (toSpeeds_any _ _ _ _ _).mono ?_; rintro e w3 ⟨rfl, hb3⟩
  go_wp2_with fail
  refine (implSlow_any _ _ _ _ _ _).mono ?_; rintro e w4 ⟨rfl, hb4⟩
  have hB4 : Below (w2.alloc (.cells #[.int .i64 (slV (slowOk (okSp a b c d) a b c d p) (slowA a p)), .int .i64 (slV (slowOk (okSp a b c d) a b c d p) (slowB b p)), .int .i64 (slV (slowOk (okSp a b c d) a b c d p) (slowB c p)), .int .i64 (slV (slowOk (okSp a b c d) a b c d p) (slowA d p))] 25)).heap.size (w2.alloc (.cells #[.int .i64 (slV (slowOk (okSp a b c d) a b c d p) (slowA a p)), .int .i64 (slV (slowOk (okSp a b c d) a b c d p) (slowB b p)), .int .i64 (slV (slowOk (okSp a b c d) a b c d p) (slowB c p)), .int .i64 (slV (slowOk (okSp a b c d) a b c d p) (slowA d p))] 25)) w4 := gr_then hb4 hb3
  obtain ⟨d0, d1, d2, d3⟩ := box4 hB4
  have hz4 : w2.heap.size < w4.heap.size := by have := hB4.size; simp at this; omega
  have HX := Lib.hid (gr_then hB4 (gr_alloc HW.out))
  clear hb3 hb4 hB4
  go_wp2
  go_returns
  refine ⟨rfl, ?_⟩
  have hfin := HX.out
  repeat' first | exact gr_refl _ | with_reducible assumption | with_reducible apply gr_alloc | with_reducible apply gr_set | with_reducible apply gr_drew | with_reducible apply gr_drewN | exact Nat.le_add_right _ _ | exact Nat.le_refl _ | (refine gr_then (by with_reducible assumption) ?_)
end Go.Proofs.Ytoglmeiffidcbaa.fnExactSlowerSpeeds
