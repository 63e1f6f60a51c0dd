/- The walk of the law FnExactBaseText: whatever came in, both functions agree. The table of powers of ten stands as the row lays it. -/
import Derived.Test.YtmalbgbmapfiiaaDoorBsT
import Derived.Test.YtmalbgbmapfiiaaDoorOpenBase
namespace Go.Proofs.YtmalbgbmapfiiaaDoor.fnExactBaseText
open Go.RowKit
set_option maxHeartbeats 2000000 in
theorem walk (x0 x1 x2 x3 x4 x5 x6 : Int) (_ : -9223372036854775808 ≤ x0 ∧ x0 ≤ 9223372036854775807) (_ : -9223372036854775808 ≤ x1 ∧ x1 ≤ 9223372036854775807) (_ : -9223372036854775808 ≤ x2 ∧ x2 ≤ 9223372036854775807) (_ : -9223372036854775808 ≤ x3 ∧ x3 ≤ 9223372036854775807) (_ : -9223372036854775808 ≤ x4 ∧ x4 ≤ 9223372036854775807) (_ : -9223372036854775808 ≤ x5 ∧ x5 ≤ 9223372036854775807) (_ : -9223372036854775808 ≤ x6 ∧ x6 ≤ 9223372036854775807) (w : World) (hp : Pow10 w) : Calls Tryd.prog 4 #[.agg #[.int .i64 x0, .int .i64 x1, .int .i64 x2, .int .i64 x3, .int .i64 x4, .int .i64 x5, .int .i64 x6]] w fun e w' => e = .returned (.bool true) ∧ Below w.heap.size w w' := by
  obtain ⟨T, hT⟩ : ∃ T, btX x0 x1 x2 x3 x4 x5 x6 = T := ⟨_, rfl⟩
  have HS : Hid (∀ w : World, Calls Tryd.prog 23 #[.agg #[.int .i64 x0, .int .i64 x1, .int .i64 x2, .int .i64 x3, .int .i64 x4, .int .i64 x5, .int .i64 x6]] w fun e w' => e = .returned (.string T) ∧ Below w.heap.size w w') := fun w => by have h9 := specBt_any x0 x1 x2 x3 x4 x5 x6 w; rw [hT] at h9; exact h9
  have HI : Hid (∀ w : World, Pow10 w → Calls Tryd.prog 22 #[.agg #[.int .i64 x0, .int .i64 x1, .int .i64 x2, .int .i64 x3, .int .i64 x4, .int .i64 x5, .int .i64 x6]] w fun e w' => e = .returned (.string T) ∧ Below w.heap.size w w') := fun w hw => by have h9 := implBt_any x0 x1 x2 x3 x4 x5 x6 w hw; rw [hT] at h9; exact h9
  clear hT
  have HP := Lib.hid hp
  clear hp
  have HC := Lib.hid (C7.box w 40 x0 x1 x2 x3 x4 x5 x6)
  have HB0 := Lib.hid (gr_alloc (o := .cells #[.int .i64 x0, .int .i64 x1, .int .i64 x2, .int .i64 x3, .int .i64 x4, .int .i64 x5, .int .i64 x6] 40) (gr_refl w))
  have hzz : w.heap.size + 1 ≤ (w.alloc (.cells #[.int .i64 x0, .int .i64 x1, .int .i64 x2, .int .i64 x3, .int .i64 x4, .int .i64 x5, .int .i64 x6] 40)).heap.size := by simp
  go_enter Tryd.func4, Tryd.ntmps4
  go_wp2_with fail
  generalize (w.alloc (.cells #[.int .i64 x0, .int .i64 x1, .int .i64 x2, .int .i64 x3, .int .i64 x4, .int .i64 x5, .int .i64 x6] 40)) = v0 at *
  go_at_call 26
  (with_reducible refine (toBase_any x0 x1 x2 x3 x4 x5 x6 _).mono ?_)
  rintro e w1 ⟨rfl, hb⟩
  have HB1 := Lib.hid (gr_then hb HB0.out)
  have HC1 := Lib.hid (HC.out.below hb (by omega))
  have hz1 := hb.size
  clear hb
  go_wp2_with fail
  go_at_call 23
  (with_reducible refine (HS.out _).mono ?_)
  rintro e w2 ⟨rfl, hb⟩
  have HB2 := Lib.hid (gr_then hb HB1.out)
  obtain ⟨c0, c1, c2, c3, c4, c5, c6⟩ := HC1.out.below hb (by omega)
  clear hb
  go_wp2_with fail
  go_at_call 26
  (with_reducible refine (toBase_any x0 x1 x2 x3 x4 x5 x6 _).mono ?_)
  rintro e w3 ⟨rfl, hb⟩
  have HB3 := Lib.hid (gr_then hb HB2.out)
  clear hb c0 c1 c2 c3 c4 c5 c6
  go_wp2_with fail
  go_at_call 22
  (with_reducible refine (HI.out _ (HP.out.later HB3.out)).mono ?_)
  rintro e w4 ⟨rfl, hb⟩
  have HB4 := Lib.hid (gr_then hb HB3.out)
  clear hb
  go_wp2
  go_returns
  exact ⟨rfl, HB4.out⟩
end Go.Proofs.YtmalbgbmapfiiaaDoor.fnExactBaseText
