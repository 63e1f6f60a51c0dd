/- The walk of the law FnExactSlingText: whatever came in, both functions agree. The table of powers of ten stands as the row lays it. -/
import Derived.Test.YtnmldhkcbekecaaDoorSlT
namespace Go.Proofs.YtnmldhkcbekecaaDoor.fnExactSlingText
open Go.RowKit
set_option maxHeartbeats 2000000 in
theorem walk (l s r m : Int) (_ : -9223372036854775808 ≤ l ∧ l ≤ 9223372036854775807) (_ : -9223372036854775808 ≤ s ∧ s ≤ 9223372036854775807) (_ : -9223372036854775808 ≤ r ∧ r ≤ 9223372036854775807) (_ : -9223372036854775808 ≤ m ∧ m ≤ 9223372036854775807) (w : World) (hp : Pow10 w) : Calls Tryd.prog 3 #[.agg #[.int .i64 l, .int .i64 s, .int .i64 r, .int .i64 m]] w fun e w' => e = .returned (.bool true) ∧ Below w.heap.size w w' := by
  obtain ⟨T, hT⟩ : ∃ T, slTx l s r m = T := ⟨_, rfl⟩
  have HS : Hid (∀ w : World, Calls Tryd.prog 5 #[.agg #[.int .i64 l, .int .i64 s, .int .i64 r, .int .i64 m]] w fun e w' => e = .returned (.string T) ∧ Below w.heap.size w w') := fun w => by have h9 := specSlT_any l s r m w; rw [hT] at h9; exact h9
  have HI : Hid (∀ w : World, Pow10 w → Calls Tryd.prog 7 #[.agg #[.int .i64 l, .int .i64 s, .int .i64 r, .int .i64 m]] w fun e w' => e = .returned (.string T) ∧ Below w.heap.size w w') := fun w hw => by have h9 := implSlT_any l s r m w hw; rw [hT] at h9; exact h9
  clear hT
  have HP := Lib.hid hp
  clear hp
  have HC := Lib.hid (C4.box w 23 l s r m)
  have HB0 := Lib.hid (gr_alloc (o := .cells #[.int .i64 l, .int .i64 s, .int .i64 r, .int .i64 m] 23) (gr_refl w))
  have hzz : w.heap.size + 1 ≤ (w.alloc (.cells #[.int .i64 l, .int .i64 s, .int .i64 r, .int .i64 m] 23)).heap.size := by simp
  go_enter Tryd.func3, Tryd.ntmps3
  go_wp2_with fail
  generalize w.alloc (.cells #[.int .i64 l, .int .i64 s, .int .i64 r, .int .i64 m] 23) = v0 at *
  go_at_call 6
  (with_reducible refine (toSling_any l s r m _).mono ?_)
  rintro e w1 ⟨rfl, hb⟩
  have HB1 := Lib.hid (gr_then hb HB0.out)
  have HC1 := Lib.hid (HC.out.below hb (by omega))
  have hz1 := hb.size
  clear hb
  go_wp2_with fail
  go_at_call 5
  (with_reducible refine (HS.out _).mono ?_)
  rintro e w2 ⟨rfl, hb⟩
  have HB2 := Lib.hid (gr_then hb HB1.out)
  obtain ⟨c0, c1, c2, c3⟩ := HC1.out.below hb (by omega)
  try simp only [Nat.zero_add] at c1 c2 c3
  clear hb
  go_wp2_with fail
  go_at_call 6
  (with_reducible refine (toSling_any l s r m _).mono ?_)
  rintro e w3 ⟨rfl, hb⟩
  have HB3 := Lib.hid (gr_then hb HB2.out)
  clear hb c0 c1 c2 c3
  go_wp2_with fail
  go_at_call 7
  (with_reducible refine (HI.out _ (HP.out.later HB3.out)).mono ?_)
  rintro e w4 ⟨rfl, hb⟩
  have HB4 := Lib.hid (gr_then hb HB3.out)
  clear hb
  go_wp2
  go_returns
  exact ⟨rfl, HB4.out⟩
end Go.Proofs.YtnmldhkcbekecaaDoor.fnExactSlingText
