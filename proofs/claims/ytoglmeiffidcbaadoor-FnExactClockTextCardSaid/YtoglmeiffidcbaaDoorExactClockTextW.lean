/- The walk of the law FnExactClockText: whatever came in, both functions agree. The table of powers of ten stands as the row lays it. -/
import Derived.Test.YtoglmeiffidcbaaDoorClk
namespace Go.Proofs.YtoglmeiffidcbaaDoor.fnExactClockText
open Go.RowKit
set_option maxHeartbeats 2000000 in
theorem walk (s : Int) (_ : -9223372036854775808 ≤ s ∧ s ≤ 9223372036854775807) (w : World) (hp : Pow10 w) : Calls Tryd.prog 3 #[.int .i64 s] w fun e w' => e = .returned (.bool true) ∧ Below w.heap.size w w' := by
  obtain ⟨T, hT⟩ : ∃ T, ckS s = T := ⟨_, rfl⟩
  obtain ⟨C, hC⟩ : ∃ T, ckC s = T := ⟨_, rfl⟩
  have HS : Hid (∀ w : World, Calls Tryd.prog 6 #[.int .i64 s] w fun e w' => e = .returned (.tuple #[.string T, .int .i64 C]) ∧ Below w.heap.size w w') := fun w => by have h9 := specCk_any s w; rw [hT, hC] at h9; exact h9
  have HI : Hid (∀ w : World, Pow10 w → Calls Tryd.prog 7 #[.int .i64 s] w fun e w' => e = .returned (.tuple #[.string T, .int .i64 C]) ∧ Below w.heap.size w w') := fun w hw => by have h9 := implCk_any s w hw; rw [hT, hC] at h9; exact h9
  clear hT hC
  have HP := Lib.hid hp
  clear hp
  go_enter Tryd.func3, Tryd.ntmps3
  go_wp2_with fail
  go_at_call 6
  (with_reducible refine (HS.out _).mono ?_)
  rintro e w1 ⟨rfl, hb⟩
  have HB1 := Lib.hid hb
  clear hb
  go_wp2_with fail
  go_at_call 7
  (with_reducible refine (HI.out _ (HP.out.later HB1.out)).mono ?_)
  rintro e w2 ⟨rfl, hb⟩
  have HB2 := Lib.hid (gr_then hb HB1.out)
  clear hb
  go_wp2
  go_returns
  exact ⟨rfl, HB2.out⟩
end Go.Proofs.YtoglmeiffidcbaaDoor.fnExactClockText
