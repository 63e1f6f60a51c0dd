/- Marks of motions. -/
import Derived.Test.YtoojnfdphjdocaaDoorOwn
import Derived.Test.YtoojnfdphjdocaaDoorMotB
namespace Go.Proofs.YtoojnfdphjdocaaDoor
open Go.RowKit
set_option maxHeartbeats 2000000 in
theorem markMotion_any (s : Int) (A : Option Addr) (c : Nat) (xs : List Int) (k : Int) (lo hi : Nat) (w : World) (hn : xs.length ≤ 1048576) (hk : 0 ≤ k ∧ k ≤ 1048576000) (h : RS (.int .i64) 2 w lo hi A c xs) : Calls Tryd.prog 12 #[.agg #[.int .i64 s, .slice A xs.length c], .int .i64 k] w fun e w' => e = .returned (.int .i64 (k + xs.length)) ∧ RS (.int .i64) 2 w' lo hi A c (seqI k xs.length) ∧ Only lo hi w w' := by
  have hb0 : Below w.heap.size w (w.alloc (.cells #[.int .i64 s, .slice A xs.length c] 27)) := gr_alloc (gr_refl w)
  have H := Lib.hid (h.late hb0)
  have HB0 := Lib.hid hb0
  clear h hb0
  go_enter Tryd.func12, Tryd.ntmps12; go_wp2_with (go_at_call 29; (with_reducible refine (markInt64S_any _ _ xs k lo hi _ hn hk H.out).mono ?_); rintro e w1 ⟨rfl, hr, ho⟩; have HR := Lib.hid hr; have HO := Lib.hid ho; clear hr ho)
  go_ret
  exact ⟨rfl, HR.out, (Only.of_below HB0.out).trans HO.out⟩
set_option maxHeartbeats 2000000 in
theorem heldMotion_any (s : Int) (A : Option Addr) (c : Nat) (k : Int) (n : Nat) (w : World) (hn : n ≤ 1048576) (hk : 0 ≤ k ∧ k ≤ 1048576000) (h : SV (.int .i64) w w.heap.size A (seqI k n)) : Calls Tryd.prog 13 #[.agg #[.int .i64 s, .slice A n c], .int .i64 k] w fun e w' => e = .returned (.int .i64 (k + n)) ∧ Below w.heap.size w w' := by
  have hb0 : Below w.heap.size w (w.alloc (.cells #[.int .i64 s, .slice A n c] 27)) := gr_alloc (gr_refl w)
  have H := Lib.hid (h.later hb0)
  have HB0 := Lib.hid hb0
  clear h hb0
  obtain ⟨hk0, hk1⟩ := hk
  go_enter Tryd.func13, Tryd.ntmps13; go_wp2_with (go_at_call 30; (with_reducible refine (heldInt64S_any _ _ k n _ hn ⟨hk0, hk1⟩ H.out).mono ?_); rintro e w1 ⟨rfl, rfl⟩)
  go_ret
  exact ⟨rfl, HB0.out⟩
end Go.Proofs.YtoojnfdphjdocaaDoor
