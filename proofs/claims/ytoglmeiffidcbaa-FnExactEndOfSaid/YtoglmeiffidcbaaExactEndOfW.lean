/- The walk of the law FnExactEndOf: whatever the tasks are, both functions agree, and the argument reads as it did. No condition. -/
import Derived.Test.YtoglmeiffidcbaaEndOf
namespace Go.Proofs.Ytoglmeiffidcbaa.fnExactEndOf
open Go.RowKit
set_option maxHeartbeats 2000000 in
theorem walk (A : Option Addr) (n c : Nat) (zs : List Int) (w : World) (hn : n ≤ 9223372036854775807) (hz : zs.length = n * 4) (h : SI w w.heap.size A zs) :
    Calls Try.prog 7 #[.slice A n c] w fun e w' => e = .returned (.bool true) ∧ Below w.heap.size w w' := by
  have Hz := Lib.hid hz
  have H := Lib.hid h
  clear hz h
  by_cases hl : (1048576 : Int) < n
  · go_enter Try.func7, Try.ntmps7; go_wp2_with (go_at_call 21; refine (szTaskS_any _ _ _ _ _ hn (by omega) (by omega)).mono ?_; rintro e w1 ⟨rfl, rfl⟩); go_returns; exact ⟨rfl, gr_refl w⟩
  have hn2 : n ≤ 1048576 := by omega
  go_enter Try.func7, Try.ntmps7
  go_wp2_with (go_at_call 21; refine (szTaskS_any _ _ _ _ _ hn (by omega) (by omega)).mono ?_; rintro e w1 ⟨rfl, rfl⟩)
  refine (toTaskS_any _ _ _ zs _ Hz.out hn2 H.out).mono ?_; rintro e w1 ⟨rfl, hb1, hbe1⟩
  go_wp2_with fail
  refine (specEndOf_any _ _ _ zs _ Hz.out hn2 (hb1.si.more hb1.lt)).mono ?_; rintro e w2 ⟨rfl, rfl⟩
  go_wp2_with fail
  refine (toTaskS_any _ _ _ zs _ Hz.out hn2 ((H.out.below hbe1).more hbe1.size)).mono ?_; rintro e w2 ⟨rfl, hb2, hbe2⟩
  have hbe2 := gr_then hbe2 hbe1
  go_wp2_with fail
  refine (implEndOf_any _ _ _ zs _ Hz.out hn2 (hb2.si.more hb2.lt)).mono ?_; rintro e w3 ⟨rfl, hbe3⟩
  have hb3 := hb2.below hbe3 hb2.lt
  have hbe3 := gr_then hbe3 hbe2
  go_wp2_with fail
  refine (toTaskS_any _ _ _ zs _ Hz.out hn2 ((H.out.below hbe3).more hbe3.size)).mono ?_; rintro e w4 ⟨rfl, hb4, hbe4⟩
  have hb5 := hb3.below hbe4 hb3.lt
  have hbe4 := gr_then hbe4 hbe3
  go_wp2_with fail
  refine (eqTaskS_same _ _ _ _ _ zs _ Hz.out hn2 (hb5.si.more hb5.lt) (hb4.si.more hb4.lt)).mono ?_; rintro e w5 ⟨rfl, hbe5⟩
  have hbe5 := gr_then hbe5 hbe4
  go_wp2
  go_returns
  exact ⟨rfl, hbe5⟩
end Go.Proofs.Ytoglmeiffidcbaa.fnExactEndOf
