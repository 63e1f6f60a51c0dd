/- The walk of the law FnExactSameTasks: whatever the tasks are, both functions agree, and the arguments read as they did. No condition. -/
import Derived.Test.YtoglmeiffidcbaaSameTasks
namespace Go.Proofs.Ytoglmeiffidcbaa.fnExactSameTasks
open Go.RowKit
set_option maxHeartbeats 2000000 in
theorem walk (A : Option Addr) (n c : Nat) (zs : List Int) (A' : Option Addr) (n' c' : Nat) (ys : List Int) (w : World) (hn : n ≤ 9223372036854775807) (hz : zs.length = n * 4) (h : SI w w.heap.size A zs) (hn' : n' ≤ 9223372036854775807) (hy : ys.length = n' * 4) (h' : SI w w.heap.size A' ys) :
    Calls Try.prog 10 #[.slice A n c, .slice A' n' c'] w fun e w' => e = .returned (.bool true) ∧ Below w.heap.size w w' := by
  have Hz := Lib.hid hz
  have Hy := Lib.hid hy
  have H := Lib.hid h
  have H' := Lib.hid h'
  clear hz hy h h'
  by_cases hl : (1048576 : Int) < n
  · go_enter Try.func10, Try.ntmps10; go_wp2_with (go_at_call 21; refine (szTaskS_any _ _ _ _ _ (by assumption) (by omega) (by omega)).mono ?_; rintro e w1 ⟨rfl, rfl⟩); go_returns; exact ⟨rfl, gr_refl w⟩
  by_cases hl' : (1048576 : Int) - n < n'
  · go_enter Try.func10, Try.ntmps10; go_wp2_with (go_at_call 21; refine (szTaskS_any _ _ _ _ _ (by assumption) (by omega) (by omega)).mono ?_; rintro e w1 ⟨rfl, rfl⟩); go_returns; exact ⟨rfl, gr_refl w⟩
  have hn2 : n ≤ 1048576 := by omega
  have hn2' : n' ≤ 1048576 := by omega
  go_enter Try.func10, Try.ntmps10
  go_wp2_with (go_at_call 21; refine (szTaskS_any _ _ _ _ _ (by assumption) (by omega) (by omega)).mono ?_; rintro e w1 ⟨rfl, rfl⟩)
  refine (toTaskS_any _ _ _ zs _ Hz.out hn2 H.out).mono ?_; rintro e w1 ⟨rfl, hb1, hbe1⟩
  go_wp2_with fail
  refine (toTaskS_any _ _ _ ys _ Hy.out hn2' ((H'.out.below hbe1).more hbe1.size)).mono ?_; rintro e w2 ⟨rfl, hb2, hbe2⟩
  have hb1 := hb1.below hbe2 hb1.lt
  have hbe2 := gr_then hbe2 hbe1
  go_wp2_with fail
  refine (specSameTasks_any _ _ _ _ _ _ zs ys _ hn2 hn2' Hz.out Hy.out (hb1.si.more hb1.lt) (hb2.si.more hb2.lt)).mono ?_; rintro e w3 ⟨rfl, q, rfl⟩
  have hbe3 : Below w.heap.size w (w2.drewN q) := gr_drewN hbe2
  go_wp2_with fail
  refine (toTaskS_any _ _ _ zs _ Hz.out hn2 ((H.out.below hbe3).more hbe3.size)).mono ?_; rintro e w4 ⟨rfl, hb4, hbe4⟩
  have hbe4 := gr_then hbe4 hbe3
  go_wp2_with fail
  refine (toTaskS_any _ _ _ ys _ Hy.out hn2' ((H'.out.below hbe4).more hbe4.size)).mono ?_; rintro e w5 ⟨rfl, hb5, hbe5⟩
  have hb4 := hb4.below hbe5 hb4.lt
  have hbe5 := gr_then hbe5 hbe4
  go_wp2_with fail
  refine (implSameTasks_any _ _ _ _ _ _ zs ys _ hn2 hn2' Hz.out Hy.out (hb4.si.more hb4.lt) (hb5.si.more hb5.lt)).mono ?_; rintro e w6 ⟨rfl, q2, rfl⟩
  have hb4 := hb4.drewN q2
  have hb5 := hb5.drewN q2
  have hbe6 : Below w.heap.size w (w5.drewN q2) := gr_drewN hbe5
  go_wp2_with fail
  refine (toTaskS_any _ _ _ zs _ Hz.out hn2 ((H.out.below hbe6).more hbe6.size)).mono ?_; rintro e w7 ⟨rfl, hb7, hbe7⟩
  have hb4 := hb4.below hbe7 hb4.lt
  have hb5 := hb5.below hbe7 hb5.lt
  have hbe7 := gr_then hbe7 hbe6
  go_wp2_with fail
  refine (eqTaskS_same _ _ _ _ _ zs _ Hz.out hn2 (hb4.si.more hb4.lt) (hb7.si.more hb7.lt)).mono ?_; rintro e w8 ⟨rfl, hbe8⟩
  have hb5 := hb5.below hbe8 hb5.lt
  have hbe8 := gr_then hbe8 hbe7
  go_wp2_with fail
  refine (toTaskS_any _ _ _ ys _ Hy.out hn2' ((H'.out.below hbe8).more hbe8.size)).mono ?_; rintro e w9 ⟨rfl, hb9, hbe9⟩
  have hb5 := hb5.below hbe9 hb5.lt
  have hbe9 := gr_then hbe9 hbe8
  go_wp2_with fail
  refine (eqTaskS_same _ _ _ _ _ ys _ Hy.out hn2' (hb5.si.more hb5.lt) (hb9.si.more hb9.lt)).mono ?_; rintro e w10 ⟨rfl, hbe10⟩
  have hbe10 := gr_then hbe10 hbe9
  go_wp2
  go_returns
  exact ⟨rfl, hbe10⟩
end Go.Proofs.Ytoglmeiffidcbaa.fnExactSameTasks
