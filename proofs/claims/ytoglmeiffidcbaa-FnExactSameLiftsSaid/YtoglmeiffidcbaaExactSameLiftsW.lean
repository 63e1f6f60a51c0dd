/- The walk of the law FnExactSameLifts: whatever the lifts are, both functions agree, and the arguments read as they did. No condition. -/
import Derived.Test.YtoglmeiffidcbaaLiftG
namespace Go.Proofs.Ytoglmeiffidcbaa.fnExactSameLifts
open Go.RowKit
set_option maxHeartbeats 4000000 in
theorem walk (A : Option Addr) (n c : Nat) (ls : List Lf) (A' : Option Addr) (n' c' : Nat) (ms : List Lf) (w : World) (h : n ≤ 9223372036854775807 ∧ ls.length = n ∧ (∀ x ∈ ls, x.ok) ∧ LV w w.heap.size A ls) (h' : n' ≤ 9223372036854775807 ∧ ms.length = n' ∧ (∀ x ∈ ms, x.ok) ∧ LV w w.heap.size A' ms) :
    Calls Try.prog 11 #[.slice A n c, .slice A' n' c'] w fun e w' => e = .returned (.bool true) ∧ Below w.heap.size w w' := by
  obtain ⟨hn, hl, hok, hs⟩ := h
  obtain ⟨hn', hl', hok', hs'⟩ := h'
  subst hl
  subst hl'
  have HOK := Lib.hid hok
  have HOK' := Lib.hid hok'
  have H := Lib.hid hs
  have H' := Lib.hid hs'
  have HB0 := Lib.hid (gr_refl w)
  clear hok hok' hs hs'
  go_enter Try.func11, Try.ntmps11
  go_wp2_with fail
  go_at_call 33
  (with_reducible refine (szLiftS_any A c (1048576) ls _ hn HOK.out (H.out.later HB0.out) (by omega) (by omega)).mono ?_)
  rintro e w1 ⟨r1, rfl, hm1, hr1, hz1, hb⟩
  have HB1 := Lib.hid (gr_then hb HB0.out)
  clear hb
  by_cases hd1 : r1 < 0
  · go_wp2; go_returns; exact ⟨rfl, HB1.out⟩
  have HZ1 := Lib.hid (hz1 (by omega))
  have he1 : decide (r1 < 0) = false := decide_eq_false hd1
  clear hz1
  go_wp2_with fail
  go_at_call 33
  (with_reducible refine (szLiftS_any A' c' (r1) ms _ hn' HOK'.out (H'.out.later HB1.out) (by omega) (by omega)).mono ?_)
  rintro e w2 ⟨r2, rfl, hm2, hr2, hz2, hb⟩
  have HB2 := Lib.hid (gr_then hb HB1.out)
  clear hb
  by_cases hd2 : r2 < 0
  · go_wp2; go_returns; exact ⟨rfl, HB2.out⟩
  have HZ2 := Lib.hid (hz2 (by omega))
  have he2 : decide (r2 < 0) = false := decide_eq_false hd2
  clear hz2
  go_wp2_with fail
  go_at_call 35
  (with_reducible refine (toLiftS_any A c ls _ HZ1.out (H.out.later HB2.out)).mono ?_)
  rintro e w3 ⟨rfl, hv, hb⟩
  have HV3 := Lib.hid hv
  have HB3 := Lib.hid (gr_then hb HB2.out)
  clear hv hb
  go_wp2_with fail
  go_at_call 35
  (with_reducible refine (toLiftS_any A' c' ms _ HZ2.out (H'.out.later HB3.out)).mono ?_)
  rintro e w4 ⟨rfl, hv, hb⟩
  replace HV3 := Lib.hid (HV3.out.later hb)
  have HV4 := Lib.hid hv
  have HB4 := Lib.hid (gr_then hb HB3.out)
  clear hv hb
  go_wp2_with fail
  go_at_call 34
  (with_reducible refine (specSl_any _ _ _ _ ls ms _ HZ1.out HZ2.out HV3.out HV4.out).mono ?_)
  rintro e w5 ⟨rfl, hq⟩
  have hb : Below w4.heap.size w4 w5 := by obtain ⟨q, rfl⟩ := hq; exact gr_drewN (gr_refl _)
  replace HV3 := Lib.hid (HV3.out.later hb)
  replace HV4 := Lib.hid (HV4.out.later hb)
  have HB5 := Lib.hid (gr_then hb HB4.out)
  clear hb
  go_wp2_with fail
  go_at_call 35
  (with_reducible refine (toLiftS_any A c ls _ HZ1.out (H.out.later HB5.out)).mono ?_)
  rintro e w6 ⟨rfl, hv, hb⟩
  replace HV3 := Lib.hid (HV3.out.later hb)
  replace HV4 := Lib.hid (HV4.out.later hb)
  have HV6 := Lib.hid hv
  have HB6 := Lib.hid (gr_then hb HB5.out)
  clear hv hb
  go_wp2_with fail
  go_at_call 35
  (with_reducible refine (toLiftS_any A' c' ms _ HZ2.out (H'.out.later HB6.out)).mono ?_)
  rintro e w7 ⟨rfl, hv, hb⟩
  replace HV3 := Lib.hid (HV3.out.later hb)
  replace HV4 := Lib.hid (HV4.out.later hb)
  replace HV6 := Lib.hid (HV6.out.later hb)
  have HV7 := Lib.hid hv
  have HB7 := Lib.hid (gr_then hb HB6.out)
  clear hv hb
  go_wp2_with fail
  go_at_call 36
  (with_reducible refine (implSl_any _ _ _ _ ls ms _ HZ1.out HZ2.out HV6.out HV7.out).mono ?_)
  rintro e w8 ⟨rfl, hb⟩
  replace HV3 := Lib.hid (HV3.out.later hb)
  replace HV4 := Lib.hid (HV4.out.later hb)
  replace HV6 := Lib.hid (HV6.out.later hb)
  replace HV7 := Lib.hid (HV7.out.later hb)
  have HB8 := Lib.hid (gr_then hb HB7.out)
  clear hb
  go_wp2_with fail
  go_at_call 35
  (with_reducible refine (toLiftS_any A c ls _ HZ1.out (H.out.later HB8.out)).mono ?_)
  rintro e w9 ⟨rfl, hv, hb⟩
  replace HV3 := Lib.hid (HV3.out.later hb)
  replace HV4 := Lib.hid (HV4.out.later hb)
  replace HV6 := Lib.hid (HV6.out.later hb)
  replace HV7 := Lib.hid (HV7.out.later hb)
  have HV9 := Lib.hid hv
  have HB9 := Lib.hid (gr_then hb HB8.out)
  clear hv hb
  go_wp2_with fail
  go_at_call 37
  (with_reducible refine (eqLiftS_same _ _ _ _ ls _ HZ1.out HV6.out HV9.out).mono ?_)
  rintro e w10 ⟨rfl, hb⟩
  replace HV3 := Lib.hid (HV3.out.later hb)
  replace HV4 := Lib.hid (HV4.out.later hb)
  replace HV6 := Lib.hid (HV6.out.later hb)
  replace HV7 := Lib.hid (HV7.out.later hb)
  replace HV9 := Lib.hid (HV9.out.later hb)
  have HB10 := Lib.hid (gr_then hb HB9.out)
  clear hb
  go_wp2_with fail
  go_at_call 35
  (with_reducible refine (toLiftS_any A' c' ms _ HZ2.out (H'.out.later HB10.out)).mono ?_)
  rintro e w11 ⟨rfl, hv, hb⟩
  replace HV3 := Lib.hid (HV3.out.later hb)
  replace HV4 := Lib.hid (HV4.out.later hb)
  replace HV6 := Lib.hid (HV6.out.later hb)
  replace HV7 := Lib.hid (HV7.out.later hb)
  replace HV9 := Lib.hid (HV9.out.later hb)
  have HV11 := Lib.hid hv
  have HB11 := Lib.hid (gr_then hb HB10.out)
  clear hv hb
  go_wp2_with fail
  go_at_call 37
  (with_reducible refine (eqLiftS_same _ _ _ _ ms _ HZ2.out HV7.out HV11.out).mono ?_)
  rintro e w12 ⟨rfl, hb⟩
  replace HV3 := Lib.hid (HV3.out.later hb)
  replace HV4 := Lib.hid (HV4.out.later hb)
  replace HV6 := Lib.hid (HV6.out.later hb)
  replace HV7 := Lib.hid (HV7.out.later hb)
  replace HV9 := Lib.hid (HV9.out.later hb)
  replace HV11 := Lib.hid (HV11.out.later hb)
  have HB12 := Lib.hid (gr_then hb HB11.out)
  clear hb
  go_wp2
  go_returns
  exact ⟨rfl, HB12.out⟩
end Go.Proofs.Ytoglmeiffidcbaa.fnExactSameLifts
