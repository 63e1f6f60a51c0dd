/- The walk of the law FnExactStepAllowed: whatever came in, both functions agree. No condition. -/
import Derived.Test.YtmgbbkglafnibaaStep
import Derived.Deep.RegionHeld3
import Derived.Deep.DeepCutAuto
namespace Go.Proofs.Ytmgbbkglafnibaa.fnExactStepAllowed
open Go.RowKit
set_option maxHeartbeats 8000000 in
set_option maxRecDepth 20000 in
theorem walk (A0 : Option Addr) (n0 c0 : Nat) (rs0 : List (Option Addr × Nat × Nat)) (A1 : Option Addr) (n1 c1 : Nat) (xs1 : List Int) (A2 : Option Addr) (n2 c2 : Nat) (xs2 : List Int) (w : World) (h0 : n0 ≤ 9223372036854775807 ∧ rs0.length = n0 ∧ (∀ p ∈ rs0, IsRow Value.bool (fun _ => True) w p) ∧ SV sl w w.heap.size A0 rs0) (h1 : n1 ≤ 9223372036854775807 ∧ xs1.length = n1 ∧ (∀ x ∈ xs1, I64 x) ∧ SV (.int .i64) w w.heap.size A1 xs1) (h2 : n2 ≤ 9223372036854775807 ∧ xs2.length = n2 ∧ (∀ x ∈ xs2, I64 x) ∧ SV (.int .i64) w w.heap.size A2 xs2) :
    Calls Try.prog 8 #[.slice A0 n0 c0, .slice A1 n1 c1, .slice A2 n2 c2] w fun e w' => e = .returned (.bool true) ∧ Below w.heap.size w w' := by
  obtain ⟨hn0, hl0, hr0, hs0⟩ := h0
  obtain ⟨T0, hT0, hc0, ht0⟩ := TB_of hr0 hs0
  obtain rfl : n0 = T0.length := by omega
  have HS0 := Lib.hid ht0
  have HC0 := Lib.hid hc0
  clear hT0 hl0 hr0 hs0 ht0 hc0
  obtain ⟨hn1, hl1, _, hs1⟩ := h1
  obtain rfl : n1 = xs1.length := hl1.symm
  have HS1 := Lib.hid hs1
  clear hl1 hs1
  obtain ⟨hn2, hl2, _, hs2⟩ := h2
  obtain rfl : n2 = xs2.length := hl2.symm
  have HS2 := Lib.hid hs2
  clear hl2 hs2
  have HB := Lib.hid (gr_refl w)
  have hz0 : w.heap.size ≤ w.heap.size := Nat.le_refl _
  by_cases hm1 : 1048576 < xs1.length
  · go_enter Try.func8, Try.ntmps8; go_wp2; go_returns; exact ⟨rfl, gr_refl w⟩
  replace hn1 : xs1.length ≤ 1048576 := by omega
  clear hm1
  by_cases hm2 : 1048576 < xs2.length
  · go_enter Try.func8, Try.ntmps8; go_wp2; go_returns; exact ⟨rfl, gr_refl w⟩
  replace hn2 : xs2.length ≤ 1048576 := by omega
  clear hm2
  go_enter Try.func8, Try.ntmps8
  go_wp2_with fail
  go_at_call 11
  (with_reducible refine (szBoolSS_any A0 c0 (1048576) T0 _ (HS0.out.laterT HB.out) hn0 (fun j bs hj => (HC0.out j bs hj).1) (by omega) (by omega)).mono ?_)
  rintro e wq ⟨r0, rfl, rfl, hr1, hr2⟩
  by_cases hm0 : r0 < 0
  · go_wp2
    go_returns
    exact ⟨rfl, HB.out⟩
  have HZ0 := Lib.hid (hr2 (by omega))
  have hd0 : decide (r0 < 0) = false := decide_eq_false (by omega)
  replace hn0 : T0.length ≤ 1048576 := HZ0.out.1
  have hs0 : 0 ≤ r0 ∧ r0 ≤ 1048576 := by constructor <;> omega
  clear hr1 hr2 hm0
  go_wp2_with fail
  go_at_call 13
  (with_reducible refine (toBoolSS_any A0 c0 T0 _ HZ0.out (HS0.out.laterT HB.out)).mono ?_)
  rintro e w1 ⟨rfl, hft0, hb⟩
  have hz1 := hb.size
  replace HB := Lib.hid (gr_then hb HB.out)
  have HR0 := Lib.hid (show TR .bool 4 49 w1 (w.heap.size) (w1.heap.size) (some ⟨w.heap.size, 0, none⟩) (T0.length) (T0) from TR.of_ft hft0 HZ0.out)
  clear hb hft0
  go_wp2_with fail
  go_at_call 30
  (with_reducible refine (toInt64S_any A1 c1 xs1 _ hn1 (HS1.out.later HB.out)).mono ?_)
  rintro e w2 ⟨rfl, hbv1, hb⟩
  have hz2 := hb.size
  replace HR0 := Lib.hid (HR0.out.late hb)
  replace HB := Lib.hid (gr_then hb HB.out)
  have HR1 := Lib.hid (show RS (.int .i64) 2 w2 (w1.heap.size) (w2.heap.size) (some ⟨w1.heap.size, 0, none⟩) (xs1.length) (xs1) from RS.of_bv hbv1 (Nat.le_refl _) hbv1.lt (by unfold maxLen; omega))
  clear hb hbv1
  go_wp2_with fail
  go_at_call 30
  (with_reducible refine (toInt64S_any A2 c2 xs2 _ hn2 (HS2.out.later HB.out)).mono ?_)
  rintro e w3 ⟨rfl, hbv2, hb⟩
  have hz3 := hb.size
  replace HR0 := Lib.hid (HR0.out.late hb)
  replace HR1 := Lib.hid (HR1.out.late hb)
  replace HB := Lib.hid (gr_then hb HB.out)
  have HR2 := Lib.hid (show RS (.int .i64) 2 w3 (w2.heap.size) (w3.heap.size) (some ⟨w2.heap.size, 0, none⟩) (xs2.length) (xs2) from RS.of_bv hbv2 (Nat.le_refl _) hbv2.lt (by unfold maxLen; omega))
  clear hb hbv2
  go_wp2_with fail
  go_at_call 29
  (with_reducible refine (specSa_any _ _ _ _ _ _ T0 xs1 xs2 _ hn0 hn1 hn2 HR0.out.tb HR1.out.sv HR2.out.sv).mono ?_)
  rintro e w4 ⟨rfl, hq⟩
  have hb : Below w3.heap.size w3 w4 := by obtain ⟨q, rfl⟩ := hq; exact gr_drewN (gr_refl _)
  have hz4 := hb.size
  replace HR0 := Lib.hid (HR0.out.late hb)
  replace HR1 := Lib.hid (HR1.out.late hb)
  replace HR2 := Lib.hid (HR2.out.late hb)
  replace HB := Lib.hid (gr_then hb HB.out)
  clear hb hq
  go_wp2_with fail
  go_at_call 13
  (with_reducible refine (toBoolSS_any A0 c0 T0 _ HZ0.out (HS0.out.laterT HB.out)).mono ?_)
  rintro e w5 ⟨rfl, hft3, hb⟩
  have hz5 := hb.size
  replace HR0 := Lib.hid (HR0.out.late hb)
  replace HR1 := Lib.hid (HR1.out.late hb)
  replace HR2 := Lib.hid (HR2.out.late hb)
  replace HB := Lib.hid (gr_then hb HB.out)
  have HR3 := Lib.hid (show TR .bool 4 49 w5 (w4.heap.size) (w5.heap.size) (some ⟨w4.heap.size, 0, none⟩) (T0.length) (T0) from TR.of_ft hft3 HZ0.out)
  clear hb hft3
  go_wp2_with fail
  go_at_call 30
  (with_reducible refine (toInt64S_any A1 c1 xs1 _ hn1 (HS1.out.later HB.out)).mono ?_)
  rintro e w6 ⟨rfl, hbv4, hb⟩
  have hz6 := hb.size
  replace HR0 := Lib.hid (HR0.out.late hb)
  replace HR1 := Lib.hid (HR1.out.late hb)
  replace HR2 := Lib.hid (HR2.out.late hb)
  replace HR3 := Lib.hid (HR3.out.late hb)
  replace HB := Lib.hid (gr_then hb HB.out)
  have HR4 := Lib.hid (show RS (.int .i64) 2 w6 (w5.heap.size) (w6.heap.size) (some ⟨w5.heap.size, 0, none⟩) (xs1.length) (xs1) from RS.of_bv hbv4 (Nat.le_refl _) hbv4.lt (by unfold maxLen; omega))
  clear hb hbv4
  go_wp2_with fail
  go_at_call 30
  (with_reducible refine (toInt64S_any A2 c2 xs2 _ hn2 (HS2.out.later HB.out)).mono ?_)
  rintro e w7 ⟨rfl, hbv5, hb⟩
  have hz7 := hb.size
  replace HR0 := Lib.hid (HR0.out.late hb)
  replace HR1 := Lib.hid (HR1.out.late hb)
  replace HR2 := Lib.hid (HR2.out.late hb)
  replace HR3 := Lib.hid (HR3.out.late hb)
  replace HR4 := Lib.hid (HR4.out.late hb)
  replace HB := Lib.hid (gr_then hb HB.out)
  have HR5 := Lib.hid (show RS (.int .i64) 2 w7 (w6.heap.size) (w7.heap.size) (some ⟨w6.heap.size, 0, none⟩) (xs2.length) (xs2) from RS.of_bv hbv5 (Nat.le_refl _) hbv5.lt (by unfold maxLen; omega))
  clear hb hbv5
  go_wp2_with fail
  go_at_call 31
  (with_reducible refine (implSa_any _ _ _ _ _ _ T0 xs1 xs2 _ hn0 hn1 hn2 HR3.out.tb HR4.out.sv HR5.out.sv (Sizes.rows HZ0.out)).mono ?_)
  rintro e w8 ⟨rfl, hq⟩
  have hb : Below w7.heap.size w7 w8 := by obtain ⟨q, rfl⟩ := hq; exact gr_drewN (gr_refl _)
  have hz8 := hb.size
  replace HR0 := Lib.hid (HR0.out.late hb)
  replace HR1 := Lib.hid (HR1.out.late hb)
  replace HR2 := Lib.hid (HR2.out.late hb)
  replace HR3 := Lib.hid (HR3.out.late hb)
  replace HR4 := Lib.hid (HR4.out.late hb)
  replace HR5 := Lib.hid (HR5.out.late hb)
  replace HB := Lib.hid (gr_then hb HB.out)
  clear hb hq
  go_wp2_with fail
  go_at_call 13
  (with_reducible refine (toBoolSS_any A0 c0 T0 _ HZ0.out (HS0.out.laterT HB.out)).mono ?_)
  rintro e w9 ⟨rfl, hft6, hb⟩
  have hz9 := hb.size
  replace HR0 := Lib.hid (HR0.out.late hb)
  replace HR1 := Lib.hid (HR1.out.late hb)
  replace HR2 := Lib.hid (HR2.out.late hb)
  replace HR3 := Lib.hid (HR3.out.late hb)
  replace HR4 := Lib.hid (HR4.out.late hb)
  replace HR5 := Lib.hid (HR5.out.late hb)
  replace HB := Lib.hid (gr_then hb HB.out)
  have HR6 := Lib.hid (show TR .bool 4 49 w9 (w8.heap.size) (w9.heap.size) (some ⟨w8.heap.size, 0, none⟩) (T0.length) (T0) from TR.of_ft hft6 HZ0.out)
  clear hb hft6
  go_wp2_with fail
  go_at_call 15
  (with_reducible refine (eqBoolSS_same _ _ _ _ (T0) _ HZ0.out HR3.out.tb HR6.out.tb).mono ?_)
  rintro e w10 ⟨rfl, hq⟩
  have hb : Below w9.heap.size w9 w10 := by obtain ⟨q, rfl⟩ := hq; exact gr_drewN (gr_refl _)
  have hz10 := hb.size
  replace HR0 := Lib.hid (HR0.out.late hb)
  replace HR1 := Lib.hid (HR1.out.late hb)
  replace HR2 := Lib.hid (HR2.out.late hb)
  replace HR3 := Lib.hid (HR3.out.late hb)
  replace HR4 := Lib.hid (HR4.out.late hb)
  replace HR5 := Lib.hid (HR5.out.late hb)
  replace HR6 := Lib.hid (HR6.out.late hb)
  replace HB := Lib.hid (gr_then hb HB.out)
  clear hb hq
  go_wp2_with fail
  go_at_call 30
  (with_reducible refine (toInt64S_any A1 c1 xs1 _ hn1 (HS1.out.later HB.out)).mono ?_)
  rintro e w11 ⟨rfl, hbv7, hb⟩
  have hz11 := hb.size
  replace HR0 := Lib.hid (HR0.out.late hb)
  replace HR1 := Lib.hid (HR1.out.late hb)
  replace HR2 := Lib.hid (HR2.out.late hb)
  replace HR3 := Lib.hid (HR3.out.late hb)
  replace HR4 := Lib.hid (HR4.out.late hb)
  replace HR5 := Lib.hid (HR5.out.late hb)
  replace HR6 := Lib.hid (HR6.out.late hb)
  replace HB := Lib.hid (gr_then hb HB.out)
  have HR7 := Lib.hid (show RS (.int .i64) 2 w11 (w10.heap.size) (w11.heap.size) (some ⟨w10.heap.size, 0, none⟩) (xs1.length) (xs1) from RS.of_bv hbv7 (Nat.le_refl _) hbv7.lt (by unfold maxLen; omega))
  clear hb hbv7
  go_wp2_with fail
  go_at_call 24
  (with_reducible refine (eqInt64S_same _ _ _ _ (xs1) _ hn1 HR4.out.sv HR7.out.sv).mono ?_)
  rintro e w12 ⟨rfl, hq⟩
  have hb : Below w11.heap.size w11 w12 := by obtain ⟨q, rfl⟩ := hq; exact gr_drewN (gr_refl _)
  have hz12 := hb.size
  replace HR0 := Lib.hid (HR0.out.late hb)
  replace HR1 := Lib.hid (HR1.out.late hb)
  replace HR2 := Lib.hid (HR2.out.late hb)
  replace HR3 := Lib.hid (HR3.out.late hb)
  replace HR4 := Lib.hid (HR4.out.late hb)
  replace HR5 := Lib.hid (HR5.out.late hb)
  replace HR6 := Lib.hid (HR6.out.late hb)
  replace HR7 := Lib.hid (HR7.out.late hb)
  replace HB := Lib.hid (gr_then hb HB.out)
  clear hb hq
  go_wp2_with fail
  go_at_call 30
  (with_reducible refine (toInt64S_any A2 c2 xs2 _ hn2 (HS2.out.later HB.out)).mono ?_)
  rintro e w13 ⟨rfl, hbv8, hb⟩
  have hz13 := hb.size
  replace HR0 := Lib.hid (HR0.out.late hb)
  replace HR1 := Lib.hid (HR1.out.late hb)
  replace HR2 := Lib.hid (HR2.out.late hb)
  replace HR3 := Lib.hid (HR3.out.late hb)
  replace HR4 := Lib.hid (HR4.out.late hb)
  replace HR5 := Lib.hid (HR5.out.late hb)
  replace HR6 := Lib.hid (HR6.out.late hb)
  replace HR7 := Lib.hid (HR7.out.late hb)
  replace HB := Lib.hid (gr_then hb HB.out)
  have HR8 := Lib.hid (show RS (.int .i64) 2 w13 (w12.heap.size) (w13.heap.size) (some ⟨w12.heap.size, 0, none⟩) (xs2.length) (xs2) from RS.of_bv hbv8 (Nat.le_refl _) hbv8.lt (by unfold maxLen; omega))
  clear hb hbv8
  go_wp2_with fail
  go_at_call 24
  (with_reducible refine (eqInt64S_same _ _ _ _ (xs2) _ hn2 HR5.out.sv HR8.out.sv).mono ?_)
  rintro e w14 ⟨rfl, hq⟩
  have hb : Below w13.heap.size w13 w14 := by obtain ⟨q, rfl⟩ := hq; exact gr_drewN (gr_refl _)
  have hz14 := hb.size
  replace HR0 := Lib.hid (HR0.out.late hb)
  replace HR1 := Lib.hid (HR1.out.late hb)
  replace HR2 := Lib.hid (HR2.out.late hb)
  replace HR3 := Lib.hid (HR3.out.late hb)
  replace HR4 := Lib.hid (HR4.out.late hb)
  replace HR5 := Lib.hid (HR5.out.late hb)
  replace HR6 := Lib.hid (HR6.out.late hb)
  replace HR7 := Lib.hid (HR7.out.late hb)
  replace HR8 := Lib.hid (HR8.out.late hb)
  replace HB := Lib.hid (gr_then hb HB.out)
  clear hb hq
  go_wp2
  go_returns
  exact ⟨rfl, HB.out⟩
end Go.Proofs.Ytmgbbkglafnibaa.fnExactStepAllowed
