/- The walk of the law FnExactLeastDelay: whatever came in, both functions agree. No condition. -/
import Derived.Test.YtoojnfdphjdocaaLd
import Derived.Test.YtoojnfdphjdocaaTR
import Derived.Deep.RegionHeld3
import Derived.Deep.DeepCutAuto
namespace Go.Proofs.Ytoojnfdphjdocaa.fnExactLeastDelay
open Go.RowKit
set_option maxHeartbeats 8000000 in
set_option maxRecDepth 20000 in
theorem walk (A0 : Option Addr) (n0 c0 : Nat) (rs0 : List (Option Addr × Nat × Nat)) (s1 : Int) (A1 : Option Addr) (n1 c1 : Nat) (xs1 : List Int) (s2 : Int) (A2 : Option Addr) (n2 c2 : Nat) (xs2 : List Int) (w : World) (h0 : n0 ≤ 9223372036854775807 ∧ rs0.length = n0 ∧ (∀ p ∈ rs0, IsRow Value.bool (fun _ => True) w p) ∧ SV sl w w.heap.size A0 rs0) (_ : -9223372036854775808 ≤ s1 ∧ s1 ≤ 9223372036854775807) (h1 : n1 ≤ 9223372036854775807 ∧ xs1.length = n1 ∧ (∀ x ∈ xs1, I64 x) ∧ SV (.int .i64) w w.heap.size A1 xs1) (_ : -9223372036854775808 ≤ s2 ∧ s2 ≤ 9223372036854775807) (h2 : n2 ≤ 9223372036854775807 ∧ xs2.length = n2 ∧ (∀ x ∈ xs2, I64 x) ∧ SV (.int .i64) w w.heap.size A2 xs2) :
    Calls Try.prog 12 #[.slice A0 n0 c0, .agg #[.int .i64 s1, .slice A1 n1 c1], .agg #[.int .i64 s2, .slice A2 n2 c2]] w fun e w' => e = .returned (.bool true) ∧ Below w.heap.size w w' := by
  obtain ⟨hn0, hl0, hr0, hs0⟩ := h0
  obtain ⟨T0, hT0, hc0, ht0⟩ := TB_of hr0 hs0
  obtain rfl : n0 = T0.length := by omega
  have HS0 := Lib.hid ht0
  have HC0 := Lib.hid hc0
  clear hT0 hl0 hr0 hs0 ht0 hc0
  obtain ⟨hn1, hl1, _, hs1⟩ := h1
  obtain rfl : n1 = xs1.length := hl1.symm
  have HS1 := Lib.hid hs1
  clear hl1 hs1
  obtain ⟨hn2, hl2, _, hs2⟩ := h2
  obtain rfl : n2 = xs2.length := hl2.symm
  have HS2 := Lib.hid hs2
  clear hl2 hs2
  have b0_0 : ((w.alloc (.cells #[.int .i64 s1, .slice A1 xs1.length c1] 24)).alloc (.cells #[.int .i64 s2, .slice A2 xs2.length c2] 24)).cell? ⟨w.heap.size, 0, none⟩ = some (.int .i64 s1) := by simp [go_sem]
  have b0_1 : ((w.alloc (.cells #[.int .i64 s1, .slice A1 xs1.length c1] 24)).alloc (.cells #[.int .i64 s2, .slice A2 xs2.length c2] 24)).cell? ⟨w.heap.size, 1, none⟩ = some (.slice A1 xs1.length c1) := by simp [go_sem]
  have b1_0 : ((w.alloc (.cells #[.int .i64 s1, .slice A1 xs1.length c1] 24)).alloc (.cells #[.int .i64 s2, .slice A2 xs2.length c2] 24)).cell? ⟨w.heap.size + 1, 0, none⟩ = some (.int .i64 s2) := by simp [go_sem]
  have b1_1 : ((w.alloc (.cells #[.int .i64 s1, .slice A1 xs1.length c1] 24)).alloc (.cells #[.int .i64 s2, .slice A2 xs2.length c2] 24)).cell? ⟨w.heap.size + 1, 1, none⟩ = some (.slice A2 xs2.length c2) := by simp [go_sem]
  have HB := Lib.hid (show Below w.heap.size w ((w.alloc (.cells #[.int .i64 s1, .slice A1 xs1.length c1] 24)).alloc (.cells #[.int .i64 s2, .slice A2 xs2.length c2] 24)) by repeat' first | exact gr_refl _ | with_reducible assumption | with_reducible apply gr_alloc | with_reducible apply gr_set | with_reducible apply gr_drew | with_reducible apply gr_drewN | exact Nat.le_add_right _ _ | exact Nat.le_refl _ | (refine gr_then (by with_reducible assumption) ?_))
  have hz0 : w.heap.size + 2 ≤ ((w.alloc (.cells #[.int .i64 s1, .slice A1 xs1.length c1] 24)).alloc (.cells #[.int .i64 s2, .slice A2 xs2.length c2] 24)).heap.size := by simp
  go_enter Try.func12, Try.ntmps12
  go_wp2_with fail
  go_at_call 38
  (with_reducible refine (szBoolSS_any A0 c0 (1048576) T0 _ (HS0.out.laterT HB.out) hn0 (fun j bs hj => (HC0.out j bs hj).1) (by omega) (by omega)).mono ?_)
  rintro e wq ⟨r0, rfl, rfl, hr1, hr2⟩
  by_cases hm0 : r0 < 0
  · go_wp2
    go_returns
    exact ⟨rfl, HB.out⟩
  have HZ0 := Lib.hid (hr2 (by omega))
  have hd0 : decide (r0 < 0) = false := decide_eq_false (by omega)
  replace hn0 : T0.length ≤ 1048576 := HZ0.out.1
  have hs0 : 0 ≤ r0 ∧ r0 ≤ 1048576 := by constructor <;> omega
  clear hr1 hr2 hm0
  go_wp2_with fail
  go_at_call 13
  (with_reducible refine (szMotion_any s1 A1 _ c1 (r0) _ hn1 (by omega) (by omega)).mono ?_)
  rintro e w1 ⟨rfl, hb⟩
  have hz1 := hb.size
  simp only [World.size_alloc] at hz1
  replace b0_0 := keepc hb b0_0
  replace b0_1 := keepc hb b0_1
  replace b1_0 := keepc hb b1_0
  replace b1_1 := keepc hb b1_1
  replace HB := Lib.hid (gr_then hb HB.out)
  clear hb
  by_cases hm1 : (r0 : Int) < xs1.length
  · rw [if_pos hm1]
    go_wp2
    go_returns
    exact ⟨rfl, HB.out⟩
  rw [if_neg hm1]
  replace hn1 : xs1.length ≤ 1048576 := by omega
  have hd1 : decide ((r0 : Int) - xs1.length < 0) = false := decide_eq_false (by omega)
  go_wp2_with fail
  go_at_call 13
  (with_reducible refine (szMotion_any s2 A2 _ c2 ((r0 : Int) - xs1.length) _ hn2 (by omega) (by omega)).mono ?_)
  rintro e w2 ⟨rfl, hb⟩
  have hz2 := hb.size
  replace b0_0 := keepc hb b0_0
  replace b0_1 := keepc hb b0_1
  replace b1_0 := keepc hb b1_0
  replace b1_1 := keepc hb b1_1
  replace HB := Lib.hid (gr_then hb HB.out)
  clear hb
  by_cases hm2 : ((r0 : Int) - xs1.length : Int) < xs2.length
  · rw [if_pos hm2]
    go_wp2
    go_returns
    exact ⟨rfl, HB.out⟩
  rw [if_neg hm2]
  replace hn2 : xs2.length ≤ 1048576 := by omega
  have hd2 : decide (((r0 : Int) - xs1.length : Int) - xs2.length < 0) = false := decide_eq_false (by omega)
  go_wp2_with fail
  have hA : Below w2.heap.size w2 w2 := gr_refl _
  go_region_held3 (fun w' => w'.cell? ⟨w.heap.size, 0, none⟩ = some (.int .i64 s1) ∧ w'.cell? ⟨w.heap.size, 1, none⟩ = some (.slice A1 xs1.length c1) ∧ w'.cell? ⟨w.heap.size + 1, 0, none⟩ = some (.int .i64 s2) ∧ w'.cell? ⟨w.heap.size + 1, 1, none⟩ = some (.slice A2 xs2.length c2)) ((exact ⟨keepc (by repeat' first | exact gr_refl _ | with_reducible assumption | with_reducible apply gr_alloc | with_reducible apply gr_set | with_reducible apply gr_drew | with_reducible apply gr_drewN | exact Nat.le_add_right _ _ | exact Nat.le_refl _ | (dsimp only; omega) | (refine gr_then (by with_reducible assumption) ?_)) b0_0, keepc (by repeat' first | exact gr_refl _ | with_reducible assumption | with_reducible apply gr_alloc | with_reducible apply gr_set | with_reducible apply gr_drew | with_reducible apply gr_drewN | exact Nat.le_add_right _ _ | exact Nat.le_refl _ | (dsimp only; omega) | (refine gr_then (by with_reducible assumption) ?_)) b0_1, keepc (by repeat' first | exact gr_refl _ | with_reducible assumption | with_reducible apply gr_alloc | with_reducible apply gr_set | with_reducible apply gr_drew | with_reducible apply gr_drewN | exact Nat.le_add_right _ _ | exact Nat.le_refl _ | (dsimp only; omega) | (refine gr_then (by with_reducible assumption) ?_)) b1_0, keepc (by repeat' first | exact gr_refl _ | with_reducible assumption | with_reducible apply gr_alloc | with_reducible apply gr_set | with_reducible apply gr_drew | with_reducible apply gr_drewN | exact Nat.le_add_right _ _ | exact Nat.le_refl _ | (dsimp only; omega) | (refine gr_then (by with_reducible assumption) ?_)) b1_1⟩)) (first | (go_at_call 40; (with_reducible refine (toBoolSS_any A0 c0 T0 _ HZ0.out (HS0.out.laterT (gr_then (by repeat' first | exact gr_refl _ | with_reducible assumption | with_reducible apply gr_alloc | with_reducible apply gr_set | with_reducible apply gr_drew | with_reducible apply gr_drewN | exact Nat.le_add_right _ _ | exact Nat.le_refl _ | (refine gr_then (by with_reducible assumption) ?_)) HB.out))).mono ?_); rintro e y0 ⟨rfl, hft, hb⟩; have HV0 := Lib.hid (show FT .bool 4 78 y0 w2.heap.size T0 from hft); clear hft; replace hA : Below w2.heap.size w2 y0 := gr_then hb (by repeat' first | exact gr_refl _ | with_reducible assumption | with_reducible apply gr_alloc | with_reducible apply gr_set | with_reducible apply gr_drew | with_reducible apply gr_drewN | exact Nat.le_add_right _ _ | exact Nat.le_refl _ | (refine gr_then (by with_reducible assumption) ?_)); clear hb) | (go_at_call 15; (with_reducible refine (toMotion_any s1 A1 c1 xs1 _ hn1 (HS1.out.later (gr_then (by repeat' first | exact gr_refl _ | with_reducible assumption | with_reducible apply gr_alloc | with_reducible apply gr_set | with_reducible apply gr_drew | with_reducible apply gr_drewN | exact Nat.le_add_right _ _ | exact Nat.le_refl _ | (refine gr_then (by with_reducible assumption) ?_)) HB.out))).mono ?_); rintro e y1 ⟨gv1, rfl, hgv, hbv, hb⟩; have HV1 := Lib.hid hbv; clear hgv hbv; have HV0 := Lib.hid (HV0.out.late (gr_then hb (by repeat' first | exact gr_refl _ | with_reducible assumption | with_reducible apply gr_alloc | with_reducible apply gr_set | with_reducible apply gr_drew | with_reducible apply gr_drewN | exact Nat.le_add_right _ _ | exact Nat.le_refl _ | (refine gr_then (by with_reducible assumption) ?_)))); replace hA : Below w2.heap.size w2 y1 := gr_then hb (by repeat' first | exact gr_refl _ | with_reducible assumption | with_reducible apply gr_alloc | with_reducible apply gr_set | with_reducible apply gr_drew | with_reducible apply gr_drewN | exact Nat.le_add_right _ _ | exact Nat.le_refl _ | (refine gr_then (by with_reducible assumption) ?_)); clear hb) | (go_at_call 15; (with_reducible refine (toMotion_any s2 A2 c2 xs2 _ hn2 (HS2.out.later (gr_then (by repeat' first | exact gr_refl _ | with_reducible assumption | with_reducible apply gr_alloc | with_reducible apply gr_set | with_reducible apply gr_drew | with_reducible apply gr_drewN | exact Nat.le_add_right _ _ | exact Nat.le_refl _ | (refine gr_then (by with_reducible assumption) ?_)) HB.out))).mono ?_); rintro e y2 ⟨gv2, rfl, hgv, hbv, hb⟩; have HV2 := Lib.hid hbv; clear hgv hbv; have HV0 := Lib.hid (HV0.out.late (gr_then hb (by repeat' first | exact gr_refl _ | with_reducible assumption | with_reducible apply gr_alloc | with_reducible apply gr_set | with_reducible apply gr_drew | with_reducible apply gr_drewN | exact Nat.le_add_right _ _ | exact Nat.le_refl _ | (refine gr_then (by with_reducible assumption) ?_)))); have HV1 := Lib.hid (HV1.out.late (gr_then hb (by repeat' first | exact gr_refl _ | with_reducible assumption | with_reducible apply gr_alloc | with_reducible apply gr_set | with_reducible apply gr_drew | with_reducible apply gr_drewN | exact Nat.le_add_right _ _ | exact Nat.le_refl _ | (refine gr_then (by with_reducible assumption) ?_)))); replace hA : Below w2.heap.size w2 y2 := gr_then hb (by repeat' first | exact gr_refl _ | with_reducible assumption | with_reducible apply gr_alloc | with_reducible apply gr_set | with_reducible apply gr_drew | with_reducible apply gr_drewN | exact Nat.le_add_right _ _ | exact Nat.le_refl _ | (refine gr_then (by with_reducible assumption) ?_)); clear hb) | (go_at_call 43; (with_reducible refine (specLd_any T0 _ _ _ _ _ _ s1 s2 xs1 xs2 _ HZ0.out hn1 hn2 (fun h => by cases h) (HV0.out.tb.laterT (by repeat' first | exact gr_refl _ | with_reducible assumption | with_reducible apply gr_alloc | with_reducible apply gr_set | with_reducible apply gr_drew | with_reducible apply gr_drewN | exact Nat.le_add_right _ _ | exact Nat.le_refl _ | (refine gr_then (by with_reducible assumption) ?_))) ((HV1.out.sv HV1.out.lt).later (by repeat' first | exact gr_refl _ | with_reducible assumption | with_reducible apply gr_alloc | with_reducible apply gr_set | with_reducible apply gr_drew | with_reducible apply gr_drewN | exact Nat.le_add_right _ _ | exact Nat.le_refl _ | (refine gr_then (by with_reducible assumption) ?_))) ((HV2.out.sv HV2.out.lt).later (by repeat' first | exact gr_refl _ | with_reducible assumption | with_reducible apply gr_alloc | with_reducible apply gr_set | with_reducible apply gr_drew | with_reducible apply gr_drewN | exact Nat.le_add_right _ _ | exact Nat.le_refl _ | (refine gr_then (by with_reducible assumption) ?_)))).mono ?_); rintro e y9 ⟨rfl, hb⟩; replace hA : Below w2.heap.size w2 y9 := gr_then hb (by repeat' first | exact gr_refl _ | with_reducible assumption | with_reducible apply gr_alloc | with_reducible apply gr_set | with_reducible apply gr_drew | with_reducible apply gr_drewN | exact Nat.le_add_right _ _ | exact Nat.le_refl _ | (refine gr_then (by with_reducible assumption) ?_)); clear hb))
  have hz3 := hA.size
  replace b0_0 := keepc hA b0_0
  replace b0_1 := keepc hA b0_1
  replace b1_0 := keepc hA b1_0
  replace b1_1 := keepc hA b1_1
  replace HB := Lib.hid (gr_then hA HB.out)
  clear hA HV0 HV1 HV2
  go_wp2_with fail
  go_at_call 40
  (with_reducible refine (toBoolSS_any A0 c0 T0 _ HZ0.out (HS0.out.laterT HB.out)).mono ?_)
  rintro e w4 ⟨rfl, hft0, hb⟩
  have hz4 := hb.size
  replace b0_0 := keepc hb b0_0
  replace b0_1 := keepc hb b0_1
  replace b1_0 := keepc hb b1_0
  replace b1_1 := keepc hb b1_1
  replace HB := Lib.hid (gr_then hb HB.out)
  have HR0 := Lib.hid (show TR .bool 4 78 w4 (y9.heap.size) (w4.heap.size) (some ⟨y9.heap.size, 0, none⟩) (T0.length) (T0) from TR.of_ft hft0 HZ0.out)
  clear hb hft0
  go_wp2_with fail
  go_at_call 15
  (with_reducible refine (toMotion_any s1 A1 c1 xs1 _ hn1 (HS1.out.later HB.out)).mono ?_)
  rintro e w5 ⟨g1, rfl, hg1, hbv1, hb⟩
  have hz5 := hb.size
  replace b0_0 := keepc hb b0_0
  replace b0_1 := keepc hb b0_1
  replace b1_0 := keepc hb b1_0
  replace b1_1 := keepc hb b1_1
  replace HR0 := Lib.hid (HR0.out.late hb)
  replace HB := Lib.hid (gr_then hb HB.out)
  have HR1 := Lib.hid (show RS (.int .i64) 2 w5 (w4.heap.size) (w5.heap.size) (some ⟨g1, 0, none⟩) (xs1.length) (xs1) from RS.of_bv hbv1 hg1 hbv1.lt (by unfold maxLen; omega))
  clear hb hbv1 hg1
  have hb' : Below w5.heap.size w5 (w5.alloc (.cells #[.int .i64 (s1), .slice (some ⟨g1, 0, none⟩) (xs1).length (xs1.length)] 27)) := gr_alloc (gr_refl _)
  replace b0_0 := keepc hb' b0_0
  replace b0_1 := keepc hb' b0_1
  replace b1_0 := keepc hb' b1_0
  replace b1_1 := keepc hb' b1_1
  replace HR0 := Lib.hid (HR0.out.late hb')
  replace HR1 := Lib.hid (HR1.out.late hb')
  replace HB := Lib.hid (gr_then hb' HB.out)
  have hz6 : w5.heap.size + 1 ≤ (w5.alloc (.cells #[.int .i64 (s1), .slice (some ⟨g1, 0, none⟩) (xs1).length (xs1.length)] 27)).heap.size := by simp
  have b11_0 : (w5.alloc (.cells #[.int .i64 (s1), .slice (some ⟨g1, 0, none⟩) (xs1).length (xs1.length)] 27)).cell? ⟨w5.heap.size, 0, none⟩ = some (.int .i64 (s1)) := by simp [go_sem]
  have b11_1 : (w5.alloc (.cells #[.int .i64 (s1), .slice (some ⟨g1, 0, none⟩) (xs1).length (xs1.length)] 27)).cell? ⟨w5.heap.size, 1, none⟩ = some (.slice (some ⟨g1, 0, none⟩) (xs1).length (xs1.length)) := by simp [go_sem]
  clear hb'
  go_wp2_with fail
  generalize w5.alloc (.cells #[.int .i64 (s1), .slice (some ⟨g1, 0, none⟩) (xs1).length (xs1.length)] 27) = w6 at *
  generalize w5.heap.size = K1 at *
  go_at_call 15
  (with_reducible refine (toMotion_any s2 A2 c2 xs2 _ hn2 (HS2.out.later HB.out)).mono ?_)
  rintro e w7 ⟨g2, rfl, hg2, hbv2, hb⟩
  have hz7 := hb.size
  replace b0_0 := keepc hb b0_0
  replace b0_1 := keepc hb b0_1
  replace b1_0 := keepc hb b1_0
  replace b1_1 := keepc hb b1_1
  replace b11_0 := keepc hb b11_0
  replace b11_1 := keepc hb b11_1
  replace HR0 := Lib.hid (HR0.out.late hb)
  replace HR1 := Lib.hid (HR1.out.late hb)
  replace HB := Lib.hid (gr_then hb HB.out)
  have HR2 := Lib.hid (show RS (.int .i64) 2 w7 (w6.heap.size) (w7.heap.size) (some ⟨g2, 0, none⟩) (xs2.length) (xs2) from RS.of_bv hbv2 hg2 hbv2.lt (by unfold maxLen; omega))
  clear hb hbv2 hg2
  have hb' : Below w7.heap.size w7 (w7.alloc (.cells #[.int .i64 (s2), .slice (some ⟨g2, 0, none⟩) (xs2).length (xs2.length)] 27)) := gr_alloc (gr_refl _)
  replace b0_0 := keepc hb' b0_0
  replace b0_1 := keepc hb' b0_1
  replace b1_0 := keepc hb' b1_0
  replace b1_1 := keepc hb' b1_1
  replace b11_0 := keepc hb' b11_0
  replace b11_1 := keepc hb' b11_1
  replace HR0 := Lib.hid (HR0.out.late hb')
  replace HR1 := Lib.hid (HR1.out.late hb')
  replace HR2 := Lib.hid (HR2.out.late hb')
  replace HB := Lib.hid (gr_then hb' HB.out)
  have hz8 : w7.heap.size + 1 ≤ (w7.alloc (.cells #[.int .i64 (s2), .slice (some ⟨g2, 0, none⟩) (xs2).length (xs2.length)] 27)).heap.size := by simp
  have b12_0 : (w7.alloc (.cells #[.int .i64 (s2), .slice (some ⟨g2, 0, none⟩) (xs2).length (xs2.length)] 27)).cell? ⟨w7.heap.size, 0, none⟩ = some (.int .i64 (s2)) := by simp [go_sem]
  have b12_1 : (w7.alloc (.cells #[.int .i64 (s2), .slice (some ⟨g2, 0, none⟩) (xs2).length (xs2.length)] 27)).cell? ⟨w7.heap.size, 1, none⟩ = some (.slice (some ⟨g2, 0, none⟩) (xs2).length (xs2.length)) := by simp [go_sem]
  clear hb'
  go_wp2_with fail
  generalize w7.alloc (.cells #[.int .i64 (s2), .slice (some ⟨g2, 0, none⟩) (xs2).length (xs2.length)] 27) = w8 at *
  generalize w7.heap.size = K2 at *
  go_at_call 44
  (with_reducible refine (implLd_any T0 _ _ _ _ _ _ s1 s2 xs1 xs2 _ HZ0.out hn1 hn2 (fun h => by cases h) HR0.out.tb HR1.out.sv HR2.out.sv).mono ?_)
  rintro e w9 ⟨rfl, hb⟩
  have hz9 := hb.size
  replace b0_0 := keepc hb b0_0
  replace b0_1 := keepc hb b0_1
  replace b1_0 := keepc hb b1_0
  replace b1_1 := keepc hb b1_1
  replace b11_0 := keepc hb b11_0
  replace b11_1 := keepc hb b11_1
  replace b12_0 := keepc hb b12_0
  replace b12_1 := keepc hb b12_1
  replace HR0 := Lib.hid (HR0.out.late hb)
  replace HR1 := Lib.hid (HR1.out.late hb)
  replace HR2 := Lib.hid (HR2.out.late hb)
  replace HB := Lib.hid (gr_then hb HB.out)
  clear hb
  go_wp2_with fail
  go_at_call 40
  (with_reducible refine (toBoolSS_any A0 c0 T0 _ HZ0.out (HS0.out.laterT HB.out)).mono ?_)
  rintro e w10 ⟨rfl, hft3, hb⟩
  have hz10 := hb.size
  replace b0_0 := keepc hb b0_0
  replace b0_1 := keepc hb b0_1
  replace b1_0 := keepc hb b1_0
  replace b1_1 := keepc hb b1_1
  replace b11_0 := keepc hb b11_0
  replace b11_1 := keepc hb b11_1
  replace b12_0 := keepc hb b12_0
  replace b12_1 := keepc hb b12_1
  replace HR0 := Lib.hid (HR0.out.late hb)
  replace HR1 := Lib.hid (HR1.out.late hb)
  replace HR2 := Lib.hid (HR2.out.late hb)
  replace HB := Lib.hid (gr_then hb HB.out)
  have HR3 := Lib.hid (show TR .bool 4 78 w10 (w9.heap.size) (w10.heap.size) (some ⟨w9.heap.size, 0, none⟩) (T0.length) (T0) from TR.of_ft hft3 HZ0.out)
  clear hb hft3
  go_wp2_with fail
  go_at_call 42
  (with_reducible refine (eqBoolSS_same _ _ _ _ (T0) _ HZ0.out HR0.out.tb HR3.out.tb).mono ?_)
  rintro e w11 ⟨rfl, hq⟩
  have hb : Below w10.heap.size w10 w11 := by obtain ⟨q, rfl⟩ := hq; exact gr_drewN (gr_refl _)
  have hz11 := hb.size
  replace b0_0 := keepc hb b0_0
  replace b0_1 := keepc hb b0_1
  replace b1_0 := keepc hb b1_0
  replace b1_1 := keepc hb b1_1
  replace b11_0 := keepc hb b11_0
  replace b11_1 := keepc hb b11_1
  replace b12_0 := keepc hb b12_0
  replace b12_1 := keepc hb b12_1
  replace HR0 := Lib.hid (HR0.out.late hb)
  replace HR1 := Lib.hid (HR1.out.late hb)
  replace HR2 := Lib.hid (HR2.out.late hb)
  replace HR3 := Lib.hid (HR3.out.late hb)
  replace HB := Lib.hid (gr_then hb HB.out)
  clear hb hq
  go_wp2
  have HA := Lib.hid (gr_refl w11)
  go_region_held3 (fun w' => w'.cell? ⟨w.heap.size, 0, none⟩ = some (.int .i64 s1) ∧ w'.cell? ⟨w.heap.size, 1, none⟩ = some (.slice A1 xs1.length c1) ∧ w'.cell? ⟨K1, 0, none⟩ = some (.int .i64 (s1)) ∧ w'.cell? ⟨K1, 1, none⟩ = some (.slice (some ⟨g1, 0, none⟩) (xs1).length (xs1.length))) ((first | exact ⟨b0_0, b0_1, b11_0, b11_1⟩ | exact ⟨keepc HA.out b0_0, keepc HA.out b0_1, keepc HA.out b11_0, keepc HA.out b11_1⟩)) (first | (go_at_call 15; (with_reducible refine (toMotion_any s1 A1 c1 xs1 _ hn1 (HS1.out.later (gr_drew HB.out))).mono ?_); rintro e w12 ⟨gA, rfl, hgA, hbA, hb⟩; have HA := Lib.hid (gr_then hb (gr_drew HA.out)); have HVn := Lib.hid hbA; have HVo := Lib.hid (HR1.out.late HA.out)) | (go_at_call 17; (with_reducible refine (eqMotion_same s1 _ _ _ _ xs1 _ hn1 HVo.out.sv (HVn.out.sv HVn.out.lt)).mono ?_); rintro e w13 ⟨rfl, hb⟩; have HA := Lib.hid (gr_then hb HA.out)))
  have hz13 := HA.out.size
  replace b0_0 := keepc HA.out b0_0
  replace b0_1 := keepc HA.out b0_1
  replace b1_0 := keepc HA.out b1_0
  replace b1_1 := keepc HA.out b1_1
  replace b11_0 := keepc HA.out b11_0
  replace b11_1 := keepc HA.out b11_1
  replace b12_0 := keepc HA.out b12_0
  replace b12_1 := keepc HA.out b12_1
  replace HR0 := Lib.hid (HR0.out.late HA.out)
  replace HR1 := Lib.hid (HR1.out.late HA.out)
  replace HR2 := Lib.hid (HR2.out.late HA.out)
  replace HR3 := Lib.hid (HR3.out.late HA.out)
  replace HB := Lib.hid (gr_then HA.out HB.out)
  clear HA HVn HVo hb
  go_wp2
  have HA := Lib.hid (gr_refl w13)
  go_region_held3 (fun w' => w'.cell? ⟨w.heap.size + 1, 0, none⟩ = some (.int .i64 s2) ∧ w'.cell? ⟨w.heap.size + 1, 1, none⟩ = some (.slice A2 xs2.length c2) ∧ w'.cell? ⟨K2, 0, none⟩ = some (.int .i64 (s2)) ∧ w'.cell? ⟨K2, 1, none⟩ = some (.slice (some ⟨g2, 0, none⟩) (xs2).length (xs2.length))) ((first | exact ⟨b1_0, b1_1, b12_0, b12_1⟩ | exact ⟨keepc HA.out b1_0, keepc HA.out b1_1, keepc HA.out b12_0, keepc HA.out b12_1⟩)) (first | (go_at_call 15; (with_reducible refine (toMotion_any s2 A2 c2 xs2 _ hn2 (HS2.out.later (gr_drew HB.out))).mono ?_); rintro e w14 ⟨gA, rfl, hgA, hbA, hb⟩; have HA := Lib.hid (gr_then hb (gr_drew HA.out)); have HVn := Lib.hid hbA; have HVo := Lib.hid (HR2.out.late HA.out)) | (go_at_call 17; (with_reducible refine (eqMotion_same s2 _ _ _ _ xs2 _ hn2 HVo.out.sv (HVn.out.sv HVn.out.lt)).mono ?_); rintro e w15 ⟨rfl, hb⟩; have HA := Lib.hid (gr_then hb HA.out)))
  have hz15 := HA.out.size
  replace b0_0 := keepc HA.out b0_0
  replace b0_1 := keepc HA.out b0_1
  replace b1_0 := keepc HA.out b1_0
  replace b1_1 := keepc HA.out b1_1
  replace b11_0 := keepc HA.out b11_0
  replace b11_1 := keepc HA.out b11_1
  replace b12_0 := keepc HA.out b12_0
  replace b12_1 := keepc HA.out b12_1
  replace HR0 := Lib.hid (HR0.out.late HA.out)
  replace HR1 := Lib.hid (HR1.out.late HA.out)
  replace HR2 := Lib.hid (HR2.out.late HA.out)
  replace HR3 := Lib.hid (HR3.out.late HA.out)
  replace HB := Lib.hid (gr_then HA.out HB.out)
  clear HA HVn HVo hb
  go_wp2
  go_returns
  exact ⟨rfl, HB.out⟩
end Go.Proofs.Ytoojnfdphjdocaa.fnExactLeastDelay
