/- The walk of the law FnExactJoinMotions: whatever came in, both functions agree. No condition. -/
import Derived.Test.YtoojnfdphjdocaaMotI
import Derived.Deep.RegionHeld3
import Derived.Deep.DeepCutAuto
namespace Go.Proofs.Ytoojnfdphjdocaa.fnExactJoinMotions
open Go.RowKit
set_option maxHeartbeats 8000000 in
set_option maxRecDepth 20000 in
theorem walk (s0 : Int) (A0 : Option Addr) (n0 c0 : Nat) (xs0 : List Int) (s1 : Int) (A1 : Option Addr) (n1 c1 : Nat) (xs1 : List Int) (w : World) (_ : -9223372036854775808 ≤ s0 ∧ s0 ≤ 9223372036854775807) (h0 : n0 ≤ 9223372036854775807 ∧ xs0.length = n0 ∧ (∀ x ∈ xs0, I64 x) ∧ SV (.int .i64) w w.heap.size A0 xs0) (_ : -9223372036854775808 ≤ s1 ∧ s1 ≤ 9223372036854775807) (h1 : n1 ≤ 9223372036854775807 ∧ xs1.length = n1 ∧ (∀ x ∈ xs1, I64 x) ∧ SV (.int .i64) w w.heap.size A1 xs1) :
    Calls Try.prog 10 #[.agg #[.int .i64 s0, .slice A0 n0 c0], .agg #[.int .i64 s1, .slice A1 n1 c1]] w fun e w' => e = .returned (.bool true) ∧ Below w.heap.size w w' := by
  obtain ⟨hn0, hl0, _, hs0⟩ := h0
  obtain rfl : n0 = xs0.length := hl0.symm
  have HS0 := Lib.hid hs0
  clear hl0 hs0
  obtain ⟨hn1, hl1, _, hs1⟩ := h1
  obtain rfl : n1 = xs1.length := hl1.symm
  have HS1 := Lib.hid hs1
  clear hl1 hs1
  have b0_0 : ((w.alloc (.cells #[.int .i64 s0, .slice A0 xs0.length c0] 24)).alloc (.cells #[.int .i64 s1, .slice A1 xs1.length c1] 24)).cell? ⟨w.heap.size, 0, none⟩ = some (.int .i64 s0) := by simp [go_sem]
  have b0_1 : ((w.alloc (.cells #[.int .i64 s0, .slice A0 xs0.length c0] 24)).alloc (.cells #[.int .i64 s1, .slice A1 xs1.length c1] 24)).cell? ⟨w.heap.size, 1, none⟩ = some (.slice A0 xs0.length c0) := by simp [go_sem]
  have b1_0 : ((w.alloc (.cells #[.int .i64 s0, .slice A0 xs0.length c0] 24)).alloc (.cells #[.int .i64 s1, .slice A1 xs1.length c1] 24)).cell? ⟨w.heap.size + 1, 0, none⟩ = some (.int .i64 s1) := by simp [go_sem]
  have b1_1 : ((w.alloc (.cells #[.int .i64 s0, .slice A0 xs0.length c0] 24)).alloc (.cells #[.int .i64 s1, .slice A1 xs1.length c1] 24)).cell? ⟨w.heap.size + 1, 1, none⟩ = some (.slice A1 xs1.length c1) := by simp [go_sem]
  have HB := Lib.hid (show Below w.heap.size w ((w.alloc (.cells #[.int .i64 s0, .slice A0 xs0.length c0] 24)).alloc (.cells #[.int .i64 s1, .slice A1 xs1.length c1] 24)) by repeat' first | exact gr_refl _ | with_reducible assumption | with_reducible apply gr_alloc | with_reducible apply gr_set | with_reducible apply gr_drew | with_reducible apply gr_drewN | exact Nat.le_add_right _ _ | exact Nat.le_refl _ | (refine gr_then (by with_reducible assumption) ?_))
  have hz0 : w.heap.size + 2 ≤ ((w.alloc (.cells #[.int .i64 s0, .slice A0 xs0.length c0] 24)).alloc (.cells #[.int .i64 s1, .slice A1 xs1.length c1] 24)).heap.size := by simp
  have hL : (jmX s0 xs0 s1 xs1).length ≤ 1048576 := by have := jmX_len s0 xs0 s1 xs1; omega
  go_enter Try.func10, Try.ntmps10
  go_wp2_with fail
  go_at_call 13
  (with_reducible refine (szMotion_any s0 A0 _ c0 (1048576) _ hn0 (by omega) (by omega)).mono ?_)
  rintro e w1 ⟨rfl, hb⟩
  have hz1 := hb.size
  simp only [World.size_alloc] at hz1
  replace b0_0 := keepc hb b0_0
  replace b0_1 := keepc hb b0_1
  replace b1_0 := keepc hb b1_0
  replace b1_1 := keepc hb b1_1
  replace HB := Lib.hid (gr_then hb HB.out)
  clear hb
  by_cases hm0 : (1048576 : Int) < xs0.length
  · rw [if_pos hm0]
    go_wp2
    go_returns
    exact ⟨rfl, HB.out⟩
  rw [if_neg hm0]
  replace hn0 : xs0.length ≤ 1048576 := by omega
  have hd0 : decide ((1048576 : Int) - xs0.length < 0) = false := decide_eq_false (by omega)
  go_wp2_with fail
  go_at_call 13
  (with_reducible refine (szMotion_any s1 A1 _ c1 ((1048576 : Int) - xs0.length) _ hn1 (by omega) (by omega)).mono ?_)
  rintro e w2 ⟨rfl, hb⟩
  have hz2 := hb.size
  replace b0_0 := keepc hb b0_0
  replace b0_1 := keepc hb b0_1
  replace b1_0 := keepc hb b1_0
  replace b1_1 := keepc hb b1_1
  replace HB := Lib.hid (gr_then hb HB.out)
  clear hb
  by_cases hm1 : ((1048576 : Int) - xs0.length : Int) < xs1.length
  · rw [if_pos hm1]
    go_wp2
    go_returns
    exact ⟨rfl, HB.out⟩
  rw [if_neg hm1]
  replace hn1 : xs1.length ≤ 1048576 := by omega
  have hd1 : decide (((1048576 : Int) - xs0.length : Int) - xs1.length < 0) = false := decide_eq_false (by omega)
  go_wp2
  go_cut [6, 7] (fun p6 n7 wx => ∃ gg Ag cg, p6 = .pointer (some ⟨gg, 0, none⟩) ∧ n7 = .int .i64 (jmC s0 xs0 s1 xs1) ∧ Box2 wx gg 27 (.int .i64 (jmS s0 xs0 s1 xs1)) (.slice Ag (jmX s0 xs0 s1 xs1).length cg) ∧ RS (.int .i64) 2 wx w2.heap.size wx.heap.size Ag cg (jmX s0 xs0 s1 xs1) ∧ Below w2.heap.size w2 wx)
  case first =>
    have hA : Below w2.heap.size w2 w2 := gr_refl _
    go_region_held3 (fun w' => w'.cell? ⟨w.heap.size, 0, none⟩ = some (.int .i64 s0) ∧ w'.cell? ⟨w.heap.size, 1, none⟩ = some (.slice A0 xs0.length c0) ∧ w'.cell? ⟨w.heap.size + 1, 0, none⟩ = some (.int .i64 s1) ∧ w'.cell? ⟨w.heap.size + 1, 1, none⟩ = some (.slice A1 xs1.length c1)) ((exact ⟨keepc (by repeat' first | exact gr_refl _ | with_reducible assumption | with_reducible apply gr_alloc | with_reducible apply gr_set | with_reducible apply gr_drew | with_reducible apply gr_drewN | exact Nat.le_add_right _ _ | exact Nat.le_refl _ | (dsimp only; omega) | (refine gr_then (by with_reducible assumption) ?_)) b0_0, keepc (by repeat' first | exact gr_refl _ | with_reducible assumption | with_reducible apply gr_alloc | with_reducible apply gr_set | with_reducible apply gr_drew | with_reducible apply gr_drewN | exact Nat.le_add_right _ _ | exact Nat.le_refl _ | (dsimp only; omega) | (refine gr_then (by with_reducible assumption) ?_)) b0_1, keepc (by repeat' first | exact gr_refl _ | with_reducible assumption | with_reducible apply gr_alloc | with_reducible apply gr_set | with_reducible apply gr_drew | with_reducible apply gr_drewN | exact Nat.le_add_right _ _ | exact Nat.le_refl _ | (dsimp only; omega) | (refine gr_then (by with_reducible assumption) ?_)) b1_0, keepc (by repeat' first | exact gr_refl _ | with_reducible assumption | with_reducible apply gr_alloc | with_reducible apply gr_set | with_reducible apply gr_drew | with_reducible apply gr_drewN | exact Nat.le_add_right _ _ | exact Nat.le_refl _ | (dsimp only; omega) | (refine gr_then (by with_reducible assumption) ?_)) b1_1⟩)) (first | (go_at_call 15; first | ((with_reducible refine (toMotion_any s0 A0 c0 xs0 _ hn0 (HS0.out.later (gr_then (by repeat' first | exact gr_refl _ | with_reducible assumption | with_reducible apply gr_alloc | with_reducible apply gr_set | with_reducible apply gr_drew | with_reducible apply gr_drewN | exact Nat.le_add_right _ _ | exact Nat.le_refl _ | (refine gr_then (by with_reducible assumption) ?_)) HB.out))).mono ?_); rintro e y0 ⟨gv0, rfl, hgv, hbv, hb⟩; have HV0 := Lib.hid hbv; have hA : Below w2.heap.size w2 y0 := gr_then hb (by repeat' first | exact gr_refl _ | with_reducible assumption | with_reducible apply gr_alloc | with_reducible apply gr_set | with_reducible apply gr_drew | with_reducible apply gr_drewN | exact Nat.le_add_right _ _ | exact Nat.le_refl _ | (refine gr_then (by with_reducible assumption) ?_)); have hzA := hA.size; (first | have hF := Box2.late hF hb | have hF := Box2.late (Box2.new _ 27 (.int .i64 0) (.slice none 0 0)) hb | have hF := Box2.late (Box2.late (Box2.new _ 27 (.int .i64 0) (.slice none 0 0)) (gr_drew (gr_refl _))) hb | skip); (first | (have i0 := hF.c0; have i1 := hF.c1; have i2 := hF.f0 0; have i3 := hF.f0 1; have i4 := hF.lt) | skip); clear hgv hbv) | ((with_reducible refine (toMotion_any s1 A1 c1 xs1 _ hn1 (HS1.out.later (gr_then (by repeat' first | exact gr_refl _ | with_reducible assumption | with_reducible apply gr_alloc | with_reducible apply gr_set | with_reducible apply gr_drew | with_reducible apply gr_drewN | exact Nat.le_add_right _ _ | exact Nat.le_refl _ | (refine gr_then (by with_reducible assumption) ?_)) HB.out))).mono ?_); rintro e y1 ⟨gv1, rfl, hgv, hbv, hb⟩; have HV1 := Lib.hid hbv; have HV0 := Lib.hid (HV0.out.late (gr_then hb (by repeat' first | exact gr_refl _ | with_reducible assumption | with_reducible apply gr_alloc | with_reducible apply gr_set | with_reducible apply gr_drew | with_reducible apply gr_drewN | exact Nat.le_add_right _ _ | exact Nat.le_refl _ | (refine gr_then (by with_reducible assumption) ?_)))); have hA : Below w2.heap.size w2 y1 := gr_then hb (by repeat' first | exact gr_refl _ | with_reducible assumption | with_reducible apply gr_alloc | with_reducible apply gr_set | with_reducible apply gr_drew | with_reducible apply gr_drewN | exact Nat.le_add_right _ _ | exact Nat.le_refl _ | (refine gr_then (by with_reducible assumption) ?_)); have hzA := hA.size; (first | have hF := Box2.late hF hb | have hF := Box2.late (Box2.new _ 27 (.int .i64 0) (.slice none 0 0)) hb | have hF := Box2.late (Box2.late (Box2.new _ 27 (.int .i64 0) (.slice none 0 0)) (gr_drew (gr_refl _))) hb | skip); (first | (have i0 := hF.c0; have i1 := hF.c1; have i2 := hF.f0 0; have i3 := hF.f0 1; have i4 := hF.lt) | skip); clear hgv hbv)) | (go_at_call 36; (with_reducible refine (specJm_any s0 _ _ xs0 s1 _ _ xs1 _ hn0 hn1 (fun h => by cases h) (fun h => by cases h) ((HV0.out.sv HV0.out.lt).later (by repeat' first | exact gr_refl _ | with_reducible assumption | with_reducible apply gr_alloc | with_reducible apply gr_set | with_reducible apply gr_drew | with_reducible apply gr_drewN | exact Nat.le_add_right _ _ | exact Nat.le_refl _ | (refine gr_then (by with_reducible assumption) ?_))) ((HV1.out.sv HV1.out.lt).later (by repeat' first | exact gr_refl _ | with_reducible assumption | with_reducible apply gr_alloc | with_reducible apply gr_set | with_reducible apply gr_drew | with_reducible apply gr_drewN | exact Nat.le_add_right _ _ | exact Nat.le_refl _ | (refine gr_then (by with_reducible assumption) ?_)))).mono ?_); rintro e y9 ⟨Bq, dq, rfl, hrq, hb⟩; have HRq := Lib.hid hrq; have hA : Below w2.heap.size w2 y9 := gr_then hb (by repeat' first | exact gr_refl _ | with_reducible assumption | with_reducible apply gr_alloc | with_reducible apply gr_set | with_reducible apply gr_drew | with_reducible apply gr_drewN | exact Nat.le_add_right _ _ | exact Nat.le_refl _ | (refine gr_then (by with_reducible assumption) ?_)); have hzA := hA.size; (first | have hF := Box2.late hF hb | have hF := Box2.late (Box2.new _ 27 (.int .i64 0) (.slice none 0 0)) hb | have hF := Box2.late (Box2.late (Box2.new _ 27 (.int .i64 0) (.slice none 0 0)) (gr_drew (gr_refl _))) hb | skip); (first | (have i0 := hF.c0; have i1 := hF.c1; have i2 := hF.f0 0; have i3 := hF.f0 1; have i4 := hF.lt) | skip); clear hrq))
    all_goals (go_wp2; go_meet; refine ⟨_, Bq, dq, rfl, rfl, ?_, ?_, by repeat' first | exact gr_refl _ | with_reducible assumption | with_reducible apply gr_alloc | with_reducible apply gr_set | with_reducible apply gr_drew | with_reducible apply gr_drewN | exact Nat.le_add_right _ _ | exact Nat.le_refl _ | (dsimp only; omega) | (refine gr_then (by with_reducible assumption) ?_)⟩)
    all_goals first | exact Box2.new _ _ _ _ | exact (hF.put0 _).put1 _ | exact ((HRq.out.wide (by first | omega | (simp only [World.size_alloc]; omega) | (dsimp only; omega)) (Nat.le_refl _)).late (gr_alloc (gr_refl _))).top | exact ((HRq.out.far (p := ⟨_, 0, none⟩) (by intro g' hg' he'; have hq := HRq.out.ge' hg'; (try simp only [World.size_alloc] at hq); dsimp only at he'; omega) _).far (p := ⟨_, 1, none⟩) (by intro g' hg' he'; have hq := HRq.out.ge' hg'; (try simp only [World.size_alloc] at hq); dsimp only at he'; omega) _).wide (by first | omega | (simp only [World.size_alloc]; omega) | (dsimp only; omega)) (by simp)
  case rest =>
    obtain ⟨K1, B0, d0, rfl, rfl, hbx, hr, hb⟩ := hcut
    have hz3 := hb.size
    have hk3 := hbx.lt
    replace b0_0 := keepc hb b0_0
    replace b0_1 := keepc hb b0_1
    replace b1_0 := keepc hb b1_0
    replace b1_1 := keepc hb b1_1
    replace HB := Lib.hid (gr_then hb HB.out)
    have b11_0 := hbx.c0
    have b11_1 := hbx.c1
    have HR0 := Lib.hid hr
    clear hb hbx hr
    generalize wc = w3 at *
    go_wp2_with fail
    go_at_call 15
    (with_reducible refine (toMotion_any s0 A0 c0 xs0 _ hn0 (HS0.out.later HB.out)).mono ?_)
    rintro e w4 ⟨g1, rfl, hg1, hbv1, hb⟩
    have hz4 := hb.size
    replace b0_0 := keepc hb b0_0
    replace b0_1 := keepc hb b0_1
    replace b1_0 := keepc hb b1_0
    replace b1_1 := keepc hb b1_1
    replace b11_0 := keepc hb b11_0
    replace b11_1 := keepc hb b11_1
    replace HR0 := Lib.hid (HR0.out.late hb)
    replace HB := Lib.hid (gr_then hb HB.out)
    have HR1 := Lib.hid (show RS (.int .i64) 2 w4 (w3.heap.size) (w4.heap.size) (some ⟨g1, 0, none⟩) (xs0.length) (xs0) from RS.of_bv hbv1 hg1 hbv1.lt (by unfold maxLen; omega))
    clear hb hbv1 hg1
    have hb' : Below w4.heap.size w4 (w4.alloc (.cells #[.int .i64 (s0), .slice (some ⟨g1, 0, none⟩) (xs0).length (xs0.length)] 27)) := gr_alloc (gr_refl _)
    replace b0_0 := keepc hb' b0_0
    replace b0_1 := keepc hb' b0_1
    replace b1_0 := keepc hb' b1_0
    replace b1_1 := keepc hb' b1_1
    replace b11_0 := keepc hb' b11_0
    replace b11_1 := keepc hb' b11_1
    replace HR0 := Lib.hid (HR0.out.late hb')
    replace HR1 := Lib.hid (HR1.out.late hb')
    replace HB := Lib.hid (gr_then hb' HB.out)
    have hz5 : w4.heap.size + 1 ≤ (w4.alloc (.cells #[.int .i64 (s0), .slice (some ⟨g1, 0, none⟩) (xs0).length (xs0.length)] 27)).heap.size := by simp
    have b12_0 : (w4.alloc (.cells #[.int .i64 (s0), .slice (some ⟨g1, 0, none⟩) (xs0).length (xs0.length)] 27)).cell? ⟨w4.heap.size, 0, none⟩ = some (.int .i64 (s0)) := by simp [go_sem]
    have b12_1 : (w4.alloc (.cells #[.int .i64 (s0), .slice (some ⟨g1, 0, none⟩) (xs0).length (xs0.length)] 27)).cell? ⟨w4.heap.size, 1, none⟩ = some (.slice (some ⟨g1, 0, none⟩) (xs0).length (xs0.length)) := by simp [go_sem]
    clear hb'
    go_wp2_with fail
    generalize w4.alloc (.cells #[.int .i64 (s0), .slice (some ⟨g1, 0, none⟩) (xs0).length (xs0.length)] 27) = w5 at *
    generalize w4.heap.size = K2 at *
    go_at_call 15
    (with_reducible refine (toMotion_any s1 A1 c1 xs1 _ hn1 (HS1.out.later HB.out)).mono ?_)
    rintro e w6 ⟨g2, rfl, hg2, hbv2, hb⟩
    have hz6 := hb.size
    replace b0_0 := keepc hb b0_0
    replace b0_1 := keepc hb b0_1
    replace b1_0 := keepc hb b1_0
    replace b1_1 := keepc hb b1_1
    replace b11_0 := keepc hb b11_0
    replace b11_1 := keepc hb b11_1
    replace b12_0 := keepc hb b12_0
    replace b12_1 := keepc hb b12_1
    replace HR0 := Lib.hid (HR0.out.late hb)
    replace HR1 := Lib.hid (HR1.out.late hb)
    replace HB := Lib.hid (gr_then hb HB.out)
    have HR2 := Lib.hid (show RS (.int .i64) 2 w6 (w5.heap.size) (w6.heap.size) (some ⟨g2, 0, none⟩) (xs1.length) (xs1) from RS.of_bv hbv2 hg2 hbv2.lt (by unfold maxLen; omega))
    clear hb hbv2 hg2
    have hb' : Below w6.heap.size w6 (w6.alloc (.cells #[.int .i64 (s1), .slice (some ⟨g2, 0, none⟩) (xs1).length (xs1.length)] 27)) := gr_alloc (gr_refl _)
    replace b0_0 := keepc hb' b0_0
    replace b0_1 := keepc hb' b0_1
    replace b1_0 := keepc hb' b1_0
    replace b1_1 := keepc hb' b1_1
    replace b11_0 := keepc hb' b11_0
    replace b11_1 := keepc hb' b11_1
    replace b12_0 := keepc hb' b12_0
    replace b12_1 := keepc hb' b12_1
    replace HR0 := Lib.hid (HR0.out.late hb')
    replace HR1 := Lib.hid (HR1.out.late hb')
    replace HR2 := Lib.hid (HR2.out.late hb')
    replace HB := Lib.hid (gr_then hb' HB.out)
    have hz7 : w6.heap.size + 1 ≤ (w6.alloc (.cells #[.int .i64 (s1), .slice (some ⟨g2, 0, none⟩) (xs1).length (xs1.length)] 27)).heap.size := by simp
    have b13_0 : (w6.alloc (.cells #[.int .i64 (s1), .slice (some ⟨g2, 0, none⟩) (xs1).length (xs1.length)] 27)).cell? ⟨w6.heap.size, 0, none⟩ = some (.int .i64 (s1)) := by simp [go_sem]
    have b13_1 : (w6.alloc (.cells #[.int .i64 (s1), .slice (some ⟨g2, 0, none⟩) (xs1).length (xs1.length)] 27)).cell? ⟨w6.heap.size, 1, none⟩ = some (.slice (some ⟨g2, 0, none⟩) (xs1).length (xs1.length)) := by simp [go_sem]
    clear hb'
    go_wp2_with fail
    generalize w6.alloc (.cells #[.int .i64 (s1), .slice (some ⟨g2, 0, none⟩) (xs1).length (xs1.length)] 27) = w7 at *
    generalize w6.heap.size = K3 at *
    go_at_call 37
    (with_reducible refine (implJm_any s0 _ _ xs0 s1 _ _ xs1 _ hn0 hn1 (fun h => by cases h) (fun h => by cases h) HR1.out.sv HR2.out.sv).mono ?_)
    rintro e w8 ⟨B3, d3, rfl, hr3, hb⟩
    have hz8 := hb.size
    replace b0_0 := keepc hb b0_0
    replace b0_1 := keepc hb b0_1
    replace b1_0 := keepc hb b1_0
    replace b1_1 := keepc hb b1_1
    replace b11_0 := keepc hb b11_0
    replace b11_1 := keepc hb b11_1
    replace b12_0 := keepc hb b12_0
    replace b12_1 := keepc hb b12_1
    replace b13_0 := keepc hb b13_0
    replace b13_1 := keepc hb b13_1
    replace HR0 := Lib.hid (HR0.out.late hb)
    replace HR1 := Lib.hid (HR1.out.late hb)
    replace HR2 := Lib.hid (HR2.out.late hb)
    replace HB := Lib.hid (gr_then hb HB.out)
    have HR3 := Lib.hid (show RS (.int .i64) 2 w8 (w7.heap.size) (w8.heap.size) B3 (d3) (jmX s0 xs0 s1 xs1) from hr3)
    clear hb hr3
    have hb' : Below w8.heap.size w8 (w8.alloc (.cells #[.int .i64 (jmS s0 xs0 s1 xs1), .slice B3 (jmX s0 xs0 s1 xs1).length (d3)] 27)) := gr_alloc (gr_refl _)
    replace b0_0 := keepc hb' b0_0
    replace b0_1 := keepc hb' b0_1
    replace b1_0 := keepc hb' b1_0
    replace b1_1 := keepc hb' b1_1
    replace b11_0 := keepc hb' b11_0
    replace b11_1 := keepc hb' b11_1
    replace b12_0 := keepc hb' b12_0
    replace b12_1 := keepc hb' b12_1
    replace b13_0 := keepc hb' b13_0
    replace b13_1 := keepc hb' b13_1
    replace HR0 := Lib.hid (HR0.out.late hb')
    replace HR1 := Lib.hid (HR1.out.late hb')
    replace HR2 := Lib.hid (HR2.out.late hb')
    replace HR3 := Lib.hid (HR3.out.late hb')
    replace HB := Lib.hid (gr_then hb' HB.out)
    have hz9 : w8.heap.size + 1 ≤ (w8.alloc (.cells #[.int .i64 (jmS s0 xs0 s1 xs1), .slice B3 (jmX s0 xs0 s1 xs1).length (d3)] 27)).heap.size := by simp
    have b14_0 : (w8.alloc (.cells #[.int .i64 (jmS s0 xs0 s1 xs1), .slice B3 (jmX s0 xs0 s1 xs1).length (d3)] 27)).cell? ⟨w8.heap.size, 0, none⟩ = some (.int .i64 (jmS s0 xs0 s1 xs1)) := by simp [go_sem]
    have b14_1 : (w8.alloc (.cells #[.int .i64 (jmS s0 xs0 s1 xs1), .slice B3 (jmX s0 xs0 s1 xs1).length (d3)] 27)).cell? ⟨w8.heap.size, 1, none⟩ = some (.slice B3 (jmX s0 xs0 s1 xs1).length (d3)) := by simp [go_sem]
    clear hb'
    go_wp2_with fail
    generalize w8.alloc (.cells #[.int .i64 (jmS s0 xs0 s1 xs1), .slice B3 (jmX s0 xs0 s1 xs1).length (d3)] 27) = w9 at *
    generalize w8.heap.size = K4 at *
    go_at_call 17
    (with_reducible refine (eqMotion_same (jmS s0 xs0 s1 xs1) _ _ _ _ (jmX s0 xs0 s1 xs1) _ hL HR3.out.sv HR0.out.sv).mono ?_)
    rintro e w10 ⟨rfl, hb⟩
    have hz10 := hb.size
    replace b0_0 := keepc hb b0_0
    replace b0_1 := keepc hb b0_1
    replace b1_0 := keepc hb b1_0
    replace b1_1 := keepc hb b1_1
    replace b11_0 := keepc hb b11_0
    replace b11_1 := keepc hb b11_1
    replace b12_0 := keepc hb b12_0
    replace b12_1 := keepc hb b12_1
    replace b13_0 := keepc hb b13_0
    replace b13_1 := keepc hb b13_1
    replace b14_0 := keepc hb b14_0
    replace b14_1 := keepc hb b14_1
    replace HR0 := Lib.hid (HR0.out.late hb)
    replace HR1 := Lib.hid (HR1.out.late hb)
    replace HR2 := Lib.hid (HR2.out.late hb)
    replace HR3 := Lib.hid (HR3.out.late hb)
    replace HB := Lib.hid (gr_then hb HB.out)
    clear hb
    go_wp2
    have HA := Lib.hid (gr_refl w10)
    go_region_held3 (fun w' => w'.cell? ⟨w.heap.size, 0, none⟩ = some (.int .i64 s0) ∧ w'.cell? ⟨w.heap.size, 1, none⟩ = some (.slice A0 xs0.length c0) ∧ w'.cell? ⟨K2, 0, none⟩ = some (.int .i64 (s0)) ∧ w'.cell? ⟨K2, 1, none⟩ = some (.slice (some ⟨g1, 0, none⟩) (xs0).length (xs0.length))) ((first | exact ⟨b0_0, b0_1, b12_0, b12_1⟩ | exact ⟨keepc HA.out b0_0, keepc HA.out b0_1, keepc HA.out b12_0, keepc HA.out b12_1⟩)) (first | (go_at_call 15; (with_reducible refine (toMotion_any s0 A0 c0 xs0 _ hn0 (HS0.out.later (gr_drew HB.out))).mono ?_); rintro e w11 ⟨gA, rfl, hgA, hbA, hb⟩; have HA := Lib.hid (gr_then hb (gr_drew HA.out)); have HVn := Lib.hid hbA; have HVo := Lib.hid (HR1.out.late HA.out)) | (go_at_call 17; (with_reducible refine (eqMotion_same s0 _ _ _ _ xs0 _ hn0 HVo.out.sv (HVn.out.sv HVn.out.lt)).mono ?_); rintro e w12 ⟨rfl, hb⟩; have HA := Lib.hid (gr_then hb HA.out)))
    have hz12 := HA.out.size
    replace b0_0 := keepc HA.out b0_0
    replace b0_1 := keepc HA.out b0_1
    replace b1_0 := keepc HA.out b1_0
    replace b1_1 := keepc HA.out b1_1
    replace b11_0 := keepc HA.out b11_0
    replace b11_1 := keepc HA.out b11_1
    replace b12_0 := keepc HA.out b12_0
    replace b12_1 := keepc HA.out b12_1
    replace b13_0 := keepc HA.out b13_0
    replace b13_1 := keepc HA.out b13_1
    replace b14_0 := keepc HA.out b14_0
    replace b14_1 := keepc HA.out b14_1
    replace HR0 := Lib.hid (HR0.out.late HA.out)
    replace HR1 := Lib.hid (HR1.out.late HA.out)
    replace HR2 := Lib.hid (HR2.out.late HA.out)
    replace HR3 := Lib.hid (HR3.out.late HA.out)
    replace HB := Lib.hid (gr_then HA.out HB.out)
    clear HA HVn HVo hb
    go_wp2
    have HA := Lib.hid (gr_refl w12)
    go_region_held3 (fun w' => w'.cell? ⟨w.heap.size + 1, 0, none⟩ = some (.int .i64 s1) ∧ w'.cell? ⟨w.heap.size + 1, 1, none⟩ = some (.slice A1 xs1.length c1) ∧ w'.cell? ⟨K3, 0, none⟩ = some (.int .i64 (s1)) ∧ w'.cell? ⟨K3, 1, none⟩ = some (.slice (some ⟨g2, 0, none⟩) (xs1).length (xs1.length))) ((first | exact ⟨b1_0, b1_1, b13_0, b13_1⟩ | exact ⟨keepc HA.out b1_0, keepc HA.out b1_1, keepc HA.out b13_0, keepc HA.out b13_1⟩)) (first | (go_at_call 15; (with_reducible refine (toMotion_any s1 A1 c1 xs1 _ hn1 (HS1.out.later (gr_drew HB.out))).mono ?_); rintro e w13 ⟨gA, rfl, hgA, hbA, hb⟩; have HA := Lib.hid (gr_then hb (gr_drew HA.out)); have HVn := Lib.hid hbA; have HVo := Lib.hid (HR2.out.late HA.out)) | (go_at_call 17; (with_reducible refine (eqMotion_same s1 _ _ _ _ xs1 _ hn1 HVo.out.sv (HVn.out.sv HVn.out.lt)).mono ?_); rintro e w14 ⟨rfl, hb⟩; have HA := Lib.hid (gr_then hb HA.out)))
    have hz14 := HA.out.size
    replace b0_0 := keepc HA.out b0_0
    replace b0_1 := keepc HA.out b0_1
    replace b1_0 := keepc HA.out b1_0
    replace b1_1 := keepc HA.out b1_1
    replace b11_0 := keepc HA.out b11_0
    replace b11_1 := keepc HA.out b11_1
    replace b12_0 := keepc HA.out b12_0
    replace b12_1 := keepc HA.out b12_1
    replace b13_0 := keepc HA.out b13_0
    replace b13_1 := keepc HA.out b13_1
    replace b14_0 := keepc HA.out b14_0
    replace b14_1 := keepc HA.out b14_1
    replace HR0 := Lib.hid (HR0.out.late HA.out)
    replace HR1 := Lib.hid (HR1.out.late HA.out)
    replace HR2 := Lib.hid (HR2.out.late HA.out)
    replace HR3 := Lib.hid (HR3.out.late HA.out)
    replace HB := Lib.hid (gr_then HA.out HB.out)
    clear HA HVn HVo hb
    go_wp2_with fail
    go_at_call 24
    (with_reducible refine (markMotion_any (s0) _ _ (xs0) (1) _ _ _ hn0 (by constructor <;> omega) HR1.out).mono ?_)
    rintro e w15 ⟨rfl, hr, ho⟩
    have hz15 := ho.size
    replace b0_0 := ho.keepc (by omega) b0_0
    replace b0_1 := ho.keepc (by omega) b0_1
    replace b1_0 := ho.keepc (by omega) b1_0
    replace b1_1 := ho.keepc (by omega) b1_1
    replace b11_0 := ho.keepc (by omega) b11_0
    replace b11_1 := ho.keepc (by omega) b11_1
    replace b12_0 := ho.keepc (by omega) b12_0
    replace b12_1 := ho.keepc (by omega) b12_1
    replace b13_0 := ho.keepc (by omega) b13_0
    replace b13_1 := ho.keepc (by omega) b13_1
    replace b14_0 := ho.keepc (by omega) b14_0
    replace b14_1 := ho.keepc (by omega) b14_1
    replace HR0 := Lib.hid (HR0.out.only ho (by omega))
    replace HR2 := Lib.hid (HR2.out.only ho (by omega))
    replace HR3 := Lib.hid (HR3.out.only ho (by omega))
    replace HB := Lib.hid (Only.after HB.out ho (by omega) (Nat.le_refl _))
    replace HR1 := Lib.hid hr
    clear ho hr
    go_wp2_with fail
    go_at_call 24
    (with_reducible refine (markMotion_any (s1) _ _ (xs1) (1 + ((xs0).length : Int)) _ _ _ hn1 (by constructor <;> omega) HR2.out).mono ?_)
    rintro e w16 ⟨rfl, hr, ho⟩
    have hz16 := ho.size
    replace b0_0 := ho.keepc (by omega) b0_0
    replace b0_1 := ho.keepc (by omega) b0_1
    replace b1_0 := ho.keepc (by omega) b1_0
    replace b1_1 := ho.keepc (by omega) b1_1
    replace b11_0 := ho.keepc (by omega) b11_0
    replace b11_1 := ho.keepc (by omega) b11_1
    replace b12_0 := ho.keepc (by omega) b12_0
    replace b12_1 := ho.keepc (by omega) b12_1
    replace b13_0 := ho.keepc (by omega) b13_0
    replace b13_1 := ho.keepc (by omega) b13_1
    replace b14_0 := ho.keepc (by omega) b14_0
    replace b14_1 := ho.keepc (by omega) b14_1
    replace HR0 := Lib.hid (HR0.out.only ho (by omega))
    replace HR1 := Lib.hid (HR1.out.only ho (by omega))
    replace HR3 := Lib.hid (HR3.out.only ho (by omega))
    replace HB := Lib.hid (Only.after HB.out ho (by omega) (Nat.le_refl _))
    replace HR2 := Lib.hid hr
    clear ho hr
    go_wp2_with fail
    go_at_call 17
    (with_reducible refine (eqMotion_same (jmS s0 xs0 s1 xs1) _ _ _ _ (jmX s0 xs0 s1 xs1) _ hL HR3.out.sv HR0.out.sv).mono ?_)
    rintro e w17 ⟨rfl, hb⟩
    have hz17 := hb.size
    replace b0_0 := keepc hb b0_0
    replace b0_1 := keepc hb b0_1
    replace b1_0 := keepc hb b1_0
    replace b1_1 := keepc hb b1_1
    replace b11_0 := keepc hb b11_0
    replace b11_1 := keepc hb b11_1
    replace b12_0 := keepc hb b12_0
    replace b12_1 := keepc hb b12_1
    replace b13_0 := keepc hb b13_0
    replace b13_1 := keepc hb b13_1
    replace b14_0 := keepc hb b14_0
    replace b14_1 := keepc hb b14_1
    replace HR0 := Lib.hid (HR0.out.late hb)
    replace HR1 := Lib.hid (HR1.out.late hb)
    replace HR2 := Lib.hid (HR2.out.late hb)
    replace HR3 := Lib.hid (HR3.out.late hb)
    replace HB := Lib.hid (gr_then hb HB.out)
    clear hb
    go_wp2_with fail
    go_at_call 24
    (with_reducible refine (markMotion_any (jmS s0 xs0 s1 xs1) _ _ (jmX s0 xs0 s1 xs1) (1) _ _ _ hL (by constructor <;> omega) HR3.out).mono ?_)
    rintro e w18 ⟨rfl, hr, ho⟩
    have hz18 := ho.size
    replace b0_0 := ho.keepc (by omega) b0_0
    replace b0_1 := ho.keepc (by omega) b0_1
    replace b1_0 := ho.keepc (by omega) b1_0
    replace b1_1 := ho.keepc (by omega) b1_1
    replace b11_0 := ho.keepc (by omega) b11_0
    replace b11_1 := ho.keepc (by omega) b11_1
    replace b12_0 := ho.keepc (by omega) b12_0
    replace b12_1 := ho.keepc (by omega) b12_1
    replace b13_0 := ho.keepc (by omega) b13_0
    replace b13_1 := ho.keepc (by omega) b13_1
    replace b14_0 := ho.keepc (by omega) b14_0
    replace b14_1 := ho.keepc (by omega) b14_1
    replace HR0 := Lib.hid (HR0.out.only ho (by omega))
    replace HR1 := Lib.hid (HR1.out.only ho (by omega))
    replace HR2 := Lib.hid (HR2.out.only ho (by omega))
    replace HB := Lib.hid (Only.after HB.out ho (by omega) (Nat.le_refl _))
    replace HR3 := Lib.hid hr
    clear ho hr
    go_wp2_with fail
    go_at_call 25
    (with_reducible refine (heldMotion_any (jmS s0 xs0 s1 xs1) _ _ (1) (jmX s0 xs0 s1 xs1).length _ hL (by constructor <;> omega) HR3.out.sv).mono ?_)
    rintro e w19 ⟨rfl, hb⟩
    have hz19 := hb.size
    replace b0_0 := keepc hb b0_0
    replace b0_1 := keepc hb b0_1
    replace b1_0 := keepc hb b1_0
    replace b1_1 := keepc hb b1_1
    replace b11_0 := keepc hb b11_0
    replace b11_1 := keepc hb b11_1
    replace b12_0 := keepc hb b12_0
    replace b12_1 := keepc hb b12_1
    replace b13_0 := keepc hb b13_0
    replace b13_1 := keepc hb b13_1
    replace b14_0 := keepc hb b14_0
    replace b14_1 := keepc hb b14_1
    replace HR0 := Lib.hid (HR0.out.late hb)
    replace HR1 := Lib.hid (HR1.out.late hb)
    replace HR2 := Lib.hid (HR2.out.late hb)
    replace HR3 := Lib.hid (HR3.out.late hb)
    replace HB := Lib.hid (gr_then hb HB.out)
    clear hb
    go_wp2
    go_cut [15, 16] (fun p6 n7 wx => ∃ gg Ag cg, p6 = .pointer (some ⟨gg, 0, none⟩) ∧ n7 = .int .i64 (jmC s0 xs0 s1 xs1) ∧ Box2 wx gg 27 (.int .i64 (jmS s0 xs0 s1 xs1)) (.slice Ag (jmX s0 xs0 s1 xs1).length cg) ∧ RS (.int .i64) 2 wx w19.heap.size wx.heap.size Ag cg (jmX s0 xs0 s1 xs1) ∧ Below w19.heap.size w19 wx)
    case first =>
      have hA : Below w19.heap.size w19 w19 := gr_refl _
      go_region_held3 (fun w' => w'.cell? ⟨w.heap.size, 0, none⟩ = some (.int .i64 s0) ∧ w'.cell? ⟨w.heap.size, 1, none⟩ = some (.slice A0 xs0.length c0) ∧ w'.cell? ⟨w.heap.size + 1, 0, none⟩ = some (.int .i64 s1) ∧ w'.cell? ⟨w.heap.size + 1, 1, none⟩ = some (.slice A1 xs1.length c1)) ((exact ⟨keepc (by repeat' first | exact gr_refl _ | with_reducible assumption | with_reducible apply gr_alloc | with_reducible apply gr_set | with_reducible apply gr_drew | with_reducible apply gr_drewN | exact Nat.le_add_right _ _ | exact Nat.le_refl _ | (dsimp only; omega) | (refine gr_then (by with_reducible assumption) ?_)) b0_0, keepc (by repeat' first | exact gr_refl _ | with_reducible assumption | with_reducible apply gr_alloc | with_reducible apply gr_set | with_reducible apply gr_drew | with_reducible apply gr_drewN | exact Nat.le_add_right _ _ | exact Nat.le_refl _ | (dsimp only; omega) | (refine gr_then (by with_reducible assumption) ?_)) b0_1, keepc (by repeat' first | exact gr_refl _ | with_reducible assumption | with_reducible apply gr_alloc | with_reducible apply gr_set | with_reducible apply gr_drew | with_reducible apply gr_drewN | exact Nat.le_add_right _ _ | exact Nat.le_refl _ | (dsimp only; omega) | (refine gr_then (by with_reducible assumption) ?_)) b1_0, keepc (by repeat' first | exact gr_refl _ | with_reducible assumption | with_reducible apply gr_alloc | with_reducible apply gr_set | with_reducible apply gr_drew | with_reducible apply gr_drewN | exact Nat.le_add_right _ _ | exact Nat.le_refl _ | (dsimp only; omega) | (refine gr_then (by with_reducible assumption) ?_)) b1_1⟩)) (first | (go_at_call 15; first | ((with_reducible refine (toMotion_any s0 A0 c0 xs0 _ hn0 (HS0.out.later (gr_then (by repeat' first | exact gr_refl _ | with_reducible assumption | with_reducible apply gr_alloc | with_reducible apply gr_set | with_reducible apply gr_drew | with_reducible apply gr_drewN | exact Nat.le_add_right _ _ | exact Nat.le_refl _ | (refine gr_then (by with_reducible assumption) ?_)) HB.out))).mono ?_); rintro e y0 ⟨gv0, rfl, hgv, hbv, hb⟩; have HV0 := Lib.hid hbv; have hA : Below w19.heap.size w19 y0 := gr_then hb (by repeat' first | exact gr_refl _ | with_reducible assumption | with_reducible apply gr_alloc | with_reducible apply gr_set | with_reducible apply gr_drew | with_reducible apply gr_drewN | exact Nat.le_add_right _ _ | exact Nat.le_refl _ | (refine gr_then (by with_reducible assumption) ?_)); have hzA := hA.size; (first | have hF := Box2.late hF hb | have hF := Box2.late (Box2.new _ 27 (.int .i64 0) (.slice none 0 0)) hb | have hF := Box2.late (Box2.late (Box2.new _ 27 (.int .i64 0) (.slice none 0 0)) (gr_drew (gr_refl _))) hb | skip); (first | (have i0 := hF.c0; have i1 := hF.c1; have i2 := hF.f0 0; have i3 := hF.f0 1; have i4 := hF.lt) | skip); clear hgv hbv) | ((with_reducible refine (toMotion_any s1 A1 c1 xs1 _ hn1 (HS1.out.later (gr_then (by repeat' first | exact gr_refl _ | with_reducible assumption | with_reducible apply gr_alloc | with_reducible apply gr_set | with_reducible apply gr_drew | with_reducible apply gr_drewN | exact Nat.le_add_right _ _ | exact Nat.le_refl _ | (refine gr_then (by with_reducible assumption) ?_)) HB.out))).mono ?_); rintro e y1 ⟨gv1, rfl, hgv, hbv, hb⟩; have HV1 := Lib.hid hbv; have HV0 := Lib.hid (HV0.out.late (gr_then hb (by repeat' first | exact gr_refl _ | with_reducible assumption | with_reducible apply gr_alloc | with_reducible apply gr_set | with_reducible apply gr_drew | with_reducible apply gr_drewN | exact Nat.le_add_right _ _ | exact Nat.le_refl _ | (refine gr_then (by with_reducible assumption) ?_)))); have hA : Below w19.heap.size w19 y1 := gr_then hb (by repeat' first | exact gr_refl _ | with_reducible assumption | with_reducible apply gr_alloc | with_reducible apply gr_set | with_reducible apply gr_drew | with_reducible apply gr_drewN | exact Nat.le_add_right _ _ | exact Nat.le_refl _ | (refine gr_then (by with_reducible assumption) ?_)); have hzA := hA.size; (first | have hF := Box2.late hF hb | have hF := Box2.late (Box2.new _ 27 (.int .i64 0) (.slice none 0 0)) hb | have hF := Box2.late (Box2.late (Box2.new _ 27 (.int .i64 0) (.slice none 0 0)) (gr_drew (gr_refl _))) hb | skip); (first | (have i0 := hF.c0; have i1 := hF.c1; have i2 := hF.f0 0; have i3 := hF.f0 1; have i4 := hF.lt) | skip); clear hgv hbv)) | (go_at_call 37; (with_reducible refine (implJm_any s0 _ _ xs0 s1 _ _ xs1 _ hn0 hn1 (fun h => by cases h) (fun h => by cases h) ((HV0.out.sv HV0.out.lt).later (by repeat' first | exact gr_refl _ | with_reducible assumption | with_reducible apply gr_alloc | with_reducible apply gr_set | with_reducible apply gr_drew | with_reducible apply gr_drewN | exact Nat.le_add_right _ _ | exact Nat.le_refl _ | (refine gr_then (by with_reducible assumption) ?_))) ((HV1.out.sv HV1.out.lt).later (by repeat' first | exact gr_refl _ | with_reducible assumption | with_reducible apply gr_alloc | with_reducible apply gr_set | with_reducible apply gr_drew | with_reducible apply gr_drewN | exact Nat.le_add_right _ _ | exact Nat.le_refl _ | (refine gr_then (by with_reducible assumption) ?_)))).mono ?_); rintro e y9 ⟨Bq, dq, rfl, hrq, hb⟩; have HRq := Lib.hid hrq; have hA : Below w19.heap.size w19 y9 := gr_then hb (by repeat' first | exact gr_refl _ | with_reducible assumption | with_reducible apply gr_alloc | with_reducible apply gr_set | with_reducible apply gr_drew | with_reducible apply gr_drewN | exact Nat.le_add_right _ _ | exact Nat.le_refl _ | (refine gr_then (by with_reducible assumption) ?_)); have hzA := hA.size; (first | have hF := Box2.late hF hb | have hF := Box2.late (Box2.new _ 27 (.int .i64 0) (.slice none 0 0)) hb | have hF := Box2.late (Box2.late (Box2.new _ 27 (.int .i64 0) (.slice none 0 0)) (gr_drew (gr_refl _))) hb | skip); (first | (have i0 := hF.c0; have i1 := hF.c1; have i2 := hF.f0 0; have i3 := hF.f0 1; have i4 := hF.lt) | skip); clear hrq))
      all_goals (go_wp2; go_meet; refine ⟨_, Bq, dq, rfl, rfl, ?_, ?_, by repeat' first | exact gr_refl _ | with_reducible assumption | with_reducible apply gr_alloc | with_reducible apply gr_set | with_reducible apply gr_drew | with_reducible apply gr_drewN | exact Nat.le_add_right _ _ | exact Nat.le_refl _ | (dsimp only; omega) | (refine gr_then (by with_reducible assumption) ?_)⟩)
      all_goals first | exact Box2.new _ _ _ _ | exact (hF.put0 _).put1 _ | exact ((HRq.out.wide (by first | omega | (simp only [World.size_alloc]; omega) | (dsimp only; omega)) (Nat.le_refl _)).late (gr_alloc (gr_refl _))).top | exact ((HRq.out.far (p := ⟨_, 0, none⟩) (by intro g' hg' he'; have hq := HRq.out.ge' hg'; (try simp only [World.size_alloc] at hq); dsimp only at he'; omega) _).far (p := ⟨_, 1, none⟩) (by intro g' hg' he'; have hq := HRq.out.ge' hg'; (try simp only [World.size_alloc] at hq); dsimp only at he'; omega) _).wide (by first | omega | (simp only [World.size_alloc]; omega) | (dsimp only; omega)) (by simp)
    case rest =>
      obtain ⟨K5, B4, d4, rfl, rfl, hbx, hr, hb⟩ := hcut
      have hz20 := hb.size
      have hk20 := hbx.lt
      replace b0_0 := keepc hb b0_0
      replace b0_1 := keepc hb b0_1
      replace b1_0 := keepc hb b1_0
      replace b1_1 := keepc hb b1_1
      replace b11_0 := keepc hb b11_0
      replace b11_1 := keepc hb b11_1
      replace b12_0 := keepc hb b12_0
      replace b12_1 := keepc hb b12_1
      replace b13_0 := keepc hb b13_0
      replace b13_1 := keepc hb b13_1
      replace b14_0 := keepc hb b14_0
      replace b14_1 := keepc hb b14_1
      replace HR0 := Lib.hid (HR0.out.late hb)
      replace HR1 := Lib.hid (HR1.out.late hb)
      replace HR2 := Lib.hid (HR2.out.late hb)
      replace HR3 := Lib.hid (HR3.out.late hb)
      replace HB := Lib.hid (gr_then hb HB.out)
      have b15_0 := hbx.c0
      have b15_1 := hbx.c1
      have HR4 := Lib.hid hr
      clear hb hbx hr
      generalize wc = w20 at *
      go_wp2_with fail
      go_at_call 17
      (with_reducible refine (eqMotion_same (jmS s0 xs0 s1 xs1) _ _ _ _ (jmX s0 xs0 s1 xs1) _ hL HR4.out.sv HR0.out.sv).mono ?_)
      rintro e w21 ⟨rfl, hb⟩
      have hz21 := hb.size
      replace b0_0 := keepc hb b0_0
      replace b0_1 := keepc hb b0_1
      replace b1_0 := keepc hb b1_0
      replace b1_1 := keepc hb b1_1
      replace b11_0 := keepc hb b11_0
      replace b11_1 := keepc hb b11_1
      replace b12_0 := keepc hb b12_0
      replace b12_1 := keepc hb b12_1
      replace b13_0 := keepc hb b13_0
      replace b13_1 := keepc hb b13_1
      replace b14_0 := keepc hb b14_0
      replace b14_1 := keepc hb b14_1
      replace b15_0 := keepc hb b15_0
      replace b15_1 := keepc hb b15_1
      replace HR0 := Lib.hid (HR0.out.late hb)
      replace HR1 := Lib.hid (HR1.out.late hb)
      replace HR2 := Lib.hid (HR2.out.late hb)
      replace HR3 := Lib.hid (HR3.out.late hb)
      replace HR4 := Lib.hid (HR4.out.late hb)
      replace HB := Lib.hid (gr_then hb HB.out)
      clear hb
      go_wp2_with fail
      go_at_call 25
      (with_reducible refine (heldMotion_any (jmS s0 xs0 s1 xs1) _ _ (1) (jmX s0 xs0 s1 xs1).length _ hL (by constructor <;> omega) HR3.out.sv).mono ?_)
      rintro e w22 ⟨rfl, hb⟩
      have hz22 := hb.size
      replace b0_0 := keepc hb b0_0
      replace b0_1 := keepc hb b0_1
      replace b1_0 := keepc hb b1_0
      replace b1_1 := keepc hb b1_1
      replace b11_0 := keepc hb b11_0
      replace b11_1 := keepc hb b11_1
      replace b12_0 := keepc hb b12_0
      replace b12_1 := keepc hb b12_1
      replace b13_0 := keepc hb b13_0
      replace b13_1 := keepc hb b13_1
      replace b14_0 := keepc hb b14_0
      replace b14_1 := keepc hb b14_1
      replace b15_0 := keepc hb b15_0
      replace b15_1 := keepc hb b15_1
      replace HR0 := Lib.hid (HR0.out.late hb)
      replace HR1 := Lib.hid (HR1.out.late hb)
      replace HR2 := Lib.hid (HR2.out.late hb)
      replace HR3 := Lib.hid (HR3.out.late hb)
      replace HR4 := Lib.hid (HR4.out.late hb)
      replace HB := Lib.hid (gr_then hb HB.out)
      clear hb
      go_wp2
      go_returns
      exact ⟨rfl, HB.out⟩
end Go.Proofs.Ytoojnfdphjdocaa.fnExactJoinMotions
