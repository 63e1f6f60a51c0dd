/- The walk of the law FnExactBackMotion: whatever came in, both functions agree. No condition. -/
import Derived.Test.YtoojnfdphjdocaaMotM
import Derived.Deep.RegionHeld3
import Derived.Deep.DeepCutAuto
namespace Go.Proofs.Ytoojnfdphjdocaa.fnExactBackMotion
open Go.RowKit
set_option maxHeartbeats 8000000 in
set_option maxRecDepth 20000 in
theorem walk (s0 : Int) (A0 : Option Addr) (n0 c0 : Nat) (xs0 : List Int) (w : World) (_ : -9223372036854775808 ≤ s0 ∧ s0 ≤ 9223372036854775807) (h0 : n0 ≤ 9223372036854775807 ∧ xs0.length = n0 ∧ (∀ x ∈ xs0, I64 x) ∧ SV (.int .i64) w w.heap.size A0 xs0) :
    Calls Try.prog 7 #[.agg #[.int .i64 s0, .slice A0 n0 c0]] w fun e w' => e = .returned (.bool true) ∧ Below w.heap.size w w' := by
  obtain ⟨hn0, hl0, _, hs0⟩ := h0
  obtain rfl : n0 = xs0.length := hl0.symm
  have HS0 := Lib.hid hs0
  clear hl0 hs0
  have b0_0 : (w.alloc (.cells #[.int .i64 s0, .slice A0 xs0.length c0] 24)).cell? ⟨w.heap.size, 0, none⟩ = some (.int .i64 s0) := by simp [go_sem]
  have b0_1 : (w.alloc (.cells #[.int .i64 s0, .slice A0 xs0.length c0] 24)).cell? ⟨w.heap.size, 1, none⟩ = some (.slice A0 xs0.length c0) := by simp [go_sem]
  have HB := Lib.hid (show Below w.heap.size w (w.alloc (.cells #[.int .i64 s0, .slice A0 xs0.length c0] 24)) by repeat' first | exact gr_refl _ | with_reducible assumption | with_reducible apply gr_alloc | with_reducible apply gr_set | with_reducible apply gr_drew | with_reducible apply gr_drewN | exact Nat.le_add_right _ _ | exact Nat.le_refl _ | (refine gr_then (by with_reducible assumption) ?_))
  have hz0 : w.heap.size + 1 ≤ (w.alloc (.cells #[.int .i64 s0, .slice A0 xs0.length c0] 24)).heap.size := by simp
  have hL : (bmX s0 xs0).length ≤ 1048576 := by have := bmX_len (s := s0) (xs := xs0); omega
  go_enter Try.func7, Try.ntmps7
  go_wp2_with fail
  go_at_call 13
  (with_reducible refine (szMotion_any s0 A0 _ c0 (1048576) _ hn0 (by omega) (by omega)).mono ?_)
  rintro e w1 ⟨rfl, hb⟩
  have hz1 := hb.size
  simp only [World.size_alloc] at hz1
  replace b0_0 := keepc hb b0_0
  replace b0_1 := keepc hb b0_1
  replace HB := Lib.hid (gr_then hb HB.out)
  clear hb
  by_cases hm0 : (1048576 : Int) < xs0.length
  · rw [if_pos hm0]
    go_wp2
    go_returns
    exact ⟨rfl, HB.out⟩
  rw [if_neg hm0]
  replace hn0 : xs0.length ≤ 1048576 := by omega
  have hd0 : decide ((1048576 : Int) - xs0.length < 0) = false := decide_eq_false (by omega)
  go_wp2_with fail
  go_at_call 15
  (with_reducible refine (toMotion_any s0 A0 c0 xs0 _ hn0 (HS0.out.later HB.out)).mono ?_)
  rintro e w2 ⟨g0, rfl, hg0, hbv0, hb⟩
  have hz2 := hb.size
  replace b0_0 := keepc hb b0_0
  replace b0_1 := keepc hb b0_1
  replace HB := Lib.hid (gr_then hb HB.out)
  have HR0 := Lib.hid (show RS (.int .i64) 2 w2 (w1.heap.size) (w2.heap.size) (some ⟨g0, 0, none⟩) (xs0.length) (xs0) from RS.of_bv hbv0 hg0 hbv0.lt (by unfold maxLen; omega))
  clear hb hbv0 hg0
  go_wp2_with fail
  go_at_call 26
  (with_reducible refine (specBm_n s0 _ _ _ xs0 _ (Lib.hid rfl) hn0 HR0.out.sv).mono ?_)
  rintro e w3 ⟨B1, d1, rfl, hr1, hb⟩
  have hz3 := hb.size
  replace b0_0 := keepc hb b0_0
  replace b0_1 := keepc hb b0_1
  replace HR0 := Lib.hid (HR0.out.late hb)
  replace HB := Lib.hid (gr_then hb HB.out)
  have HR1 := Lib.hid (show RS (.int .i64) 2 w3 (w2.heap.size) (w3.heap.size) B1 (d1) (bmX s0 xs0) from hr1)
  clear hb hr1
  have hb' : Below w3.heap.size w3 (w3.alloc (.cells #[.int .i64 (bmS s0 xs0), .slice B1 (bmX s0 xs0).length (d1)] 27)) := gr_alloc (gr_refl _)
  replace b0_0 := keepc hb' b0_0
  replace b0_1 := keepc hb' b0_1
  replace HR0 := Lib.hid (HR0.out.late hb')
  replace HR1 := Lib.hid (HR1.out.late hb')
  replace HB := Lib.hid (gr_then hb' HB.out)
  have hz4 : w3.heap.size + 1 ≤ (w3.alloc (.cells #[.int .i64 (bmS s0 xs0), .slice B1 (bmX s0 xs0).length (d1)] 27)).heap.size := by simp
  have b11_0 : (w3.alloc (.cells #[.int .i64 (bmS s0 xs0), .slice B1 (bmX s0 xs0).length (d1)] 27)).cell? ⟨w3.heap.size, 0, none⟩ = some (.int .i64 (bmS s0 xs0)) := by simp [go_sem]
  have b11_1 : (w3.alloc (.cells #[.int .i64 (bmS s0 xs0), .slice B1 (bmX s0 xs0).length (d1)] 27)).cell? ⟨w3.heap.size, 1, none⟩ = some (.slice B1 (bmX s0 xs0).length (d1)) := by simp [go_sem]
  clear hb'
  go_wp2_with fail
  generalize w3.alloc (.cells #[.int .i64 (bmS s0 xs0), .slice B1 (bmX s0 xs0).length (d1)] 27) = w4 at *
  generalize w3.heap.size = K1 at *
  go_at_call 15
  (with_reducible refine (toMotion_any s0 A0 c0 xs0 _ hn0 (HS0.out.later HB.out)).mono ?_)
  rintro e w5 ⟨g2, rfl, hg2, hbv2, hb⟩
  have hz5 := hb.size
  replace b0_0 := keepc hb b0_0
  replace b0_1 := keepc hb b0_1
  replace b11_0 := keepc hb b11_0
  replace b11_1 := keepc hb b11_1
  replace HR0 := Lib.hid (HR0.out.late hb)
  replace HR1 := Lib.hid (HR1.out.late hb)
  replace HB := Lib.hid (gr_then hb HB.out)
  have HR2 := Lib.hid (show RS (.int .i64) 2 w5 (w4.heap.size) (w5.heap.size) (some ⟨g2, 0, none⟩) (xs0.length) (xs0) from RS.of_bv hbv2 hg2 hbv2.lt (by unfold maxLen; omega))
  clear hb hbv2 hg2
  have hb' : Below w5.heap.size w5 (w5.alloc (.cells #[.int .i64 (s0), .slice (some ⟨g2, 0, none⟩) (xs0).length (xs0.length)] 27)) := gr_alloc (gr_refl _)
  replace b0_0 := keepc hb' b0_0
  replace b0_1 := keepc hb' b0_1
  replace b11_0 := keepc hb' b11_0
  replace b11_1 := keepc hb' b11_1
  replace HR0 := Lib.hid (HR0.out.late hb')
  replace HR1 := Lib.hid (HR1.out.late hb')
  replace HR2 := Lib.hid (HR2.out.late hb')
  replace HB := Lib.hid (gr_then hb' HB.out)
  have hz6 : w5.heap.size + 1 ≤ (w5.alloc (.cells #[.int .i64 (s0), .slice (some ⟨g2, 0, none⟩) (xs0).length (xs0.length)] 27)).heap.size := by simp
  have b12_0 : (w5.alloc (.cells #[.int .i64 (s0), .slice (some ⟨g2, 0, none⟩) (xs0).length (xs0.length)] 27)).cell? ⟨w5.heap.size, 0, none⟩ = some (.int .i64 (s0)) := by simp [go_sem]
  have b12_1 : (w5.alloc (.cells #[.int .i64 (s0), .slice (some ⟨g2, 0, none⟩) (xs0).length (xs0.length)] 27)).cell? ⟨w5.heap.size, 1, none⟩ = some (.slice (some ⟨g2, 0, none⟩) (xs0).length (xs0.length)) := by simp [go_sem]
  clear hb'
  go_wp2_with fail
  generalize w5.alloc (.cells #[.int .i64 (s0), .slice (some ⟨g2, 0, none⟩) (xs0).length (xs0.length)] 27) = w6 at *
  generalize w5.heap.size = K2 at *
  go_at_call 27
  (with_reducible refine (implBm_any s0 _ _ xs0 _ hn0 HR2.out.sv).mono ?_)
  rintro e w7 ⟨B3, d3, rfl, hr3, hb⟩
  have hz7 := hb.size
  replace b0_0 := keepc hb b0_0
  replace b0_1 := keepc hb b0_1
  replace b11_0 := keepc hb b11_0
  replace b11_1 := keepc hb b11_1
  replace b12_0 := keepc hb b12_0
  replace b12_1 := keepc hb b12_1
  replace HR0 := Lib.hid (HR0.out.late hb)
  replace HR1 := Lib.hid (HR1.out.late hb)
  replace HR2 := Lib.hid (HR2.out.late hb)
  replace HB := Lib.hid (gr_then hb HB.out)
  have HR3 := Lib.hid (show RS (.int .i64) 2 w7 (w6.heap.size) (w7.heap.size) B3 (d3) (bmX s0 xs0) from hr3)
  clear hb hr3
  have hb' : Below w7.heap.size w7 (w7.alloc (.cells #[.int .i64 (bmS s0 xs0), .slice B3 (bmX s0 xs0).length (d3)] 27)) := gr_alloc (gr_refl _)
  replace b0_0 := keepc hb' b0_0
  replace b0_1 := keepc hb' b0_1
  replace b11_0 := keepc hb' b11_0
  replace b11_1 := keepc hb' b11_1
  replace b12_0 := keepc hb' b12_0
  replace b12_1 := keepc hb' b12_1
  replace HR0 := Lib.hid (HR0.out.late hb')
  replace HR1 := Lib.hid (HR1.out.late hb')
  replace HR2 := Lib.hid (HR2.out.late hb')
  replace HR3 := Lib.hid (HR3.out.late hb')
  replace HB := Lib.hid (gr_then hb' HB.out)
  have hz8 : w7.heap.size + 1 ≤ (w7.alloc (.cells #[.int .i64 (bmS s0 xs0), .slice B3 (bmX s0 xs0).length (d3)] 27)).heap.size := by simp
  have b13_0 : (w7.alloc (.cells #[.int .i64 (bmS s0 xs0), .slice B3 (bmX s0 xs0).length (d3)] 27)).cell? ⟨w7.heap.size, 0, none⟩ = some (.int .i64 (bmS s0 xs0)) := by simp [go_sem]
  have b13_1 : (w7.alloc (.cells #[.int .i64 (bmS s0 xs0), .slice B3 (bmX s0 xs0).length (d3)] 27)).cell? ⟨w7.heap.size, 1, none⟩ = some (.slice B3 (bmX s0 xs0).length (d3)) := by simp [go_sem]
  clear hb'
  go_wp2_with fail
  generalize w7.alloc (.cells #[.int .i64 (bmS s0 xs0), .slice B3 (bmX s0 xs0).length (d3)] 27) = w8 at *
  generalize w7.heap.size = K3 at *
  go_at_call 17
  (with_reducible refine (eqMotion_same (bmS s0 xs0) _ _ _ _ (bmX s0 xs0) _ hL HR3.out.sv HR1.out.sv).mono ?_)
  rintro e w9 ⟨rfl, hb⟩
  have hz9 := hb.size
  replace b0_0 := keepc hb b0_0
  replace b0_1 := keepc hb b0_1
  replace b11_0 := keepc hb b11_0
  replace b11_1 := keepc hb b11_1
  replace b12_0 := keepc hb b12_0
  replace b12_1 := keepc hb b12_1
  replace b13_0 := keepc hb b13_0
  replace b13_1 := keepc hb b13_1
  replace HR0 := Lib.hid (HR0.out.late hb)
  replace HR1 := Lib.hid (HR1.out.late hb)
  replace HR2 := Lib.hid (HR2.out.late hb)
  replace HR3 := Lib.hid (HR3.out.late hb)
  replace HB := Lib.hid (gr_then hb HB.out)
  clear hb
  go_wp2
  have HA := Lib.hid (gr_refl w9)
  go_region_held3 (fun w' => w'.cell? ⟨w.heap.size, 0, none⟩ = some (.int .i64 s0) ∧ w'.cell? ⟨w.heap.size, 1, none⟩ = some (.slice A0 xs0.length c0) ∧ w'.cell? ⟨K2, 0, none⟩ = some (.int .i64 (s0)) ∧ w'.cell? ⟨K2, 1, none⟩ = some (.slice (some ⟨g2, 0, none⟩) (xs0).length (xs0.length))) ((first | exact ⟨b0_0, b0_1, b12_0, b12_1⟩ | exact ⟨keepc HA.out b0_0, keepc HA.out b0_1, keepc HA.out b12_0, keepc HA.out b12_1⟩)) (first | (go_at_call 15; (with_reducible refine (toMotion_any s0 A0 c0 xs0 _ hn0 (HS0.out.later (gr_drew HB.out))).mono ?_); rintro e w10 ⟨gA, rfl, hgA, hbA, hb⟩; have HA := Lib.hid (gr_then hb (gr_drew HA.out)); have HVn := Lib.hid hbA; have HVo := Lib.hid (HR2.out.late HA.out)) | (go_at_call 17; (with_reducible refine (eqMotion_same s0 _ _ _ _ xs0 _ hn0 HVo.out.sv (HVn.out.sv HVn.out.lt)).mono ?_); rintro e w11 ⟨rfl, hb⟩; have HA := Lib.hid (gr_then hb HA.out)))
  have hz11 := HA.out.size
  replace b0_0 := keepc HA.out b0_0
  replace b0_1 := keepc HA.out b0_1
  replace b11_0 := keepc HA.out b11_0
  replace b11_1 := keepc HA.out b11_1
  replace b12_0 := keepc HA.out b12_0
  replace b12_1 := keepc HA.out b12_1
  replace b13_0 := keepc HA.out b13_0
  replace b13_1 := keepc HA.out b13_1
  replace HR0 := Lib.hid (HR0.out.late HA.out)
  replace HR1 := Lib.hid (HR1.out.late HA.out)
  replace HR2 := Lib.hid (HR2.out.late HA.out)
  replace HR3 := Lib.hid (HR3.out.late HA.out)
  replace HB := Lib.hid (gr_then HA.out HB.out)
  clear HA HVn HVo hb
  go_wp2_with fail
  go_at_call 24
  (with_reducible refine (markMotion_any (s0) _ _ (xs0) (1) _ _ _ hn0 (by constructor <;> omega) HR2.out).mono ?_)
  rintro e w12 ⟨rfl, hr, ho⟩
  have hz12 := ho.size
  replace b0_0 := ho.keepc (by omega) b0_0
  replace b0_1 := ho.keepc (by omega) b0_1
  replace b11_0 := ho.keepc (by omega) b11_0
  replace b11_1 := ho.keepc (by omega) b11_1
  replace b12_0 := ho.keepc (by omega) b12_0
  replace b12_1 := ho.keepc (by omega) b12_1
  replace b13_0 := ho.keepc (by omega) b13_0
  replace b13_1 := ho.keepc (by omega) b13_1
  replace HR0 := Lib.hid (HR0.out.only ho (by omega))
  replace HR1 := Lib.hid (HR1.out.only ho (by omega))
  replace HR3 := Lib.hid (HR3.out.only ho (by omega))
  replace HB := Lib.hid (Only.after HB.out ho (by omega) (Nat.le_refl _))
  replace HR2 := Lib.hid hr
  clear ho hr
  go_wp2_with fail
  go_at_call 17
  (with_reducible refine (eqMotion_same (bmS s0 xs0) _ _ _ _ (bmX s0 xs0) _ hL HR3.out.sv HR1.out.sv).mono ?_)
  rintro e w13 ⟨rfl, hb⟩
  have hz13 := hb.size
  replace b0_0 := keepc hb b0_0
  replace b0_1 := keepc hb b0_1
  replace b11_0 := keepc hb b11_0
  replace b11_1 := keepc hb b11_1
  replace b12_0 := keepc hb b12_0
  replace b12_1 := keepc hb b12_1
  replace b13_0 := keepc hb b13_0
  replace b13_1 := keepc hb b13_1
  replace HR0 := Lib.hid (HR0.out.late hb)
  replace HR1 := Lib.hid (HR1.out.late hb)
  replace HR2 := Lib.hid (HR2.out.late hb)
  replace HR3 := Lib.hid (HR3.out.late hb)
  replace HB := Lib.hid (gr_then hb HB.out)
  clear hb
  go_wp2_with fail
  go_at_call 24
  (with_reducible refine (markMotion_any (bmS s0 xs0) _ _ (bmX s0 xs0) (1) _ _ _ hL (by constructor <;> omega) HR3.out).mono ?_)
  rintro e w14 ⟨rfl, hr, ho⟩
  have hz14 := ho.size
  replace b0_0 := ho.keepc (by omega) b0_0
  replace b0_1 := ho.keepc (by omega) b0_1
  replace b11_0 := ho.keepc (by omega) b11_0
  replace b11_1 := ho.keepc (by omega) b11_1
  replace b12_0 := ho.keepc (by omega) b12_0
  replace b12_1 := ho.keepc (by omega) b12_1
  replace b13_0 := ho.keepc (by omega) b13_0
  replace b13_1 := ho.keepc (by omega) b13_1
  replace HR0 := Lib.hid (HR0.out.only ho (by omega))
  replace HR1 := Lib.hid (HR1.out.only ho (by omega))
  replace HR2 := Lib.hid (HR2.out.only ho (by omega))
  replace HB := Lib.hid (Only.after HB.out ho (by omega) (Nat.le_refl _))
  replace HR3 := Lib.hid hr
  clear ho hr
  go_wp2_with fail
  go_at_call 25
  (with_reducible refine (heldMotion_any (bmS s0 xs0) _ _ (1) (bmX s0 xs0).length _ hL (by constructor <;> omega) HR3.out.sv).mono ?_)
  rintro e w15 ⟨rfl, hb⟩
  have hz15 := hb.size
  replace b0_0 := keepc hb b0_0
  replace b0_1 := keepc hb b0_1
  replace b11_0 := keepc hb b11_0
  replace b11_1 := keepc hb b11_1
  replace b12_0 := keepc hb b12_0
  replace b12_1 := keepc hb b12_1
  replace b13_0 := keepc hb b13_0
  replace b13_1 := keepc hb b13_1
  replace HR0 := Lib.hid (HR0.out.late hb)
  replace HR1 := Lib.hid (HR1.out.late hb)
  replace HR2 := Lib.hid (HR2.out.late hb)
  replace HR3 := Lib.hid (HR3.out.late hb)
  replace HB := Lib.hid (gr_then hb HB.out)
  clear hb
  go_wp2_with fail
  go_at_call 15
  (with_reducible refine (toMotion_any s0 A0 c0 xs0 _ hn0 (HS0.out.later HB.out)).mono ?_)
  rintro e w16 ⟨g4, rfl, hg4, hbv4, hb⟩
  have hz16 := hb.size
  replace b0_0 := keepc hb b0_0
  replace b0_1 := keepc hb b0_1
  replace b11_0 := keepc hb b11_0
  replace b11_1 := keepc hb b11_1
  replace b12_0 := keepc hb b12_0
  replace b12_1 := keepc hb b12_1
  replace b13_0 := keepc hb b13_0
  replace b13_1 := keepc hb b13_1
  replace HR0 := Lib.hid (HR0.out.late hb)
  replace HR1 := Lib.hid (HR1.out.late hb)
  replace HR2 := Lib.hid (HR2.out.late hb)
  replace HR3 := Lib.hid (HR3.out.late hb)
  replace HB := Lib.hid (gr_then hb HB.out)
  have HR4 := Lib.hid (show RS (.int .i64) 2 w16 (w15.heap.size) (w16.heap.size) (some ⟨g4, 0, none⟩) (xs0.length) (xs0) from RS.of_bv hbv4 hg4 hbv4.lt (by unfold maxLen; omega))
  clear hb hbv4 hg4
  go_wp2_with fail
  go_at_call 27
  (with_reducible refine (implBm_any s0 _ _ xs0 _ hn0 HR4.out.sv).mono ?_)
  rintro e w17 ⟨B5, d5, rfl, hr5, hb⟩
  have hz17 := hb.size
  replace b0_0 := keepc hb b0_0
  replace b0_1 := keepc hb b0_1
  replace b11_0 := keepc hb b11_0
  replace b11_1 := keepc hb b11_1
  replace b12_0 := keepc hb b12_0
  replace b12_1 := keepc hb b12_1
  replace b13_0 := keepc hb b13_0
  replace b13_1 := keepc hb b13_1
  replace HR0 := Lib.hid (HR0.out.late hb)
  replace HR1 := Lib.hid (HR1.out.late hb)
  replace HR2 := Lib.hid (HR2.out.late hb)
  replace HR3 := Lib.hid (HR3.out.late hb)
  replace HR4 := Lib.hid (HR4.out.late hb)
  replace HB := Lib.hid (gr_then hb HB.out)
  have HR5 := Lib.hid (show RS (.int .i64) 2 w17 (w16.heap.size) (w17.heap.size) B5 (d5) (bmX s0 xs0) from hr5)
  clear hb hr5
  have hb' : Below w17.heap.size w17 (w17.alloc (.cells #[.int .i64 (bmS s0 xs0), .slice B5 (bmX s0 xs0).length (d5)] 27)) := gr_alloc (gr_refl _)
  replace b0_0 := keepc hb' b0_0
  replace b0_1 := keepc hb' b0_1
  replace b11_0 := keepc hb' b11_0
  replace b11_1 := keepc hb' b11_1
  replace b12_0 := keepc hb' b12_0
  replace b12_1 := keepc hb' b12_1
  replace b13_0 := keepc hb' b13_0
  replace b13_1 := keepc hb' b13_1
  replace HR0 := Lib.hid (HR0.out.late hb')
  replace HR1 := Lib.hid (HR1.out.late hb')
  replace HR2 := Lib.hid (HR2.out.late hb')
  replace HR3 := Lib.hid (HR3.out.late hb')
  replace HR4 := Lib.hid (HR4.out.late hb')
  replace HR5 := Lib.hid (HR5.out.late hb')
  replace HB := Lib.hid (gr_then hb' HB.out)
  have hz18 : w17.heap.size + 1 ≤ (w17.alloc (.cells #[.int .i64 (bmS s0 xs0), .slice B5 (bmX s0 xs0).length (d5)] 27)).heap.size := by simp
  have b14_0 : (w17.alloc (.cells #[.int .i64 (bmS s0 xs0), .slice B5 (bmX s0 xs0).length (d5)] 27)).cell? ⟨w17.heap.size, 0, none⟩ = some (.int .i64 (bmS s0 xs0)) := by simp [go_sem]
  have b14_1 : (w17.alloc (.cells #[.int .i64 (bmS s0 xs0), .slice B5 (bmX s0 xs0).length (d5)] 27)).cell? ⟨w17.heap.size, 1, none⟩ = some (.slice B5 (bmX s0 xs0).length (d5)) := by simp [go_sem]
  clear hb'
  go_wp2_with fail
  generalize w17.alloc (.cells #[.int .i64 (bmS s0 xs0), .slice B5 (bmX s0 xs0).length (d5)] 27) = w18 at *
  generalize w17.heap.size = K4 at *
  go_at_call 17
  (with_reducible refine (eqMotion_same (bmS s0 xs0) _ _ _ _ (bmX s0 xs0) _ hL HR5.out.sv HR1.out.sv).mono ?_)
  rintro e w19 ⟨rfl, hb⟩
  have hz19 := hb.size
  replace b0_0 := keepc hb b0_0
  replace b0_1 := keepc hb b0_1
  replace b11_0 := keepc hb b11_0
  replace b11_1 := keepc hb b11_1
  replace b12_0 := keepc hb b12_0
  replace b12_1 := keepc hb b12_1
  replace b13_0 := keepc hb b13_0
  replace b13_1 := keepc hb b13_1
  replace b14_0 := keepc hb b14_0
  replace b14_1 := keepc hb b14_1
  replace HR0 := Lib.hid (HR0.out.late hb)
  replace HR1 := Lib.hid (HR1.out.late hb)
  replace HR2 := Lib.hid (HR2.out.late hb)
  replace HR3 := Lib.hid (HR3.out.late hb)
  replace HR4 := Lib.hid (HR4.out.late hb)
  replace HR5 := Lib.hid (HR5.out.late hb)
  replace HB := Lib.hid (gr_then hb HB.out)
  clear hb
  go_wp2_with fail
  go_at_call 25
  (with_reducible refine (heldMotion_any (bmS s0 xs0) _ _ (1) (bmX s0 xs0).length _ hL (by constructor <;> omega) HR3.out.sv).mono ?_)
  rintro e w20 ⟨rfl, hb⟩
  have hz20 := hb.size
  replace b0_0 := keepc hb b0_0
  replace b0_1 := keepc hb b0_1
  replace b11_0 := keepc hb b11_0
  replace b11_1 := keepc hb b11_1
  replace b12_0 := keepc hb b12_0
  replace b12_1 := keepc hb b12_1
  replace b13_0 := keepc hb b13_0
  replace b13_1 := keepc hb b13_1
  replace b14_0 := keepc hb b14_0
  replace b14_1 := keepc hb b14_1
  replace HR0 := Lib.hid (HR0.out.late hb)
  replace HR1 := Lib.hid (HR1.out.late hb)
  replace HR2 := Lib.hid (HR2.out.late hb)
  replace HR3 := Lib.hid (HR3.out.late hb)
  replace HR4 := Lib.hid (HR4.out.late hb)
  replace HR5 := Lib.hid (HR5.out.late hb)
  replace HB := Lib.hid (gr_then hb HB.out)
  clear hb
  go_wp2
  go_returns
  exact ⟨rfl, HB.out⟩
end Go.Proofs.Ytoojnfdphjdocaa.fnExactBackMotion
