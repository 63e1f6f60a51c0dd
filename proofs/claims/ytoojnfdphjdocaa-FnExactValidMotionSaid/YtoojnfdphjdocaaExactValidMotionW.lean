/- The walk of the law FnExactValidMotion: whatever motion came in, both functions agree. No condition. -/
import Derived.Test.YtoojnfdphjdocaaMotB
import Derived.Deep.RegionHeld3
namespace Go.Proofs.Ytoojnfdphjdocaa.fnExactValidMotion
open Go.RowKit
set_option maxHeartbeats 4000000 in
theorem walk (s : Int) (A : Option Addr) (n c : Nat) (xs : List Int) (w : World) (_ : -9223372036854775808 ≤ s ∧ s ≤ 9223372036854775807) (h : n ≤ 9223372036854775807 ∧ xs.length = n ∧ (∀ x ∈ xs, I64 x) ∧ SV (.int .i64) w w.heap.size A xs) :
    Calls Try.prog 4 #[.agg #[.int .i64 s, .slice A n c]] w fun e w' => e = .returned (.bool true) ∧ Below w.heap.size w w' := by
  obtain ⟨hn, hl, _, hs⟩ := h
  obtain rfl : n = xs.length := hl.symm
  have hb0 : Below w.heap.size w (w.alloc (.cells #[.int .i64 s, .slice A xs.length c] 24)) := gr_alloc (gr_refl w)
  have HS := Lib.hid (hs.later hb0)
  have HB0 := Lib.hid hb0
  have c0 : (w.alloc (.cells #[.int .i64 s, .slice A xs.length c] 24)).cell? ⟨w.heap.size, 0, none⟩ = some (.int .i64 s) := by simp [go_sem]
  have c1 : (w.alloc (.cells #[.int .i64 s, .slice A xs.length c] 24)).cell? ⟨w.heap.size, 1, none⟩ = some (.slice A xs.length c) := by simp [go_sem]
  clear hl hs hb0
  go_enter Try.func4, Try.ntmps4; go_wp2_with fail
  go_at_call 13
  (with_reducible refine (szMotion_any s A _ c _ _ hn (by omega) (by omega)).mono ?_)
  rintro e w1 ⟨rfl, hb1⟩
  replace c0 := keepc hb1 c0
  replace c1 := keepc hb1 c1
  have HS1 := Lib.hid (HS.out.later hb1)
  have HB1 := Lib.hid (gr_then hb1 HB0.out)
  clear hb1
  by_cases hm : (1048576 : Int) < xs.length
  · rw [if_pos hm]
    go_wp2
    go_returns
    exact ⟨rfl, HB1.out⟩
  rw [if_neg hm]
  have hn2 : xs.length ≤ 1048576 := by omega
  have hd : decide ((1048576 : Int) - xs.length < 0) = false := decide_eq_false (by omega)
  go_wp2_with fail
  go_at_call 15
  (with_reducible refine (toMotion_any s A c xs _ hn2 HS1.out).mono ?_)
  rintro e w2 ⟨g1, rfl, hg1, hbv1, hb2⟩
  replace c0 := keepc hb2 c0
  replace c1 := keepc hb2 c1
  have HS2 := Lib.hid (HS1.out.later hb2)
  have HB2 := Lib.hid (gr_then hb2 HB1.out)
  have HV1 := Lib.hid hbv1
  clear hb2 hbv1 hg1
  go_wp2_with fail
  go_at_call 18
  (with_reducible refine (specVm_any s _ _ xs _ hn2 (HV1.out.sv HV1.out.lt)).mono ?_)
  rintro e w3 ⟨rfl, hb3⟩
  replace c0 := keepc hb3 c0
  replace c1 := keepc hb3 c1
  have HS3 := Lib.hid (HS2.out.later hb3)
  have HB3 := Lib.hid (gr_then hb3 HB2.out)
  clear hb3
  go_wp2_with fail
  go_at_call 15
  (with_reducible refine (toMotion_any s A c xs _ hn2 HS3.out).mono ?_)
  rintro e w4 ⟨g2, rfl, hg2, hbv2, hb4⟩
  have hb5 : Below w4.heap.size w4 (w4.alloc (.cells #[.int .i64 s, .slice (some ⟨g2, 0, none⟩) xs.length xs.length] 27)) := gr_alloc (gr_refl w4)
  have d0 : (w4.alloc (.cells #[.int .i64 s, .slice (some ⟨g2, 0, none⟩) xs.length xs.length] 27)).cell? ⟨w4.heap.size, 0, none⟩ = some (.int .i64 s) := by simp [go_sem]
  have d1 : (w4.alloc (.cells #[.int .i64 s, .slice (some ⟨g2, 0, none⟩) xs.length xs.length] 27)).cell? ⟨w4.heap.size, 1, none⟩ = some (.slice (some ⟨g2, 0, none⟩) xs.length xs.length) := by simp [go_sem]
  replace c0 := keepc hb5 (keepc hb4 c0)
  replace c1 := keepc hb5 (keepc hb4 c1)
  have HS4 := Lib.hid ((HS3.out.later hb4).later hb5)
  have HB4 := Lib.hid (gr_then hb5 (gr_then hb4 HB3.out))
  have HV2 := Lib.hid (hbv2.late hb5)
  clear hb4 hb5 hbv2 hg2
  go_wp2_with fail
  generalize w4.alloc (.cells #[.int .i64 s, .slice (some ⟨g2, 0, none⟩) xs.length xs.length] 27) = W5 at *
  generalize w4.heap.size = K at *
  go_at_call 19
  (with_reducible refine (implVm_any s _ _ xs _ hn2 (HV2.out.sv HV2.out.lt)).mono ?_)
  rintro e w6 ⟨rfl, hb6⟩
  replace c0 := keepc hb6 c0
  replace c1 := keepc hb6 c1
  replace d0 := keepc hb6 d0
  replace d1 := keepc hb6 d1
  have HS5 := Lib.hid (HS4.out.later hb6)
  have HB5 := Lib.hid (gr_then hb6 HB4.out)
  have HV3 := Lib.hid (HV2.out.late hb6)
  clear hb6
  go_wp2
  go_region_held3 (fun w' => w'.cell? ⟨w.heap.size, 0, none⟩ = some (.int .i64 s) ∧ w'.cell? ⟨w.heap.size, 1, none⟩ = some (.slice A xs.length c) ∧ w'.cell? ⟨K, 0, none⟩ = some (.int .i64 s) ∧ w'.cell? ⟨K, 1, none⟩ = some (.slice (some ⟨g2, 0, none⟩) xs.length xs.length)) ((first | exact ⟨c0, c1, d0, d1⟩ | exact ⟨keepc hb7 c0, keepc hb7 c1, keepc hb7 d0, keepc hb7 d1⟩ | exact ⟨keepc (gr_then hb8 hb7) c0, keepc (gr_then hb8 hb7) c1, keepc (gr_then hb8 hb7) d0, keepc (gr_then hb8 hb7) d1⟩)) (first | (go_at_call 15; (with_reducible refine (toMotion_any s A c xs _ hn2 (HS5.out.later (gr_drew (gr_refl _)))).mono ?_); rintro e w7 ⟨g3, rfl, hg3, hbv3, hb7'⟩; have hb7 : Below w6.heap.size w6 w7 := gr_then hb7' (gr_drew (gr_refl _)); have HV4 := Lib.hid (HV3.out.late hb7); have HV5 := Lib.hid hbv3) | (go_at_call 17; (with_reducible refine (eqMotion_same s _ _ _ _ xs _ hn2 (HV4.out.sv HV4.out.lt) (HV5.out.sv HV5.out.lt)).mono ?_); rintro e w8 ⟨rfl, hb8⟩))
  go_wp2
  go_returns
  exact ⟨rfl, gr_then hb8 (gr_then hb7 HB5.out)⟩
end Go.Proofs.Ytoojnfdphjdocaa.fnExactValidMotion
