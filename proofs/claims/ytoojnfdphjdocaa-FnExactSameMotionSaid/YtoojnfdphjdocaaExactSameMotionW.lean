/- The walk of the law FnExactSameMotion: whatever motions came in, both functions agree. No condition. -/
import Derived.Test.YtoojnfdphjdocaaMotC
import Derived.Deep.RegionHeld3
namespace Go.Proofs.Ytoojnfdphjdocaa.fnExactSameMotion
open Go.RowKit
set_option maxHeartbeats 8000000 in
theorem walk (s : Int) (A : Option Addr) (n c : Nat) (xs : List Int) (t : Int) (A' : Option Addr) (n' c' : Nat) (ys : List Int) (w : World) (_ : -9223372036854775808 ≤ s ∧ s ≤ 9223372036854775807) (h : n ≤ 9223372036854775807 ∧ xs.length = n ∧ (∀ x ∈ xs, I64 x) ∧ SV (.int .i64) w w.heap.size A xs) (_ : -9223372036854775808 ≤ t ∧ t ≤ 9223372036854775807) (h' : n' ≤ 9223372036854775807 ∧ ys.length = n' ∧ (∀ x ∈ ys, I64 x) ∧ SV (.int .i64) w w.heap.size A' ys) :
    Calls Try.prog 3 #[.agg #[.int .i64 s, .slice A n c], .agg #[.int .i64 t, .slice A' n' c']] w fun e w' => e = .returned (.bool true) ∧ Below w.heap.size w w' := by
  obtain ⟨hn, hl, _, hs⟩ := h
  obtain rfl : n = xs.length := hl.symm
  obtain ⟨hn', hl', _, hs'⟩ := h'
  obtain rfl : n' = ys.length := hl'.symm
  have hb0 : Below w.heap.size w ((w.alloc (.cells #[.int .i64 s, .slice A xs.length c] 24)).alloc (.cells #[.int .i64 t, .slice A' ys.length c'] 24)) := gr_alloc (gr_alloc (gr_refl w))
  have HS := Lib.hid (hs.later hb0)
  have HT := Lib.hid (hs'.later hb0)
  have HB0 := Lib.hid hb0
  have c0 : ((w.alloc (.cells #[.int .i64 s, .slice A xs.length c] 24)).alloc (.cells #[.int .i64 t, .slice A' ys.length c'] 24)).cell? ⟨w.heap.size, 0, none⟩ = some (.int .i64 s) := by simp [go_sem]
  have c1 : ((w.alloc (.cells #[.int .i64 s, .slice A xs.length c] 24)).alloc (.cells #[.int .i64 t, .slice A' ys.length c'] 24)).cell? ⟨w.heap.size, 1, none⟩ = some (.slice A xs.length c) := by simp [go_sem]
  have c2 : ((w.alloc (.cells #[.int .i64 s, .slice A xs.length c] 24)).alloc (.cells #[.int .i64 t, .slice A' ys.length c'] 24)).cell? ⟨w.heap.size + 1, 0, none⟩ = some (.int .i64 t) := by simp [go_sem]
  have c3 : ((w.alloc (.cells #[.int .i64 s, .slice A xs.length c] 24)).alloc (.cells #[.int .i64 t, .slice A' ys.length c'] 24)).cell? ⟨w.heap.size + 1, 1, none⟩ = some (.slice A' ys.length c') := by simp [go_sem]
  clear hl hs hl' hs' hb0
  go_enter Try.func3, Try.ntmps3; go_wp2_with fail
  go_at_call 13
  (with_reducible refine (szMotion_any s A _ c _ _ hn (by omega) (by omega)).mono ?_)
  rintro e w1 ⟨rfl, hb1⟩
  replace c0 := keepc hb1 c0
  replace c1 := keepc hb1 c1
  replace c2 := keepc hb1 c2
  replace c3 := keepc hb1 c3
  have HS1 := Lib.hid (HS.out.later hb1)
  have HT1 := Lib.hid (HT.out.later hb1)
  have HB1 := Lib.hid (gr_then hb1 HB0.out)
  clear hb1
  by_cases hm : (1048576 : Int) < xs.length
  · rw [if_pos hm]
    go_wp2
    go_returns
    exact ⟨rfl, HB1.out⟩
  rw [if_neg hm]
  have hn2 : xs.length ≤ 1048576 := by omega
  have hd : decide ((1048576 : Int) - xs.length < 0) = false := decide_eq_false (by omega)
  go_wp2_with fail
  go_at_call 13
  (with_reducible refine (szMotion_any t A' _ c' _ _ hn' (by omega) (by omega)).mono ?_)
  rintro e w2 ⟨rfl, hb2⟩
  replace c0 := keepc hb2 c0
  replace c1 := keepc hb2 c1
  replace c2 := keepc hb2 c2
  replace c3 := keepc hb2 c3
  have HS2 := Lib.hid (HS1.out.later hb2)
  have HT2 := Lib.hid (HT1.out.later hb2)
  have HB2 := Lib.hid (gr_then hb2 HB1.out)
  clear hb2
  by_cases hm2 : (1048576 : Int) - xs.length < ys.length
  · rw [if_pos hm2]
    go_wp2
    go_returns
    exact ⟨rfl, HB2.out⟩
  rw [if_neg hm2]
  have hn3 : ys.length ≤ 1048576 := by omega
  have hd2 : decide ((1048576 : Int) - xs.length - ys.length < 0) = false := decide_eq_false (by omega)
  go_wp2
  go_region_held3 (fun w' => w'.cell? ⟨w.heap.size, 0, none⟩ = some (.int .i64 s) ∧ w'.cell? ⟨w.heap.size, 1, none⟩ = some (.slice A xs.length c) ∧ w'.cell? ⟨w.heap.size + 1, 0, none⟩ = some (.int .i64 t) ∧ w'.cell? ⟨w.heap.size + 1, 1, none⟩ = some (.slice A' ys.length c')) ((first | exact ⟨c0, c1, c2, c3⟩ | exact ⟨keepc HA.out c0, keepc HA.out c1, keepc HA.out c2, keepc HA.out c3⟩)) (first | (go_at_call 15; first | ((with_reducible refine (toMotion_any s A c xs _ hn2 (HS2.out.later (gr_drew (gr_refl _)))).mono ?_); rintro e w3 ⟨g1, rfl, hg1, hbv1, hb3⟩; have HV1 := Lib.hid hbv1; have HA := Lib.hid (gr_then hb3 (gr_drew (gr_refl w2)))) | ((with_reducible refine (toMotion_any t A' c' ys _ hn3 (HT2.out.later HA.out)).mono ?_); rintro e w4 ⟨g2, rfl, hg2, hbv2, hb4⟩; have HV2 := Lib.hid hbv2; have HV1 := Lib.hid (HV1.out.late hb4); have HA := Lib.hid (gr_then hb4 HA.out))) | (go_at_call 14; (with_reducible refine (specSmo_any s t _ _ _ _ xs ys _ hn2 hn3 (HV1.out.sv HV1.out.lt) (HV2.out.sv HV2.out.lt)).mono ?_); rintro e w5 ⟨rfl, hb5⟩; have HA := Lib.hid (gr_then hb5 HA.out)))
  replace c0 := keepc HA.out c0
  replace c1 := keepc HA.out c1
  replace c2 := keepc HA.out c2
  replace c3 := keepc HA.out c3
  have HS5 := Lib.hid (HS2.out.later HA.out)
  have HT5 := Lib.hid (HT2.out.later HA.out)
  have HB5 := Lib.hid (gr_then HA.out HB2.out)
  have hq : True := trivial
  go_wp2_with fail
  go_at_call 15
  (with_reducible refine (toMotion_any s A c xs _ hn2 HS5.out).mono ?_)
  rintro e w6 ⟨g3, rfl, hg, hbv, hb⟩
  have hb' : Below w6.heap.size w6 (w6.alloc (.cells #[.int .i64 s, .slice (some ⟨g3, 0, none⟩) xs.length xs.length] 27)) := gr_alloc (gr_refl _)
  replace c0 := keepc hb c0
  replace c1 := keepc hb c1
  replace c2 := keepc hb c2
  replace c3 := keepc hb c3
  replace HS5 := Lib.hid (HS5.out.later hb)
  replace HT5 := Lib.hid (HT5.out.later hb)
  replace HB5 := Lib.hid (gr_then hb HB5.out)
  replace c0 := keepc hb' c0
  replace c1 := keepc hb' c1
  replace c2 := keepc hb' c2
  replace c3 := keepc hb' c3
  replace HS5 := Lib.hid (HS5.out.later hb')
  replace HT5 := Lib.hid (HT5.out.later hb')
  replace HB5 := Lib.hid (gr_then hb' HB5.out)
  have HV3 := Lib.hid (hbv.late hb')
  have d0 : (w6.alloc (.cells #[.int .i64 s, .slice (some ⟨g3, 0, none⟩) xs.length xs.length] 27)).cell? ⟨w6.heap.size, 0, none⟩ = some (.int .i64 s) := by simp [go_sem]
  have d1 : (w6.alloc (.cells #[.int .i64 s, .slice (some ⟨g3, 0, none⟩) xs.length xs.length] 27)).cell? ⟨w6.heap.size, 1, none⟩ = some (.slice (some ⟨g3, 0, none⟩) xs.length xs.length) := by simp [go_sem]
  clear hb hb' hbv hg
  go_wp2_with fail
  generalize w6.alloc (.cells #[.int .i64 s, .slice (some ⟨g3, 0, none⟩) xs.length xs.length] 27) = X0 at *
  generalize w6.heap.size = K0 at *
  go_wp2_with fail
  go_at_call 15
  (with_reducible refine (toMotion_any t A' c' ys _ hn3 HT5.out).mono ?_)
  rintro e w7 ⟨g4, rfl, hg, hbv, hb⟩
  have hb' : Below w7.heap.size w7 (w7.alloc (.cells #[.int .i64 t, .slice (some ⟨g4, 0, none⟩) ys.length ys.length] 27)) := gr_alloc (gr_refl _)
  replace c0 := keepc hb c0
  replace c1 := keepc hb c1
  replace c2 := keepc hb c2
  replace c3 := keepc hb c3
  replace d0 := keepc hb d0
  replace d1 := keepc hb d1
  replace HS5 := Lib.hid (HS5.out.later hb)
  replace HT5 := Lib.hid (HT5.out.later hb)
  replace HV3 := Lib.hid (HV3.out.late hb)
  replace HB5 := Lib.hid (gr_then hb HB5.out)
  replace c0 := keepc hb' c0
  replace c1 := keepc hb' c1
  replace c2 := keepc hb' c2
  replace c3 := keepc hb' c3
  replace d0 := keepc hb' d0
  replace d1 := keepc hb' d1
  replace HS5 := Lib.hid (HS5.out.later hb')
  replace HT5 := Lib.hid (HT5.out.later hb')
  replace HV3 := Lib.hid (HV3.out.late hb')
  replace HB5 := Lib.hid (gr_then hb' HB5.out)
  have HV4 := Lib.hid (hbv.late hb')
  have d2 : (w7.alloc (.cells #[.int .i64 t, .slice (some ⟨g4, 0, none⟩) ys.length ys.length] 27)).cell? ⟨w7.heap.size, 0, none⟩ = some (.int .i64 t) := by simp [go_sem]
  have d3 : (w7.alloc (.cells #[.int .i64 t, .slice (some ⟨g4, 0, none⟩) ys.length ys.length] 27)).cell? ⟨w7.heap.size, 1, none⟩ = some (.slice (some ⟨g4, 0, none⟩) ys.length ys.length) := by simp [go_sem]
  clear hb hb' hbv hg
  go_wp2_with fail
  generalize w7.alloc (.cells #[.int .i64 t, .slice (some ⟨g4, 0, none⟩) ys.length ys.length] 27) = X1 at *
  generalize w7.heap.size = K1 at *
  go_at_call 16
  (with_reducible refine (implSmo_any s t _ _ _ _ xs ys _ hn2 hn3 (HV3.out.sv HV3.out.lt) (HV4.out.sv HV4.out.lt)).mono ?_)
  rintro e w8 ⟨rfl, hb⟩
  replace c0 := keepc hb c0
  replace c1 := keepc hb c1
  replace c2 := keepc hb c2
  replace c3 := keepc hb c3
  replace d0 := keepc hb d0
  replace d1 := keepc hb d1
  replace d2 := keepc hb d2
  replace d3 := keepc hb d3
  replace HS5 := Lib.hid (HS5.out.later hb)
  replace HT5 := Lib.hid (HT5.out.later hb)
  replace HV3 := Lib.hid (HV3.out.late hb)
  replace HV4 := Lib.hid (HV4.out.late hb)
  replace HB5 := Lib.hid (gr_then hb HB5.out)
  clear hb
  go_wp2
  have HA := Lib.hid (gr_refl w8)
  go_region_held3 (fun w' => w'.cell? ⟨w.heap.size, 0, none⟩ = some (.int .i64 s) ∧ w'.cell? ⟨w.heap.size, 1, none⟩ = some (.slice A xs.length c) ∧ w'.cell? ⟨K0, 0, none⟩ = some (.int .i64 s) ∧ w'.cell? ⟨K0, 1, none⟩ = some (.slice (some ⟨g3, 0, none⟩) xs.length xs.length)) ((first | exact ⟨c0, c1, d0, d1⟩ | exact ⟨keepc HA.out c0, keepc HA.out c1, keepc HA.out d0, keepc HA.out d1⟩)) (first | (go_at_call 15; (with_reducible refine (toMotion_any s A c xs _ hn2 (HS5.out.later (gr_drew (gr_refl _)))).mono ?_); rintro e w9 ⟨g5, rfl, hg, hbv, hb⟩; have HA := Lib.hid (gr_then hb (gr_drew HA.out)); have HVn := Lib.hid hbv; have HVo := Lib.hid (HV3.out.late HA.out)) | (go_at_call 17; (with_reducible refine (eqMotion_same s _ _ _ _ xs _ hn2 (HVo.out.sv HVo.out.lt) (HVn.out.sv HVn.out.lt)).mono ?_); rintro e w10 ⟨rfl, hb⟩; have HA := Lib.hid (gr_then hb HA.out)))
  replace c0 := keepc HA.out c0
  replace c1 := keepc HA.out c1
  replace c2 := keepc HA.out c2
  replace c3 := keepc HA.out c3
  replace d0 := keepc HA.out d0
  replace d1 := keepc HA.out d1
  replace d2 := keepc HA.out d2
  replace d3 := keepc HA.out d3
  replace HS5 := Lib.hid (HS5.out.later HA.out)
  replace HT5 := Lib.hid (HT5.out.later HA.out)
  replace HV3 := Lib.hid (HV3.out.late HA.out)
  replace HV4 := Lib.hid (HV4.out.late HA.out)
  replace HB5 := Lib.hid (gr_then HA.out HB5.out)
  clear HA
  go_wp2
  have HA := Lib.hid (gr_refl w10)
  go_region_held3 (fun w' => w'.cell? ⟨w.heap.size + 1, 0, none⟩ = some (.int .i64 t) ∧ w'.cell? ⟨w.heap.size + 1, 1, none⟩ = some (.slice A' ys.length c') ∧ w'.cell? ⟨K1, 0, none⟩ = some (.int .i64 t) ∧ w'.cell? ⟨K1, 1, none⟩ = some (.slice (some ⟨g4, 0, none⟩) ys.length ys.length)) ((first | exact ⟨c2, c3, d2, d3⟩ | exact ⟨keepc HA.out c2, keepc HA.out c3, keepc HA.out d2, keepc HA.out d3⟩)) (first | (go_at_call 15; (with_reducible refine (toMotion_any t A' c' ys _ hn3 (HT5.out.later (gr_drew (gr_refl _)))).mono ?_); rintro e w11 ⟨g6, rfl, hg, hbv, hb⟩; have HA := Lib.hid (gr_then hb (gr_drew HA.out)); have HVn := Lib.hid hbv; have HVo := Lib.hid (HV4.out.late HA.out)) | (go_at_call 17; (with_reducible refine (eqMotion_same t _ _ _ _ ys _ hn3 (HVo.out.sv HVo.out.lt) (HVn.out.sv HVn.out.lt)).mono ?_); rintro e w12 ⟨rfl, hb⟩; have HA := Lib.hid (gr_then hb HA.out)))
  replace c0 := keepc HA.out c0
  replace c1 := keepc HA.out c1
  replace c2 := keepc HA.out c2
  replace c3 := keepc HA.out c3
  replace d0 := keepc HA.out d0
  replace d1 := keepc HA.out d1
  replace d2 := keepc HA.out d2
  replace d3 := keepc HA.out d3
  replace HS5 := Lib.hid (HS5.out.later HA.out)
  replace HT5 := Lib.hid (HT5.out.later HA.out)
  replace HV3 := Lib.hid (HV3.out.late HA.out)
  replace HV4 := Lib.hid (HV4.out.late HA.out)
  replace HB5 := Lib.hid (gr_then HA.out HB5.out)
  clear HA
  go_wp2
  go_returns
  exact ⟨rfl, HB5.out⟩
end Go.Proofs.Ytoojnfdphjdocaa.fnExactSameMotion
