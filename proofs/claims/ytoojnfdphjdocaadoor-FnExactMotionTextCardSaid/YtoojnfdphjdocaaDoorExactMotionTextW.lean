/- The walk of the law FnExactMotionText: whatever came in, both functions agree. No condition. -/
import Derived.Test.YtoojnfdphjdocaaDoorMtT
import Derived.Test.YtoojnfdphjdocaaDoorMotC
import Derived.Deep.RegionHeld3
import Derived.Deep.DeepCutAuto
namespace Go.Proofs.YtoojnfdphjdocaaDoor.fnExactMotionText
open Go.RowKit
set_option maxHeartbeats 8000000 in
set_option maxRecDepth 20000 in
theorem walk (s0 : Int) (A0 : Option Addr) (n0 c0 : Nat) (xs0 : List Int) (w : World) (_ : -9223372036854775808 ≤ s0 ∧ s0 ≤ 9223372036854775807) (h0 : n0 ≤ 9223372036854775807 ∧ xs0.length = n0 ∧ (∀ x ∈ xs0, I64 x) ∧ SV (.int .i64) w w.heap.size A0 xs0) (hp : Pow10 w) :
    Calls Tryd.prog 3 #[.agg #[.int .i64 s0, .slice A0 n0 c0]] w fun e w' => e = .returned (.bool true) ∧ Below w.heap.size w w' := by
  obtain ⟨hn0, hl0, _, hs0⟩ := h0
  obtain rfl : n0 = xs0.length := hl0.symm
  have HS0 := Lib.hid hs0
  clear hl0 hs0
  have b0_0 : (w.alloc (.cells #[.int .i64 s0, .slice A0 xs0.length c0] 24)).cell? ⟨w.heap.size, 0, none⟩ = some (.int .i64 s0) := by simp [go_sem]
  have b0_1 : (w.alloc (.cells #[.int .i64 s0, .slice A0 xs0.length c0] 24)).cell? ⟨w.heap.size, 1, none⟩ = some (.slice A0 xs0.length c0) := by simp [go_sem]
  have HB := Lib.hid (show Below w.heap.size w (w.alloc (.cells #[.int .i64 s0, .slice A0 xs0.length c0] 24)) by repeat' first | exact gr_refl _ | with_reducible assumption | with_reducible apply gr_alloc | with_reducible apply gr_set | with_reducible apply gr_drew | with_reducible apply gr_drewN | exact Nat.le_add_right _ _ | exact Nat.le_refl _ | (refine gr_then (by with_reducible assumption) ?_))
  have hz0 : w.heap.size + 1 ≤ (w.alloc (.cells #[.int .i64 s0, .slice A0 xs0.length c0] 24)).heap.size := by simp
  have HP := Lib.hid hp
  clear hp
  obtain ⟨T, hT⟩ : ∃ T, mtTx s0 xs0 = T := ⟨_, rfl⟩
  have HSP : Hid (∀ (A : Option Addr) (c : Nat) (W : World), xs0.length ≤ 1048576 → SV (.int .i64) W W.heap.size A xs0 → Calls Tryd.prog 6 #[.agg #[.int .i64 s0, .slice A xs0.length c]] W fun e w' => e = .returned (.string T) ∧ Below W.heap.size W w') := fun A c W h1 h2 => by have h9 := specMt_any s0 A c xs0 W h1 h2; rw [hT] at h9; exact h9
  have HIM : Hid (∀ (A : Option Addr) (c : Nat) (W : World), xs0.length ≤ 1048576 → SV (.int .i64) W W.heap.size A xs0 → Pow10 W → Calls Tryd.prog 8 #[.agg #[.int .i64 s0, .slice A xs0.length c]] W fun e w' => e = .returned (.string T) ∧ Below W.heap.size W w') := fun A c W h1 h2 h3 => by have h9 := implMt_any s0 A c xs0 W h1 h2 h3; rw [hT] at h9; exact h9
  clear hT
  go_enter Tryd.func3, Tryd.ntmps3
  go_wp2_with fail
  go_at_call 5
  (with_reducible refine (szMotion_any s0 A0 _ c0 (1048576) _ hn0 (by omega) (by omega)).mono ?_)
  rintro e w1 ⟨rfl, hb⟩
  have hz1 := hb.size
  simp only [World.size_alloc] at hz1
  replace b0_0 := keepc hb b0_0
  replace b0_1 := keepc hb b0_1
  replace HB := Lib.hid (gr_then hb HB.out)
  clear hb
  by_cases hm0 : (1048576 : Int) < xs0.length
  · rw [if_pos hm0]
    go_wp2
    go_returns
    exact ⟨rfl, HB.out⟩
  rw [if_neg hm0]
  replace hn0 : xs0.length ≤ 1048576 := by omega
  have hd0 : decide ((1048576 : Int) - xs0.length < 0) = false := decide_eq_false (by omega)
  go_wp2_with fail
  go_at_call 7
  (with_reducible refine (toMotion_any s0 A0 c0 xs0 _ hn0 (HS0.out.later HB.out)).mono ?_)
  rintro e w2 ⟨g0, rfl, hg0, hbv0, hb⟩
  have hz2 := hb.size
  replace b0_0 := keepc hb b0_0
  replace b0_1 := keepc hb b0_1
  replace HB := Lib.hid (gr_then hb HB.out)
  have HR0 := Lib.hid (show RS (.int .i64) 2 w2 (w1.heap.size) (w2.heap.size) (some ⟨g0, 0, none⟩) (xs0.length) (xs0) from RS.of_bv hbv0 hg0 hbv0.lt (by unfold maxLen; omega))
  clear hb hbv0 hg0
  go_wp2_with fail
  go_at_call 6
  (with_reducible refine (HSP.out _ _ _ hn0 HR0.out.sv).mono ?_)
  rintro e w3 ⟨rfl, hb⟩
  have hz3 := hb.size
  replace b0_0 := keepc hb b0_0
  replace b0_1 := keepc hb b0_1
  replace HR0 := Lib.hid (HR0.out.late hb)
  replace HB := Lib.hid (gr_then hb HB.out)
  clear hb
  go_wp2_with fail
  go_at_call 7
  (with_reducible refine (toMotion_any s0 A0 c0 xs0 _ hn0 (HS0.out.later HB.out)).mono ?_)
  rintro e w4 ⟨g1, rfl, hg1, hbv1, hb⟩
  have hz4 := hb.size
  replace b0_0 := keepc hb b0_0
  replace b0_1 := keepc hb b0_1
  replace HR0 := Lib.hid (HR0.out.late hb)
  replace HB := Lib.hid (gr_then hb HB.out)
  have HR1 := Lib.hid (show RS (.int .i64) 2 w4 (w3.heap.size) (w4.heap.size) (some ⟨g1, 0, none⟩) (xs0.length) (xs0) from RS.of_bv hbv1 hg1 hbv1.lt (by unfold maxLen; omega))
  clear hb hbv1 hg1
  have hb' : Below w4.heap.size w4 (w4.alloc (.cells #[.int .i64 (s0), .slice (some ⟨g1, 0, none⟩) (xs0).length (xs0.length)] 27)) := gr_alloc (gr_refl _)
  replace b0_0 := keepc hb' b0_0
  replace b0_1 := keepc hb' b0_1
  replace HR0 := Lib.hid (HR0.out.late hb')
  replace HR1 := Lib.hid (HR1.out.late hb')
  replace HB := Lib.hid (gr_then hb' HB.out)
  have hz5 : w4.heap.size + 1 ≤ (w4.alloc (.cells #[.int .i64 (s0), .slice (some ⟨g1, 0, none⟩) (xs0).length (xs0.length)] 27)).heap.size := by simp
  have b11_0 : (w4.alloc (.cells #[.int .i64 (s0), .slice (some ⟨g1, 0, none⟩) (xs0).length (xs0.length)] 27)).cell? ⟨w4.heap.size, 0, none⟩ = some (.int .i64 (s0)) := by simp [go_sem]
  have b11_1 : (w4.alloc (.cells #[.int .i64 (s0), .slice (some ⟨g1, 0, none⟩) (xs0).length (xs0.length)] 27)).cell? ⟨w4.heap.size, 1, none⟩ = some (.slice (some ⟨g1, 0, none⟩) (xs0).length (xs0.length)) := by simp [go_sem]
  clear hb'
  go_wp2_with fail
  generalize w4.alloc (.cells #[.int .i64 (s0), .slice (some ⟨g1, 0, none⟩) (xs0).length (xs0.length)] 27) = w5 at *
  generalize w4.heap.size = K1 at *
  go_at_call 8
  (with_reducible refine (HIM.out _ _ _ hn0 HR1.out.sv (HP.out.later HB.out)).mono ?_)
  rintro e w6 ⟨rfl, hb⟩
  have hz6 := hb.size
  replace b0_0 := keepc hb b0_0
  replace b0_1 := keepc hb b0_1
  replace b11_0 := keepc hb b11_0
  replace b11_1 := keepc hb b11_1
  replace HR0 := Lib.hid (HR0.out.late hb)
  replace HR1 := Lib.hid (HR1.out.late hb)
  replace HB := Lib.hid (gr_then hb HB.out)
  clear hb
  go_wp2
  have HA := Lib.hid (gr_refl w6)
  go_region_held3 (fun w' => w'.cell? ⟨w.heap.size, 0, none⟩ = some (.int .i64 s0) ∧ w'.cell? ⟨w.heap.size, 1, none⟩ = some (.slice A0 xs0.length c0) ∧ w'.cell? ⟨K1, 0, none⟩ = some (.int .i64 (s0)) ∧ w'.cell? ⟨K1, 1, none⟩ = some (.slice (some ⟨g1, 0, none⟩) (xs0).length (xs0.length))) ((first | exact ⟨b0_0, b0_1, b11_0, b11_1⟩ | exact ⟨keepc HA.out b0_0, keepc HA.out b0_1, keepc HA.out b11_0, keepc HA.out b11_1⟩)) (first | (go_at_call 7; (with_reducible refine (toMotion_any s0 A0 c0 xs0 _ hn0 (HS0.out.later (gr_drew HB.out))).mono ?_); rintro e w7 ⟨gA, rfl, hgA, hbA, hb⟩; have HA := Lib.hid (gr_then hb (gr_drew HA.out)); have HVn := Lib.hid hbA; have HVo := Lib.hid (HR1.out.late HA.out)) | (go_at_call 9; (with_reducible refine (eqMotion_same s0 _ _ _ _ xs0 _ hn0 HVo.out.sv (HVn.out.sv HVn.out.lt)).mono ?_); rintro e w8 ⟨rfl, hb⟩; have HA := Lib.hid (gr_then hb HA.out)))
  have hz8 := HA.out.size
  replace b0_0 := keepc HA.out b0_0
  replace b0_1 := keepc HA.out b0_1
  replace b11_0 := keepc HA.out b11_0
  replace b11_1 := keepc HA.out b11_1
  replace HR0 := Lib.hid (HR0.out.late HA.out)
  replace HR1 := Lib.hid (HR1.out.late HA.out)
  replace HB := Lib.hid (gr_then HA.out HB.out)
  clear HA HVn HVo hb
  go_wp2
  go_returns
  exact ⟨rfl, HB.out⟩
end Go.Proofs.YtoojnfdphjdocaaDoor.fnExactMotionText
