/- The walk of the law FnExactReadMotion: whatever came in, both functions agree. No condition. -/
import Derived.Test.YtoojnfdphjdocaaDoorRmV
import Derived.Test.YtoojnfdphjdocaaDoorRmW
import Derived.Test.YtoojnfdphjdocaaDoorMkM
import Derived.Deep.RegionHeld3
import Derived.Deep.DeepCutAuto
namespace Go.Proofs.YtoojnfdphjdocaaDoor.fnExactReadMotion
open Go.RowKit
set_option maxHeartbeats 8000000 in
set_option maxRecDepth 20000 in
theorem walk (t : ByteArray) (w : World) (hV : RVars w) : Calls Tryd.prog 4 #[.string t] w fun e w' => e = .returned (.bool true) ∧ Below w.heap.size w w' := by
  have HV := Lib.hid hV
  clear hV
  by_cases hs : 1048576 < t.size
  · have hd : decide ((1048576 : Int) < (t.size : Int)) = true := decide_eq_true (by omega)
    go_enter Tryd.func4, Tryd.ntmps4; go_wp2; go_returns; exact ⟨rfl, gr_refl w⟩
  have hd : decide ((1048576 : Int) < (t.size : Int)) = false := decide_eq_false (by omega)
  replace hs : t.size ≤ 1048576 := by omega
  obtain ⟨S, X, K, hrel⟩ := rel_ex t
  have HREL := Lib.hid hrel
  have hL := hrel.len
  clear hrel
  have HB := Lib.hid (gr_refl w)
  have hz0 : w.heap.size ≤ w.heap.size := Nat.le_refl _
  go_enter Tryd.func4, Tryd.ntmps4
  go_wp2_with fail
  go_at_call 10
  (with_reducible refine (rm_is HREL.out (specRm_any t _ hs)).mono ?_)
  rintro e w1 ⟨B0, d0, rfl, hr0, hb⟩
  have hz1 := hb.size
  replace HB := Lib.hid (gr_then hb HB.out)
  have HR0 := Lib.hid (show RS (.int .i64) 2 w1 (w.heap.size) (w1.heap.size) B0 (d0) (X) from hr0)
  clear hb hr0
  have hb' : Below w1.heap.size w1 (w1.alloc (.cells #[.int .i64 (S), .slice B0 (X).length (d0)] 27)) := gr_alloc (gr_refl _)
  replace HR0 := Lib.hid (HR0.out.late hb')
  replace HB := Lib.hid (gr_then hb' HB.out)
  have hz2 : w1.heap.size + 1 ≤ (w1.alloc (.cells #[.int .i64 (S), .slice B0 (X).length (d0)] 27)).heap.size := by simp
  have b11_0 : (w1.alloc (.cells #[.int .i64 (S), .slice B0 (X).length (d0)] 27)).cell? ⟨w1.heap.size, 0, none⟩ = some (.int .i64 (S)) := by simp [go_sem]
  have b11_1 : (w1.alloc (.cells #[.int .i64 (S), .slice B0 (X).length (d0)] 27)).cell? ⟨w1.heap.size, 1, none⟩ = some (.slice B0 (X).length (d0)) := by simp [go_sem]
  clear hb'
  go_wp2_with fail
  generalize w1.alloc (.cells #[.int .i64 (S), .slice B0 (X).length (d0)] 27) = w2 at *
  generalize w1.heap.size = K1 at *
  go_at_call 11
  (with_reducible refine (rm_is HREL.out (implRm_any t _ hs (HV.out.late HB.out))).mono ?_)
  rintro e w3 ⟨B1, d1, rfl, hr1, hb⟩
  have hz3 := hb.size
  replace b11_0 := keepc hb b11_0
  replace b11_1 := keepc hb b11_1
  replace HR0 := Lib.hid (HR0.out.late hb)
  replace HB := Lib.hid (gr_then hb HB.out)
  have HR1 := Lib.hid (show RS (.int .i64) 2 w3 (w2.heap.size) (w3.heap.size) B1 (d1) (X) from hr1)
  clear hb hr1
  have hb' : Below w3.heap.size w3 (w3.alloc (.cells #[.int .i64 (S), .slice B1 (X).length (d1)] 27)) := gr_alloc (gr_refl _)
  replace b11_0 := keepc hb' b11_0
  replace b11_1 := keepc hb' b11_1
  replace HR0 := Lib.hid (HR0.out.late hb')
  replace HR1 := Lib.hid (HR1.out.late hb')
  replace HB := Lib.hid (gr_then hb' HB.out)
  have hz4 : w3.heap.size + 1 ≤ (w3.alloc (.cells #[.int .i64 (S), .slice B1 (X).length (d1)] 27)).heap.size := by simp
  have b12_0 : (w3.alloc (.cells #[.int .i64 (S), .slice B1 (X).length (d1)] 27)).cell? ⟨w3.heap.size, 0, none⟩ = some (.int .i64 (S)) := by simp [go_sem]
  have b12_1 : (w3.alloc (.cells #[.int .i64 (S), .slice B1 (X).length (d1)] 27)).cell? ⟨w3.heap.size, 1, none⟩ = some (.slice B1 (X).length (d1)) := by simp [go_sem]
  clear hb'
  go_wp2_with fail
  generalize w3.alloc (.cells #[.int .i64 (S), .slice B1 (X).length (d1)] 27) = w4 at *
  generalize w3.heap.size = K2 at *
  go_at_call 9
  (with_reducible refine (eqMotion_same (S) _ _ _ _ (X) _ hL HR1.out.sv HR0.out.sv).mono ?_)
  rintro e w5 ⟨rfl, hb⟩
  have hz5 := hb.size
  replace b11_0 := keepc hb b11_0
  replace b11_1 := keepc hb b11_1
  replace b12_0 := keepc hb b12_0
  replace b12_1 := keepc hb b12_1
  replace HR0 := Lib.hid (HR0.out.late hb)
  replace HR1 := Lib.hid (HR1.out.late hb)
  replace HB := Lib.hid (gr_then hb HB.out)
  clear hb
  go_wp2_with fail
  go_at_call 12
  (with_reducible refine (markMotion_any (S) _ _ (X) (1) _ _ _ hL (by constructor <;> omega) HR1.out).mono ?_)
  rintro e w6 ⟨rfl, hr, ho⟩
  have hz6 := ho.size
  replace b11_0 := ho.keepc (by omega) b11_0
  replace b11_1 := ho.keepc (by omega) b11_1
  replace b12_0 := ho.keepc (by omega) b12_0
  replace b12_1 := ho.keepc (by omega) b12_1
  replace HR0 := Lib.hid (HR0.out.only ho (by omega))
  replace HB := Lib.hid (Only.after HB.out ho (by omega) (Nat.le_refl _))
  replace HR1 := Lib.hid hr
  clear ho hr
  go_wp2_with fail
  go_at_call 13
  (with_reducible refine (heldMotion_any (S) _ _ (1) (X).length _ hL (by constructor <;> omega) HR1.out.sv).mono ?_)
  rintro e w7 ⟨rfl, hb⟩
  have hz7 := hb.size
  replace b11_0 := keepc hb b11_0
  replace b11_1 := keepc hb b11_1
  replace b12_0 := keepc hb b12_0
  replace b12_1 := keepc hb b12_1
  replace HR0 := Lib.hid (HR0.out.late hb)
  replace HR1 := Lib.hid (HR1.out.late hb)
  replace HB := Lib.hid (gr_then hb HB.out)
  clear hb
  go_wp2_with fail
  go_at_call 11
  (with_reducible refine (rm_is HREL.out (implRm_any t _ hs (HV.out.late HB.out))).mono ?_)
  rintro e w8 ⟨B2, d2, rfl, hr2, hb⟩
  have hz8 := hb.size
  replace b11_0 := keepc hb b11_0
  replace b11_1 := keepc hb b11_1
  replace b12_0 := keepc hb b12_0
  replace b12_1 := keepc hb b12_1
  replace HR0 := Lib.hid (HR0.out.late hb)
  replace HR1 := Lib.hid (HR1.out.late hb)
  replace HB := Lib.hid (gr_then hb HB.out)
  have HR2 := Lib.hid (show RS (.int .i64) 2 w8 (w7.heap.size) (w8.heap.size) B2 (d2) (X) from hr2)
  clear hb hr2
  have hb' : Below w8.heap.size w8 (w8.alloc (.cells #[.int .i64 (S), .slice B2 (X).length (d2)] 27)) := gr_alloc (gr_refl _)
  replace b11_0 := keepc hb' b11_0
  replace b11_1 := keepc hb' b11_1
  replace b12_0 := keepc hb' b12_0
  replace b12_1 := keepc hb' b12_1
  replace HR0 := Lib.hid (HR0.out.late hb')
  replace HR1 := Lib.hid (HR1.out.late hb')
  replace HR2 := Lib.hid (HR2.out.late hb')
  replace HB := Lib.hid (gr_then hb' HB.out)
  have hz9 : w8.heap.size + 1 ≤ (w8.alloc (.cells #[.int .i64 (S), .slice B2 (X).length (d2)] 27)).heap.size := by simp
  have b13_0 : (w8.alloc (.cells #[.int .i64 (S), .slice B2 (X).length (d2)] 27)).cell? ⟨w8.heap.size, 0, none⟩ = some (.int .i64 (S)) := by simp [go_sem]
  have b13_1 : (w8.alloc (.cells #[.int .i64 (S), .slice B2 (X).length (d2)] 27)).cell? ⟨w8.heap.size, 1, none⟩ = some (.slice B2 (X).length (d2)) := by simp [go_sem]
  clear hb'
  go_wp2_with fail
  generalize w8.alloc (.cells #[.int .i64 (S), .slice B2 (X).length (d2)] 27) = w9 at *
  generalize w8.heap.size = K3 at *
  go_at_call 9
  (with_reducible refine (eqMotion_same (S) _ _ _ _ (X) _ hL HR2.out.sv HR0.out.sv).mono ?_)
  rintro e w10 ⟨rfl, hb⟩
  have hz10 := hb.size
  replace b11_0 := keepc hb b11_0
  replace b11_1 := keepc hb b11_1
  replace b12_0 := keepc hb b12_0
  replace b12_1 := keepc hb b12_1
  replace b13_0 := keepc hb b13_0
  replace b13_1 := keepc hb b13_1
  replace HR0 := Lib.hid (HR0.out.late hb)
  replace HR1 := Lib.hid (HR1.out.late hb)
  replace HR2 := Lib.hid (HR2.out.late hb)
  replace HB := Lib.hid (gr_then hb HB.out)
  clear hb
  go_wp2_with fail
  go_at_call 13
  (with_reducible refine (heldMotion_any (S) _ _ (1) (X).length _ hL (by constructor <;> omega) HR1.out.sv).mono ?_)
  rintro e w11 ⟨rfl, hb⟩
  have hz11 := hb.size
  replace b11_0 := keepc hb b11_0
  replace b11_1 := keepc hb b11_1
  replace b12_0 := keepc hb b12_0
  replace b12_1 := keepc hb b12_1
  replace b13_0 := keepc hb b13_0
  replace b13_1 := keepc hb b13_1
  replace HR0 := Lib.hid (HR0.out.late hb)
  replace HR1 := Lib.hid (HR1.out.late hb)
  replace HR2 := Lib.hid (HR2.out.late hb)
  replace HB := Lib.hid (gr_then hb HB.out)
  clear hb
  go_wp2
  go_returns
  exact ⟨rfl, HB.out⟩
end Go.Proofs.YtoojnfdphjdocaaDoor.fnExactReadMotion
