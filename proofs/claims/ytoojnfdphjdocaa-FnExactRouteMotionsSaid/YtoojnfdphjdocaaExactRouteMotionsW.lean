/- The walk of the law FnExactRouteMotions: whatever came in, both functions agree. No condition. -/
import Derived.Test.YtoojnfdphjdocaaRouteS
import Derived.Test.YtoojnfdphjdocaaRouteI
import Derived.Test.YtoojnfdphjdocaaMotF
import Derived.Deep.RegionHeld3
import Derived.Deep.DeepCutAuto
namespace Go.Proofs.Ytoojnfdphjdocaa.fnExactRouteMotions
open Go.RowKit
theorem laterTB {α : Type} {f : α → Value} {w w' : World} {A : Option Addr} {T : List (List α)} (h : TB f w w.heap.size A T) (hb : Below w.heap.size w w') : TB f w' w'.heap.size A T := (h.below hb).more hb.size
set_option maxHeartbeats 8000000 in
set_option maxRecDepth 20000 in
theorem walk (A0 : Option Addr) (n0 c0 : Nat) (rs0 : List (Option Addr × Nat × Nat)) (w : World) (h0 : n0 ≤ 9223372036854775807 ∧ rs0.length = n0 ∧ (∀ p ∈ rs0, IsRow (Value.int .i64) I64 w p) ∧ SV sl w w.heap.size A0 rs0) :
    Calls Try.prog 9 #[.slice A0 n0 c0] w fun e w' => e = .returned (.bool true) ∧ Below w.heap.size w w' := by
  obtain ⟨hn0, hl0, hr0, hs0⟩ := h0
  obtain ⟨T0, hT0, hc0, ht0⟩ := TB_of hr0 hs0
  obtain rfl : n0 = T0.length := by omega
  have HS0 := Lib.hid ht0
  have HC0 := Lib.hid hc0
  clear hT0 hl0 hr0 hs0 ht0 hc0
  have HB := Lib.hid (gr_refl w)
  have hz0 : w.heap.size ≤ w.heap.size := Nat.le_refl _
  have hL0 : (rmX T0 0).length ≤ 1048576 := rmX_len T0 0
  have hL1 : (rmX T0 1).length ≤ 1048576 := rmX_len T0 1
  go_enter Try.func9, Try.ntmps9
  go_wp2_with fail
  go_at_call 30
  (with_reducible refine (szInt64SS_any A0 c0 (1048576) T0 _ (laterTB HS0.out HB.out) hn0 (fun j bs hj => (HC0.out j bs hj).1) (by omega) (by omega)).mono ?_)
  rintro e wq ⟨r0, rfl, rfl, hr1, hr2⟩
  by_cases hm0 : r0 < 0
  · go_wp2
    go_returns
    exact ⟨rfl, HB.out⟩
  have HZ0 := Lib.hid (hr2 (by omega))
  have hd0 : decide (r0 < 0) = false := decide_eq_false (by omega)
  replace hn0 : T0.length ≤ 1048576 := HZ0.out.1
  have hs0 : 0 ≤ r0 ∧ r0 ≤ 1048576 := by constructor <;> omega
  clear hr1 hr2 hm0
  go_wp2_with fail
  go_at_call 32
  (with_reducible refine (toInt64SS_any A0 c0 T0 _ HZ0.out (laterTB HS0.out HB.out)).mono ?_)
  rintro e w1 ⟨rfl, hft0, hb⟩
  have hz1 := hb.size
  replace HB := Lib.hid (gr_then hb HB.out)
  have HR0 := Lib.hid (show TR (.int .i64) 2 22 w1 (w.heap.size) (w1.heap.size) (some ⟨w.heap.size, 0, none⟩) (T0.length) (T0) from TR.of_ft hft0 HZ0.out)
  clear hb hft0
  go_wp2_with fail
  go_at_call 31
  (with_reducible refine (specRm_any _ _ T0 _ HZ0.out hn0 HR0.out.tb).mono ?_)
  rintro e w2 ⟨B1, d1, B2, d2, p1, q1, rfl, hr1, hr2, hpq1, hpp1, hqq1, hb⟩
  have hz2 := hb.size
  replace HR0 := Lib.hid (HR0.out.late hb)
  replace HB := Lib.hid (gr_then hb HB.out)
  have HR1 := Lib.hid hr1
  have HR2 := Lib.hid hr2
  clear hb hr1 hr2
  have hb' : Below w2.heap.size w2 ((w2.alloc (.cells #[.int .i64 (rmS T0 0), .slice B1 (rmX T0 0).length (d1)] 27)).alloc (.cells #[.int .i64 (rmS T0 1), .slice B2 (rmX T0 1).length (d2)] 27)) := gr_alloc (gr_alloc (gr_refl _))
  replace HR0 := Lib.hid (HR0.out.late hb')
  replace HR1 := Lib.hid (HR1.out.late hb')
  replace HR2 := Lib.hid (HR2.out.late hb')
  replace HB := Lib.hid (gr_then hb' HB.out)
  have hz3 : w2.heap.size + 2 ≤ ((w2.alloc (.cells #[.int .i64 (rmS T0 0), .slice B1 (rmX T0 0).length (d1)] 27)).alloc (.cells #[.int .i64 (rmS T0 1), .slice B2 (rmX T0 1).length (d2)] 27)).heap.size := by simp
  have b11_0 : ((w2.alloc (.cells #[.int .i64 (rmS T0 0), .slice B1 (rmX T0 0).length (d1)] 27)).alloc (.cells #[.int .i64 (rmS T0 1), .slice B2 (rmX T0 1).length (d2)] 27)).cell? ⟨w2.heap.size, 0, none⟩ = some (.int .i64 (rmS T0 0)) := by simp [go_sem]
  have b11_1 : ((w2.alloc (.cells #[.int .i64 (rmS T0 0), .slice B1 (rmX T0 0).length (d1)] 27)).alloc (.cells #[.int .i64 (rmS T0 1), .slice B2 (rmX T0 1).length (d2)] 27)).cell? ⟨w2.heap.size, 1, none⟩ = some (.slice B1 (rmX T0 0).length (d1)) := by simp [go_sem]
  have b12_0 : ((w2.alloc (.cells #[.int .i64 (rmS T0 0), .slice B1 (rmX T0 0).length (d1)] 27)).alloc (.cells #[.int .i64 (rmS T0 1), .slice B2 (rmX T0 1).length (d2)] 27)).cell? ⟨w2.heap.size + 1, 0, none⟩ = some (.int .i64 (rmS T0 1)) := by simp [go_sem]
  have b12_1 : ((w2.alloc (.cells #[.int .i64 (rmS T0 0), .slice B1 (rmX T0 0).length (d1)] 27)).alloc (.cells #[.int .i64 (rmS T0 1), .slice B2 (rmX T0 1).length (d2)] 27)).cell? ⟨w2.heap.size + 1, 1, none⟩ = some (.slice B2 (rmX T0 1).length (d2)) := by simp [go_sem]
  clear hb'
  go_wp2_with fail
  generalize (w2.alloc (.cells #[.int .i64 (rmS T0 0), .slice B1 (rmX T0 0).length (d1)] 27)).alloc (.cells #[.int .i64 (rmS T0 1), .slice B2 (rmX T0 1).length (d2)] 27) = w3 at *
  generalize w2.heap.size = K2 at *
  go_at_call 32
  (with_reducible refine (toInt64SS_any A0 c0 T0 _ HZ0.out (laterTB HS0.out HB.out)).mono ?_)
  rintro e w4 ⟨rfl, hft3, hb⟩
  have hz4 := hb.size
  replace b11_0 := keepc hb b11_0
  replace b11_1 := keepc hb b11_1
  replace b12_0 := keepc hb b12_0
  replace b12_1 := keepc hb b12_1
  replace HR0 := Lib.hid (HR0.out.late hb)
  replace HR1 := Lib.hid (HR1.out.late hb)
  replace HR2 := Lib.hid (HR2.out.late hb)
  replace HB := Lib.hid (gr_then hb HB.out)
  have HR3 := Lib.hid (show TR (.int .i64) 2 22 w4 (w3.heap.size) (w4.heap.size) (some ⟨w3.heap.size, 0, none⟩) (T0.length) (T0) from TR.of_ft hft3 HZ0.out)
  clear hb hft3
  go_wp2_with fail
  go_at_call 33
  (with_reducible refine (implRm_any _ _ T0 _ HZ0.out hn0 HR3.out.tb).mono ?_)
  rintro e w5 ⟨B4, d4, B5, d5, p4, q4, rfl, hr4, hr5, hpq4, hpp4, hqq4, hb⟩
  have hz5 := hb.size
  replace b11_0 := keepc hb b11_0
  replace b11_1 := keepc hb b11_1
  replace b12_0 := keepc hb b12_0
  replace b12_1 := keepc hb b12_1
  replace HR0 := Lib.hid (HR0.out.late hb)
  replace HR1 := Lib.hid (HR1.out.late hb)
  replace HR2 := Lib.hid (HR2.out.late hb)
  replace HR3 := Lib.hid (HR3.out.late hb)
  replace HB := Lib.hid (gr_then hb HB.out)
  have HR4 := Lib.hid hr4
  have HR5 := Lib.hid hr5
  clear hb hr4 hr5
  have hb' : Below w5.heap.size w5 ((w5.alloc (.cells #[.int .i64 (rmS T0 0), .slice B4 (rmX T0 0).length (d4)] 27)).alloc (.cells #[.int .i64 (rmS T0 1), .slice B5 (rmX T0 1).length (d5)] 27)) := gr_alloc (gr_alloc (gr_refl _))
  replace b11_0 := keepc hb' b11_0
  replace b11_1 := keepc hb' b11_1
  replace b12_0 := keepc hb' b12_0
  replace b12_1 := keepc hb' b12_1
  replace HR0 := Lib.hid (HR0.out.late hb')
  replace HR1 := Lib.hid (HR1.out.late hb')
  replace HR2 := Lib.hid (HR2.out.late hb')
  replace HR3 := Lib.hid (HR3.out.late hb')
  replace HR4 := Lib.hid (HR4.out.late hb')
  replace HR5 := Lib.hid (HR5.out.late hb')
  replace HB := Lib.hid (gr_then hb' HB.out)
  have hz6 : w5.heap.size + 2 ≤ ((w5.alloc (.cells #[.int .i64 (rmS T0 0), .slice B4 (rmX T0 0).length (d4)] 27)).alloc (.cells #[.int .i64 (rmS T0 1), .slice B5 (rmX T0 1).length (d5)] 27)).heap.size := by simp
  have b13_0 : ((w5.alloc (.cells #[.int .i64 (rmS T0 0), .slice B4 (rmX T0 0).length (d4)] 27)).alloc (.cells #[.int .i64 (rmS T0 1), .slice B5 (rmX T0 1).length (d5)] 27)).cell? ⟨w5.heap.size, 0, none⟩ = some (.int .i64 (rmS T0 0)) := by simp [go_sem]
  have b13_1 : ((w5.alloc (.cells #[.int .i64 (rmS T0 0), .slice B4 (rmX T0 0).length (d4)] 27)).alloc (.cells #[.int .i64 (rmS T0 1), .slice B5 (rmX T0 1).length (d5)] 27)).cell? ⟨w5.heap.size, 1, none⟩ = some (.slice B4 (rmX T0 0).length (d4)) := by simp [go_sem]
  have b14_0 : ((w5.alloc (.cells #[.int .i64 (rmS T0 0), .slice B4 (rmX T0 0).length (d4)] 27)).alloc (.cells #[.int .i64 (rmS T0 1), .slice B5 (rmX T0 1).length (d5)] 27)).cell? ⟨w5.heap.size + 1, 0, none⟩ = some (.int .i64 (rmS T0 1)) := by simp [go_sem]
  have b14_1 : ((w5.alloc (.cells #[.int .i64 (rmS T0 0), .slice B4 (rmX T0 0).length (d4)] 27)).alloc (.cells #[.int .i64 (rmS T0 1), .slice B5 (rmX T0 1).length (d5)] 27)).cell? ⟨w5.heap.size + 1, 1, none⟩ = some (.slice B5 (rmX T0 1).length (d5)) := by simp [go_sem]
  clear hb'
  go_wp2_with fail
  generalize (w5.alloc (.cells #[.int .i64 (rmS T0 0), .slice B4 (rmX T0 0).length (d4)] 27)).alloc (.cells #[.int .i64 (rmS T0 1), .slice B5 (rmX T0 1).length (d5)] 27) = w6 at *
  generalize w5.heap.size = K4 at *
  go_at_call 17
  (with_reducible refine (eqMotion_same (rmS T0 0) _ _ _ _ (rmX T0 0) _ hL0 HR4.out.sv HR1.out.sv).mono ?_)
  rintro e w7 ⟨rfl, hb⟩
  have hz7 := hb.size
  replace b11_0 := keepc hb b11_0
  replace b11_1 := keepc hb b11_1
  replace b12_0 := keepc hb b12_0
  replace b12_1 := keepc hb b12_1
  replace b13_0 := keepc hb b13_0
  replace b13_1 := keepc hb b13_1
  replace b14_0 := keepc hb b14_0
  replace b14_1 := keepc hb b14_1
  replace HR0 := Lib.hid (HR0.out.late hb)
  replace HR1 := Lib.hid (HR1.out.late hb)
  replace HR2 := Lib.hid (HR2.out.late hb)
  replace HR3 := Lib.hid (HR3.out.late hb)
  replace HR4 := Lib.hid (HR4.out.late hb)
  replace HR5 := Lib.hid (HR5.out.late hb)
  replace HB := Lib.hid (gr_then hb HB.out)
  clear hb
  go_wp2_with fail
  go_at_call 17
  (with_reducible refine (eqMotion_same (rmS T0 1) _ _ _ _ (rmX T0 1) _ hL1 HR5.out.sv HR2.out.sv).mono ?_)
  rintro e w8 ⟨rfl, hb⟩
  have hz8 := hb.size
  replace b11_0 := keepc hb b11_0
  replace b11_1 := keepc hb b11_1
  replace b12_0 := keepc hb b12_0
  replace b12_1 := keepc hb b12_1
  replace b13_0 := keepc hb b13_0
  replace b13_1 := keepc hb b13_1
  replace b14_0 := keepc hb b14_0
  replace b14_1 := keepc hb b14_1
  replace HR0 := Lib.hid (HR0.out.late hb)
  replace HR1 := Lib.hid (HR1.out.late hb)
  replace HR2 := Lib.hid (HR2.out.late hb)
  replace HR3 := Lib.hid (HR3.out.late hb)
  replace HR4 := Lib.hid (HR4.out.late hb)
  replace HR5 := Lib.hid (HR5.out.late hb)
  replace HB := Lib.hid (gr_then hb HB.out)
  clear hb
  go_wp2_with fail
  go_at_call 32
  (with_reducible refine (toInt64SS_any A0 c0 T0 _ HZ0.out (laterTB HS0.out HB.out)).mono ?_)
  rintro e w9 ⟨rfl, hft6, hb⟩
  have hz9 := hb.size
  replace b11_0 := keepc hb b11_0
  replace b11_1 := keepc hb b11_1
  replace b12_0 := keepc hb b12_0
  replace b12_1 := keepc hb b12_1
  replace b13_0 := keepc hb b13_0
  replace b13_1 := keepc hb b13_1
  replace b14_0 := keepc hb b14_0
  replace b14_1 := keepc hb b14_1
  replace HR0 := Lib.hid (HR0.out.late hb)
  replace HR1 := Lib.hid (HR1.out.late hb)
  replace HR2 := Lib.hid (HR2.out.late hb)
  replace HR3 := Lib.hid (HR3.out.late hb)
  replace HR4 := Lib.hid (HR4.out.late hb)
  replace HR5 := Lib.hid (HR5.out.late hb)
  replace HB := Lib.hid (gr_then hb HB.out)
  have HR6 := Lib.hid (show TR (.int .i64) 2 22 w9 (w8.heap.size) (w9.heap.size) (some ⟨w8.heap.size, 0, none⟩) (T0.length) (T0) from TR.of_ft hft6 HZ0.out)
  clear hb hft6
  go_wp2_with fail
  go_at_call 34
  (with_reducible refine (eqInt64SS_same _ _ _ _ (T0) _ HZ0.out HR3.out.tb HR6.out.tb).mono ?_)
  rintro e w10 ⟨rfl, hq⟩
  have hb : Below w9.heap.size w9 w10 := by obtain ⟨q, rfl⟩ := hq; exact gr_drewN (gr_refl _)
  have hz10 := hb.size
  replace b11_0 := keepc hb b11_0
  replace b11_1 := keepc hb b11_1
  replace b12_0 := keepc hb b12_0
  replace b12_1 := keepc hb b12_1
  replace b13_0 := keepc hb b13_0
  replace b13_1 := keepc hb b13_1
  replace b14_0 := keepc hb b14_0
  replace b14_1 := keepc hb b14_1
  replace HR0 := Lib.hid (HR0.out.late hb)
  replace HR1 := Lib.hid (HR1.out.late hb)
  replace HR2 := Lib.hid (HR2.out.late hb)
  replace HR3 := Lib.hid (HR3.out.late hb)
  replace HR4 := Lib.hid (HR4.out.late hb)
  replace HR5 := Lib.hid (HR5.out.late hb)
  replace HR6 := Lib.hid (HR6.out.late hb)
  replace HB := Lib.hid (gr_then hb HB.out)
  clear hb hq
  go_wp2_with fail
  go_at_call 35
  (with_reducible refine (markInt64SS_any _ _ T0 1 _ _ _ HZ0.out (by constructor <;> omega) HR3.out).mono ?_)
  rintro e w11 ⟨rfl, hr, ho⟩
  have hz11 := ho.size
  replace b11_0 := ho.keepc (by omega) b11_0
  replace b11_1 := ho.keepc (by omega) b11_1
  replace b12_0 := ho.keepc (by omega) b12_0
  replace b12_1 := ho.keepc (by omega) b12_1
  replace b13_0 := ho.keepc (by omega) b13_0
  replace b13_1 := ho.keepc (by omega) b13_1
  replace b14_0 := ho.keepc (by omega) b14_0
  replace b14_1 := ho.keepc (by omega) b14_1
  replace HR0 := Lib.hid (HR0.out.only ho (by omega))
  replace HR1 := Lib.hid (HR1.out.only ho (by omega))
  replace HR2 := Lib.hid (HR2.out.only ho (by omega))
  replace HR4 := Lib.hid (HR4.out.only ho (by omega))
  replace HR5 := Lib.hid (HR5.out.only ho (by omega))
  replace HR6 := Lib.hid (HR6.out.only ho (by omega))
  replace HB := Lib.hid (Only.after HB.out ho (by omega) (Nat.le_refl _))
  replace HR3 := Lib.hid hr
  clear ho hr
  have hsm : (0 : Int) ≤ (sumI T0 T0.length : Int) := Int.natCast_nonneg _
  go_wp2_with fail
  go_at_call 17
  (with_reducible refine (eqMotion_same (rmS T0 0) _ _ _ _ (rmX T0 0) _ hL0 HR4.out.sv HR1.out.sv).mono ?_)
  rintro e w12 ⟨rfl, hb⟩
  have hz12 := hb.size
  replace b11_0 := keepc hb b11_0
  replace b11_1 := keepc hb b11_1
  replace b12_0 := keepc hb b12_0
  replace b12_1 := keepc hb b12_1
  replace b13_0 := keepc hb b13_0
  replace b13_1 := keepc hb b13_1
  replace b14_0 := keepc hb b14_0
  replace b14_1 := keepc hb b14_1
  replace HR0 := Lib.hid (HR0.out.late hb)
  replace HR1 := Lib.hid (HR1.out.late hb)
  replace HR2 := Lib.hid (HR2.out.late hb)
  replace HR3 := Lib.hid (HR3.out.late hb)
  replace HR4 := Lib.hid (HR4.out.late hb)
  replace HR5 := Lib.hid (HR5.out.late hb)
  replace HR6 := Lib.hid (HR6.out.late hb)
  replace HB := Lib.hid (gr_then hb HB.out)
  clear hb
  go_wp2_with fail
  go_at_call 17
  (with_reducible refine (eqMotion_same (rmS T0 1) _ _ _ _ (rmX T0 1) _ hL1 HR5.out.sv HR2.out.sv).mono ?_)
  rintro e w13 ⟨rfl, hb⟩
  have hz13 := hb.size
  replace b11_0 := keepc hb b11_0
  replace b11_1 := keepc hb b11_1
  replace b12_0 := keepc hb b12_0
  replace b12_1 := keepc hb b12_1
  replace b13_0 := keepc hb b13_0
  replace b13_1 := keepc hb b13_1
  replace b14_0 := keepc hb b14_0
  replace b14_1 := keepc hb b14_1
  replace HR0 := Lib.hid (HR0.out.late hb)
  replace HR1 := Lib.hid (HR1.out.late hb)
  replace HR2 := Lib.hid (HR2.out.late hb)
  replace HR3 := Lib.hid (HR3.out.late hb)
  replace HR4 := Lib.hid (HR4.out.late hb)
  replace HR5 := Lib.hid (HR5.out.late hb)
  replace HR6 := Lib.hid (HR6.out.late hb)
  replace HB := Lib.hid (gr_then hb HB.out)
  clear hb
  go_wp2_with fail
  go_at_call 24
  (with_reducible refine (markMotion_any (rmS T0 0) _ _ (rmX T0 0) (1) _ _ _ hL0 (by constructor <;> omega) HR4.out).mono ?_)
  rintro e w14 ⟨rfl, hr, ho⟩
  have hz14 := ho.size
  replace b11_0 := ho.keepc (by omega) b11_0
  replace b11_1 := ho.keepc (by omega) b11_1
  replace b12_0 := ho.keepc (by omega) b12_0
  replace b12_1 := ho.keepc (by omega) b12_1
  replace b13_0 := ho.keepc (by omega) b13_0
  replace b13_1 := ho.keepc (by omega) b13_1
  replace b14_0 := ho.keepc (by omega) b14_0
  replace b14_1 := ho.keepc (by omega) b14_1
  replace HR0 := Lib.hid (HR0.out.only ho (by omega))
  replace HR1 := Lib.hid (HR1.out.only ho (by omega))
  replace HR2 := Lib.hid (HR2.out.only ho (by omega))
  replace HR3 := Lib.hid (HR3.out.only ho (by omega))
  replace HR5 := Lib.hid (HR5.out.only ho (by omega))
  replace HR6 := Lib.hid (HR6.out.only ho (by omega))
  replace HB := Lib.hid (Only.after HB.out ho (by omega) (Nat.le_refl _))
  replace HR4 := Lib.hid hr
  clear ho hr
  go_wp2_with fail
  go_at_call 24
  (with_reducible refine (markMotion_any (rmS T0 1) _ _ (rmX T0 1) (1 + ((rmX T0 0).length : Int)) _ _ _ hL1 (by constructor <;> omega) HR5.out).mono ?_)
  rintro e w15 ⟨rfl, hr, ho⟩
  have hz15 := ho.size
  replace b11_0 := ho.keepc (by omega) b11_0
  replace b11_1 := ho.keepc (by omega) b11_1
  replace b12_0 := ho.keepc (by omega) b12_0
  replace b12_1 := ho.keepc (by omega) b12_1
  replace b13_0 := ho.keepc (by omega) b13_0
  replace b13_1 := ho.keepc (by omega) b13_1
  replace b14_0 := ho.keepc (by omega) b14_0
  replace b14_1 := ho.keepc (by omega) b14_1
  replace HR0 := Lib.hid (HR0.out.only ho (by omega))
  replace HR1 := Lib.hid (HR1.out.only ho (by omega))
  replace HR2 := Lib.hid (HR2.out.only ho (by omega))
  replace HR3 := Lib.hid (HR3.out.only ho (by omega))
  replace HR4 := Lib.hid (HR4.out.only ho (by omega))
  replace HR6 := Lib.hid (HR6.out.only ho (by omega))
  replace HB := Lib.hid (Only.after HB.out ho (by omega) (Nat.le_refl _))
  replace HR5 := Lib.hid hr
  clear ho hr
  go_wp2_with fail
  go_at_call 25
  (with_reducible refine (heldMotion_any (rmS T0 0) _ _ (1) (rmX T0 0).length _ hL0 (by constructor <;> omega) HR4.out.sv).mono ?_)
  rintro e w16 ⟨rfl, hb⟩
  have hz16 := hb.size
  replace b11_0 := keepc hb b11_0
  replace b11_1 := keepc hb b11_1
  replace b12_0 := keepc hb b12_0
  replace b12_1 := keepc hb b12_1
  replace b13_0 := keepc hb b13_0
  replace b13_1 := keepc hb b13_1
  replace b14_0 := keepc hb b14_0
  replace b14_1 := keepc hb b14_1
  replace HR0 := Lib.hid (HR0.out.late hb)
  replace HR1 := Lib.hid (HR1.out.late hb)
  replace HR2 := Lib.hid (HR2.out.late hb)
  replace HR3 := Lib.hid (HR3.out.late hb)
  replace HR4 := Lib.hid (HR4.out.late hb)
  replace HR5 := Lib.hid (HR5.out.late hb)
  replace HR6 := Lib.hid (HR6.out.late hb)
  replace HB := Lib.hid (gr_then hb HB.out)
  clear hb
  go_wp2_with fail
  go_at_call 25
  (with_reducible refine (heldMotion_any (rmS T0 1) _ _ (1 + ((rmX T0 0).length : Int)) (rmX T0 1).length _ hL1 (by constructor <;> omega) HR5.out.sv).mono ?_)
  rintro e w17 ⟨rfl, hb⟩
  have hz17 := hb.size
  replace b11_0 := keepc hb b11_0
  replace b11_1 := keepc hb b11_1
  replace b12_0 := keepc hb b12_0
  replace b12_1 := keepc hb b12_1
  replace b13_0 := keepc hb b13_0
  replace b13_1 := keepc hb b13_1
  replace b14_0 := keepc hb b14_0
  replace b14_1 := keepc hb b14_1
  replace HR0 := Lib.hid (HR0.out.late hb)
  replace HR1 := Lib.hid (HR1.out.late hb)
  replace HR2 := Lib.hid (HR2.out.late hb)
  replace HR3 := Lib.hid (HR3.out.late hb)
  replace HR4 := Lib.hid (HR4.out.late hb)
  replace HR5 := Lib.hid (HR5.out.late hb)
  replace HR6 := Lib.hid (HR6.out.late hb)
  replace HB := Lib.hid (gr_then hb HB.out)
  clear hb
  go_wp2_with fail
  go_at_call 32
  (with_reducible refine (toInt64SS_any A0 c0 T0 _ HZ0.out (laterTB HS0.out HB.out)).mono ?_)
  rintro e w18 ⟨rfl, hft7, hb⟩
  have hz18 := hb.size
  replace b11_0 := keepc hb b11_0
  replace b11_1 := keepc hb b11_1
  replace b12_0 := keepc hb b12_0
  replace b12_1 := keepc hb b12_1
  replace b13_0 := keepc hb b13_0
  replace b13_1 := keepc hb b13_1
  replace b14_0 := keepc hb b14_0
  replace b14_1 := keepc hb b14_1
  replace HR0 := Lib.hid (HR0.out.late hb)
  replace HR1 := Lib.hid (HR1.out.late hb)
  replace HR2 := Lib.hid (HR2.out.late hb)
  replace HR3 := Lib.hid (HR3.out.late hb)
  replace HR4 := Lib.hid (HR4.out.late hb)
  replace HR5 := Lib.hid (HR5.out.late hb)
  replace HR6 := Lib.hid (HR6.out.late hb)
  replace HB := Lib.hid (gr_then hb HB.out)
  have HR7 := Lib.hid (show TR (.int .i64) 2 22 w18 (w17.heap.size) (w18.heap.size) (some ⟨w17.heap.size, 0, none⟩) (T0.length) (T0) from TR.of_ft hft7 HZ0.out)
  clear hb hft7
  go_wp2_with fail
  go_at_call 33
  (with_reducible refine (implRm_any _ _ T0 _ HZ0.out hn0 HR7.out.tb).mono ?_)
  rintro e w19 ⟨B8, d8, B9, d9, p8, q8, rfl, hr8, hr9, hpq8, hpp8, hqq8, hb⟩
  have hz19 := hb.size
  replace b11_0 := keepc hb b11_0
  replace b11_1 := keepc hb b11_1
  replace b12_0 := keepc hb b12_0
  replace b12_1 := keepc hb b12_1
  replace b13_0 := keepc hb b13_0
  replace b13_1 := keepc hb b13_1
  replace b14_0 := keepc hb b14_0
  replace b14_1 := keepc hb b14_1
  replace HR0 := Lib.hid (HR0.out.late hb)
  replace HR1 := Lib.hid (HR1.out.late hb)
  replace HR2 := Lib.hid (HR2.out.late hb)
  replace HR3 := Lib.hid (HR3.out.late hb)
  replace HR4 := Lib.hid (HR4.out.late hb)
  replace HR5 := Lib.hid (HR5.out.late hb)
  replace HR6 := Lib.hid (HR6.out.late hb)
  replace HR7 := Lib.hid (HR7.out.late hb)
  replace HB := Lib.hid (gr_then hb HB.out)
  have HR8 := Lib.hid hr8
  have HR9 := Lib.hid hr9
  clear hb hr8 hr9
  have hb' : Below w19.heap.size w19 ((w19.alloc (.cells #[.int .i64 (rmS T0 0), .slice B8 (rmX T0 0).length (d8)] 27)).alloc (.cells #[.int .i64 (rmS T0 1), .slice B9 (rmX T0 1).length (d9)] 27)) := gr_alloc (gr_alloc (gr_refl _))
  replace b11_0 := keepc hb' b11_0
  replace b11_1 := keepc hb' b11_1
  replace b12_0 := keepc hb' b12_0
  replace b12_1 := keepc hb' b12_1
  replace b13_0 := keepc hb' b13_0
  replace b13_1 := keepc hb' b13_1
  replace b14_0 := keepc hb' b14_0
  replace b14_1 := keepc hb' b14_1
  replace HR0 := Lib.hid (HR0.out.late hb')
  replace HR1 := Lib.hid (HR1.out.late hb')
  replace HR2 := Lib.hid (HR2.out.late hb')
  replace HR3 := Lib.hid (HR3.out.late hb')
  replace HR4 := Lib.hid (HR4.out.late hb')
  replace HR5 := Lib.hid (HR5.out.late hb')
  replace HR6 := Lib.hid (HR6.out.late hb')
  replace HR7 := Lib.hid (HR7.out.late hb')
  replace HR8 := Lib.hid (HR8.out.late hb')
  replace HR9 := Lib.hid (HR9.out.late hb')
  replace HB := Lib.hid (gr_then hb' HB.out)
  have hz20 : w19.heap.size + 2 ≤ ((w19.alloc (.cells #[.int .i64 (rmS T0 0), .slice B8 (rmX T0 0).length (d8)] 27)).alloc (.cells #[.int .i64 (rmS T0 1), .slice B9 (rmX T0 1).length (d9)] 27)).heap.size := by simp
  have b15_0 : ((w19.alloc (.cells #[.int .i64 (rmS T0 0), .slice B8 (rmX T0 0).length (d8)] 27)).alloc (.cells #[.int .i64 (rmS T0 1), .slice B9 (rmX T0 1).length (d9)] 27)).cell? ⟨w19.heap.size, 0, none⟩ = some (.int .i64 (rmS T0 0)) := by simp [go_sem]
  have b15_1 : ((w19.alloc (.cells #[.int .i64 (rmS T0 0), .slice B8 (rmX T0 0).length (d8)] 27)).alloc (.cells #[.int .i64 (rmS T0 1), .slice B9 (rmX T0 1).length (d9)] 27)).cell? ⟨w19.heap.size, 1, none⟩ = some (.slice B8 (rmX T0 0).length (d8)) := by simp [go_sem]
  have b16_0 : ((w19.alloc (.cells #[.int .i64 (rmS T0 0), .slice B8 (rmX T0 0).length (d8)] 27)).alloc (.cells #[.int .i64 (rmS T0 1), .slice B9 (rmX T0 1).length (d9)] 27)).cell? ⟨w19.heap.size + 1, 0, none⟩ = some (.int .i64 (rmS T0 1)) := by simp [go_sem]
  have b16_1 : ((w19.alloc (.cells #[.int .i64 (rmS T0 0), .slice B8 (rmX T0 0).length (d8)] 27)).alloc (.cells #[.int .i64 (rmS T0 1), .slice B9 (rmX T0 1).length (d9)] 27)).cell? ⟨w19.heap.size + 1, 1, none⟩ = some (.slice B9 (rmX T0 1).length (d9)) := by simp [go_sem]
  clear hb'
  go_wp2_with fail
  generalize (w19.alloc (.cells #[.int .i64 (rmS T0 0), .slice B8 (rmX T0 0).length (d8)] 27)).alloc (.cells #[.int .i64 (rmS T0 1), .slice B9 (rmX T0 1).length (d9)] 27) = w20 at *
  generalize w19.heap.size = K6 at *
  go_at_call 17
  (with_reducible refine (eqMotion_same (rmS T0 0) _ _ _ _ (rmX T0 0) _ hL0 HR8.out.sv HR1.out.sv).mono ?_)
  rintro e w21 ⟨rfl, hb⟩
  have hz21 := hb.size
  replace b11_0 := keepc hb b11_0
  replace b11_1 := keepc hb b11_1
  replace b12_0 := keepc hb b12_0
  replace b12_1 := keepc hb b12_1
  replace b13_0 := keepc hb b13_0
  replace b13_1 := keepc hb b13_1
  replace b14_0 := keepc hb b14_0
  replace b14_1 := keepc hb b14_1
  replace b15_0 := keepc hb b15_0
  replace b15_1 := keepc hb b15_1
  replace b16_0 := keepc hb b16_0
  replace b16_1 := keepc hb b16_1
  replace HR0 := Lib.hid (HR0.out.late hb)
  replace HR1 := Lib.hid (HR1.out.late hb)
  replace HR2 := Lib.hid (HR2.out.late hb)
  replace HR3 := Lib.hid (HR3.out.late hb)
  replace HR4 := Lib.hid (HR4.out.late hb)
  replace HR5 := Lib.hid (HR5.out.late hb)
  replace HR6 := Lib.hid (HR6.out.late hb)
  replace HR7 := Lib.hid (HR7.out.late hb)
  replace HR8 := Lib.hid (HR8.out.late hb)
  replace HR9 := Lib.hid (HR9.out.late hb)
  replace HB := Lib.hid (gr_then hb HB.out)
  clear hb
  go_wp2_with fail
  go_at_call 17
  (with_reducible refine (eqMotion_same (rmS T0 1) _ _ _ _ (rmX T0 1) _ hL1 HR9.out.sv HR2.out.sv).mono ?_)
  rintro e w22 ⟨rfl, hb⟩
  have hz22 := hb.size
  replace b11_0 := keepc hb b11_0
  replace b11_1 := keepc hb b11_1
  replace b12_0 := keepc hb b12_0
  replace b12_1 := keepc hb b12_1
  replace b13_0 := keepc hb b13_0
  replace b13_1 := keepc hb b13_1
  replace b14_0 := keepc hb b14_0
  replace b14_1 := keepc hb b14_1
  replace b15_0 := keepc hb b15_0
  replace b15_1 := keepc hb b15_1
  replace b16_0 := keepc hb b16_0
  replace b16_1 := keepc hb b16_1
  replace HR0 := Lib.hid (HR0.out.late hb)
  replace HR1 := Lib.hid (HR1.out.late hb)
  replace HR2 := Lib.hid (HR2.out.late hb)
  replace HR3 := Lib.hid (HR3.out.late hb)
  replace HR4 := Lib.hid (HR4.out.late hb)
  replace HR5 := Lib.hid (HR5.out.late hb)
  replace HR6 := Lib.hid (HR6.out.late hb)
  replace HR7 := Lib.hid (HR7.out.late hb)
  replace HR8 := Lib.hid (HR8.out.late hb)
  replace HR9 := Lib.hid (HR9.out.late hb)
  replace HB := Lib.hid (gr_then hb HB.out)
  clear hb
  go_wp2_with fail
  go_at_call 25
  (with_reducible refine (heldMotion_any (rmS T0 0) _ _ (1) (rmX T0 0).length _ hL0 (by constructor <;> omega) HR4.out.sv).mono ?_)
  rintro e w23 ⟨rfl, hb⟩
  have hz23 := hb.size
  replace b11_0 := keepc hb b11_0
  replace b11_1 := keepc hb b11_1
  replace b12_0 := keepc hb b12_0
  replace b12_1 := keepc hb b12_1
  replace b13_0 := keepc hb b13_0
  replace b13_1 := keepc hb b13_1
  replace b14_0 := keepc hb b14_0
  replace b14_1 := keepc hb b14_1
  replace b15_0 := keepc hb b15_0
  replace b15_1 := keepc hb b15_1
  replace b16_0 := keepc hb b16_0
  replace b16_1 := keepc hb b16_1
  replace HR0 := Lib.hid (HR0.out.late hb)
  replace HR1 := Lib.hid (HR1.out.late hb)
  replace HR2 := Lib.hid (HR2.out.late hb)
  replace HR3 := Lib.hid (HR3.out.late hb)
  replace HR4 := Lib.hid (HR4.out.late hb)
  replace HR5 := Lib.hid (HR5.out.late hb)
  replace HR6 := Lib.hid (HR6.out.late hb)
  replace HR7 := Lib.hid (HR7.out.late hb)
  replace HR8 := Lib.hid (HR8.out.late hb)
  replace HR9 := Lib.hid (HR9.out.late hb)
  replace HB := Lib.hid (gr_then hb HB.out)
  clear hb
  go_wp2_with fail
  go_at_call 25
  (with_reducible refine (heldMotion_any (rmS T0 1) _ _ (1 + ((rmX T0 0).length : Int)) (rmX T0 1).length _ hL1 (by constructor <;> omega) HR5.out.sv).mono ?_)
  rintro e w24 ⟨rfl, hb⟩
  have hz24 := hb.size
  replace b11_0 := keepc hb b11_0
  replace b11_1 := keepc hb b11_1
  replace b12_0 := keepc hb b12_0
  replace b12_1 := keepc hb b12_1
  replace b13_0 := keepc hb b13_0
  replace b13_1 := keepc hb b13_1
  replace b14_0 := keepc hb b14_0
  replace b14_1 := keepc hb b14_1
  replace b15_0 := keepc hb b15_0
  replace b15_1 := keepc hb b15_1
  replace b16_0 := keepc hb b16_0
  replace b16_1 := keepc hb b16_1
  replace HR0 := Lib.hid (HR0.out.late hb)
  replace HR1 := Lib.hid (HR1.out.late hb)
  replace HR2 := Lib.hid (HR2.out.late hb)
  replace HR3 := Lib.hid (HR3.out.late hb)
  replace HR4 := Lib.hid (HR4.out.late hb)
  replace HR5 := Lib.hid (HR5.out.late hb)
  replace HR6 := Lib.hid (HR6.out.late hb)
  replace HR7 := Lib.hid (HR7.out.late hb)
  replace HR8 := Lib.hid (HR8.out.late hb)
  replace HR9 := Lib.hid (HR9.out.late hb)
  replace HB := Lib.hid (gr_then hb HB.out)
  clear hb
  go_wp2
  go_returns
  exact ⟨rfl, HB.out⟩
end Go.Proofs.Ytoojnfdphjdocaa.fnExactRouteMotions
