/- The walk of the law FnExactTableLines: whatever came in, both functions agree. No condition. -/
import Derived.Test.YtmgbbkglafnibaaTl
import Derived.Test.YtmgbbkglafnibaaTRs
import Derived.Deep.RegionHeld3
import Derived.Deep.DeepCutAuto
namespace Go.Proofs.Ytmgbbkglafnibaa.fnExactTableLines
open Go.RowKit
set_option maxHeartbeats 8000000 in
set_option maxRecDepth 20000 in
theorem walk (A0 : Option Addr) (n0 c0 : Nat) (rs0 : List (Option Addr × Nat × Nat)) (w : World) (h0 : n0 ≤ 9223372036854775807 ∧ rs0.length = n0 ∧ (∀ p ∈ rs0, IsRow Value.bool (fun _ => True) w p) ∧ SV sl w w.heap.size A0 rs0) :
    Calls Try.prog 9 #[.slice A0 n0 c0] w fun e w' => e = .returned (.bool true) ∧ Below w.heap.size w w' := by
  obtain ⟨hn0, hl0, hr0, hs0⟩ := h0
  obtain ⟨T0, hT0, hc0, ht0⟩ := TB_of hr0 hs0
  obtain rfl : n0 = T0.length := by omega
  have HS0 := Lib.hid ht0
  have HC0 := Lib.hid hc0
  clear hT0 hl0 hr0 hs0 ht0 hc0
  have HB := Lib.hid (gr_refl w)
  have hz0 : w.heap.size ≤ w.heap.size := Nat.le_refl _
  have hL : (tlX T0).length ≤ 1000 := by have := tlX_len T0; omega
  have hL2 : (tlX T0).length ≤ 1048576 := by omega
  go_enter Try.func9, Try.ntmps9
  go_wp2_with fail
  go_at_call 11
  (with_reducible refine (szBoolSS_any A0 c0 (1048576) T0 _ (HS0.out.laterT HB.out) hn0 (fun j bs hj => (HC0.out j bs hj).1) (by omega) (by omega)).mono ?_)
  rintro e wq ⟨r0, rfl, rfl, hr1, hr2⟩
  by_cases hm0 : r0 < 0
  · go_wp2
    go_returns
    exact ⟨rfl, HB.out⟩
  have HZ0 := Lib.hid (hr2 (by omega))
  have hd0 : decide (r0 < 0) = false := decide_eq_false (by omega)
  replace hn0 : T0.length ≤ 1048576 := HZ0.out.1
  have hs0 : 0 ≤ r0 ∧ r0 ≤ 1048576 := by constructor <;> omega
  clear hr1 hr2 hm0
  go_wp2_with fail
  go_at_call 13
  (with_reducible refine (toBoolSS_any A0 c0 T0 _ HZ0.out (HS0.out.laterT HB.out)).mono ?_)
  rintro e w1 ⟨rfl, hft0, hb⟩
  have hz1 := hb.size
  replace HB := Lib.hid (gr_then hb HB.out)
  have HR0 := Lib.hid (show TR .bool 4 49 w1 (w.heap.size) (w1.heap.size) (some ⟨w.heap.size, 0, none⟩) (T0.length) (T0) from TR.of_ft hft0 HZ0.out)
  clear hb hft0
  go_wp2_with fail
  go_at_call 32
  (with_reducible refine (specTl_any _ _ T0 _ hn0 HR0.out.tb).mono ?_)
  rintro e w2 ⟨B1, d1, rfl, hr1, hb⟩
  have hz2 := hb.size
  replace HR0 := Lib.hid (HR0.out.late hb)
  replace HB := Lib.hid (gr_then hb HB.out)
  have HR1 := Lib.hid (show RS .string 9 w2 (w1.heap.size) (w2.heap.size) B1 (d1) (tlX T0) from hr1)
  clear hb hr1
  go_wp2_with fail
  go_at_call 13
  (with_reducible refine (toBoolSS_any A0 c0 T0 _ HZ0.out (HS0.out.laterT HB.out)).mono ?_)
  rintro e w3 ⟨rfl, hft2, hb⟩
  have hz3 := hb.size
  replace HR0 := Lib.hid (HR0.out.late hb)
  replace HR1 := Lib.hid (HR1.out.late hb)
  replace HB := Lib.hid (gr_then hb HB.out)
  have HR2 := Lib.hid (show TR .bool 4 49 w3 (w2.heap.size) (w3.heap.size) (some ⟨w2.heap.size, 0, none⟩) (T0.length) (T0) from TR.of_ft hft2 HZ0.out)
  clear hb hft2
  go_wp2_with fail
  go_at_call 33
  (with_reducible refine (implTl_any _ _ T0 _ hn0 HR2.out.tb (Sizes.rows HZ0.out)).mono ?_)
  rintro e w4 ⟨B3, d3, rfl, hr3, hb⟩
  have hz4 := hb.size
  replace HR0 := Lib.hid (HR0.out.late hb)
  replace HR1 := Lib.hid (HR1.out.late hb)
  replace HR2 := Lib.hid (HR2.out.late hb)
  replace HB := Lib.hid (gr_then hb HB.out)
  have HR3 := Lib.hid (show RS .string 9 w4 (w3.heap.size) (w4.heap.size) B3 (d3) (tlX T0) from hr3)
  clear hb hr3
  go_wp2_with fail
  go_at_call 34
  (with_reducible refine (eqStringS_same _ _ _ _ (tlX T0) _ hL2 HR3.out.sv HR1.out.sv).mono ?_)
  rintro e w5 ⟨rfl, hq⟩
  have hb : Below w4.heap.size w4 w5 := by obtain ⟨q, rfl⟩ := hq; exact gr_drewN (gr_refl _)
  have hz5 := hb.size
  replace HR0 := Lib.hid (HR0.out.late hb)
  replace HR1 := Lib.hid (HR1.out.late hb)
  replace HR2 := Lib.hid (HR2.out.late hb)
  replace HR3 := Lib.hid (HR3.out.late hb)
  replace HB := Lib.hid (gr_then hb HB.out)
  clear hb hq
  go_wp2_with fail
  go_at_call 13
  (with_reducible refine (toBoolSS_any A0 c0 T0 _ HZ0.out (HS0.out.laterT HB.out)).mono ?_)
  rintro e w6 ⟨rfl, hft4, hb⟩
  have hz6 := hb.size
  replace HR0 := Lib.hid (HR0.out.late hb)
  replace HR1 := Lib.hid (HR1.out.late hb)
  replace HR2 := Lib.hid (HR2.out.late hb)
  replace HR3 := Lib.hid (HR3.out.late hb)
  replace HB := Lib.hid (gr_then hb HB.out)
  have HR4 := Lib.hid (show TR .bool 4 49 w6 (w5.heap.size) (w6.heap.size) (some ⟨w5.heap.size, 0, none⟩) (T0.length) (T0) from TR.of_ft hft4 HZ0.out)
  clear hb hft4
  go_wp2_with fail
  go_at_call 15
  (with_reducible refine (eqBoolSS_same _ _ _ _ (T0) _ HZ0.out HR2.out.tb HR4.out.tb).mono ?_)
  rintro e w7 ⟨rfl, hq⟩
  have hb : Below w6.heap.size w6 w7 := by obtain ⟨q, rfl⟩ := hq; exact gr_drewN (gr_refl _)
  have hz7 := hb.size
  replace HR0 := Lib.hid (HR0.out.late hb)
  replace HR1 := Lib.hid (HR1.out.late hb)
  replace HR2 := Lib.hid (HR2.out.late hb)
  replace HR3 := Lib.hid (HR3.out.late hb)
  replace HR4 := Lib.hid (HR4.out.late hb)
  replace HB := Lib.hid (gr_then hb HB.out)
  clear hb hq
  go_wp2_with fail
  go_at_call 20
  (with_reducible refine (markBoolSS_any _ _ (T0) (1) _ _ _ HZ0.out (by constructor <;> omega) HR2.out).mono ?_)
  rintro e w8 ⟨rfl, hr, ho⟩
  have hz8 := ho.size
  replace HR0 := Lib.hid (HR0.out.only ho (by omega))
  replace HR1 := Lib.hid (HR1.out.only ho (by omega))
  replace HR3 := Lib.hid (HR3.out.only ho (by omega))
  replace HR4 := Lib.hid (HR4.out.only ho (by omega))
  replace HB := Lib.hid (Only.after HB.out ho (by omega) (Nat.le_refl _))
  replace HR2 := Lib.hid hr
  clear ho hr
  have hsm : (0 : Int) ≤ (sumT T0 T0.length : Int) := Int.natCast_nonneg _
  go_wp2_with fail
  go_at_call 34
  (with_reducible refine (eqStringS_same _ _ _ _ (tlX T0) _ hL2 HR3.out.sv HR1.out.sv).mono ?_)
  rintro e w9 ⟨rfl, hq⟩
  have hb : Below w8.heap.size w8 w9 := by obtain ⟨q, rfl⟩ := hq; exact gr_drewN (gr_refl _)
  have hz9 := hb.size
  replace HR0 := Lib.hid (HR0.out.late hb)
  replace HR1 := Lib.hid (HR1.out.late hb)
  replace HR2 := Lib.hid (HR2.out.late hb)
  replace HR3 := Lib.hid (HR3.out.late hb)
  replace HR4 := Lib.hid (HR4.out.late hb)
  replace HB := Lib.hid (gr_then hb HB.out)
  clear hb hq
  go_wp2_with fail
  go_at_call 35
  (with_reducible refine (markStringS_one _ _ (tlX T0) _ _ _ hL HR3.out).mono ?_)
  rintro e w10 ⟨rfl, hr, ho⟩
  have hz10 := ho.size
  replace HR0 := Lib.hid (HR0.out.only ho (by omega))
  replace HR1 := Lib.hid (HR1.out.only ho (by omega))
  replace HR2 := Lib.hid (HR2.out.only ho (by omega))
  replace HR4 := Lib.hid (HR4.out.only ho (by omega))
  replace HB := Lib.hid (Only.after HB.out ho (by omega) (Nat.le_refl _))
  replace HR3 := Lib.hid hr
  clear ho hr
  go_wp2_with fail
  go_at_call 36
  (with_reducible refine (heldStringS_one _ _ (tlX T0).length _ hL HR3.out.sv).mono ?_)
  rintro e w11 ⟨rfl, hb⟩
  have hz11 := hb.size
  replace HR0 := Lib.hid (HR0.out.late hb)
  replace HR1 := Lib.hid (HR1.out.late hb)
  replace HR2 := Lib.hid (HR2.out.late hb)
  replace HR3 := Lib.hid (HR3.out.late hb)
  replace HR4 := Lib.hid (HR4.out.late hb)
  replace HB := Lib.hid (gr_then hb HB.out)
  clear hb
  go_wp2_with fail
  go_at_call 13
  (with_reducible refine (toBoolSS_any A0 c0 T0 _ HZ0.out (HS0.out.laterT HB.out)).mono ?_)
  rintro e w12 ⟨rfl, hft5, hb⟩
  have hz12 := hb.size
  replace HR0 := Lib.hid (HR0.out.late hb)
  replace HR1 := Lib.hid (HR1.out.late hb)
  replace HR2 := Lib.hid (HR2.out.late hb)
  replace HR3 := Lib.hid (HR3.out.late hb)
  replace HR4 := Lib.hid (HR4.out.late hb)
  replace HB := Lib.hid (gr_then hb HB.out)
  have HR5 := Lib.hid (show TR .bool 4 49 w12 (w11.heap.size) (w12.heap.size) (some ⟨w11.heap.size, 0, none⟩) (T0.length) (T0) from TR.of_ft hft5 HZ0.out)
  clear hb hft5
  go_wp2_with fail
  go_at_call 33
  (with_reducible refine (implTl_any _ _ T0 _ hn0 HR5.out.tb (Sizes.rows HZ0.out)).mono ?_)
  rintro e w13 ⟨B6, d6, rfl, hr6, hb⟩
  have hz13 := hb.size
  replace HR0 := Lib.hid (HR0.out.late hb)
  replace HR1 := Lib.hid (HR1.out.late hb)
  replace HR2 := Lib.hid (HR2.out.late hb)
  replace HR3 := Lib.hid (HR3.out.late hb)
  replace HR4 := Lib.hid (HR4.out.late hb)
  replace HR5 := Lib.hid (HR5.out.late hb)
  replace HB := Lib.hid (gr_then hb HB.out)
  have HR6 := Lib.hid (show RS .string 9 w13 (w12.heap.size) (w13.heap.size) B6 (d6) (tlX T0) from hr6)
  clear hb hr6
  go_wp2_with fail
  go_at_call 34
  (with_reducible refine (eqStringS_same _ _ _ _ (tlX T0) _ hL2 HR6.out.sv HR1.out.sv).mono ?_)
  rintro e w14 ⟨rfl, hq⟩
  have hb : Below w13.heap.size w13 w14 := by obtain ⟨q, rfl⟩ := hq; exact gr_drewN (gr_refl _)
  have hz14 := hb.size
  replace HR0 := Lib.hid (HR0.out.late hb)
  replace HR1 := Lib.hid (HR1.out.late hb)
  replace HR2 := Lib.hid (HR2.out.late hb)
  replace HR3 := Lib.hid (HR3.out.late hb)
  replace HR4 := Lib.hid (HR4.out.late hb)
  replace HR5 := Lib.hid (HR5.out.late hb)
  replace HR6 := Lib.hid (HR6.out.late hb)
  replace HB := Lib.hid (gr_then hb HB.out)
  clear hb hq
  go_wp2_with fail
  go_at_call 36
  (with_reducible refine (heldStringS_one _ _ (tlX T0).length _ hL HR3.out.sv).mono ?_)
  rintro e w15 ⟨rfl, hb⟩
  have hz15 := hb.size
  replace HR0 := Lib.hid (HR0.out.late hb)
  replace HR1 := Lib.hid (HR1.out.late hb)
  replace HR2 := Lib.hid (HR2.out.late hb)
  replace HR3 := Lib.hid (HR3.out.late hb)
  replace HR4 := Lib.hid (HR4.out.late hb)
  replace HR5 := Lib.hid (HR5.out.late hb)
  replace HR6 := Lib.hid (HR6.out.late hb)
  replace HB := Lib.hid (gr_then hb HB.out)
  clear hb
  go_wp2
  go_returns
  exact ⟨rfl, HB.out⟩
end Go.Proofs.Ytmgbbkglafnibaa.fnExactTableLines
