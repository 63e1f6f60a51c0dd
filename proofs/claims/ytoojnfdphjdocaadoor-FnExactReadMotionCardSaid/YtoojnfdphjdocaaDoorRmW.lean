/- The program's reader of motions: the walk. -/
import Derived.Test.YtoojnfdphjdocaaDoorRmO
import Derived.Deep.RegionLaw
namespace Go.Proofs.YtoojnfdphjdocaaDoor
open Go.RowKit Go.Deep
set_option maxHeartbeats 8000000 in
set_option maxRecDepth 20000 in
theorem implRm_any (t : ByteArray) (w : World) (hs : t.size ≤ 1048576) (hV : RVars w) : Calls Tryd.prog 11 #[.string t] w (RetRm t w) := by
  obtain ⟨i0, hi, hz0, hz1, hz2⟩ := info_parts infoInt
  have HX := Lib.hid (Box2.new w 27 (.int .i64 0) (.slice none 0 0))
  have HB := Lib.hid (show Below w.heap.size w (w.alloc (.cells #[.int .i64 0, .slice none 0 0] 27)) from gr_alloc (gr_refl w))
  have hz : w.heap.size + 1 ≤ (w.alloc (.cells #[.int .i64 0, .slice none 0 0] 27)).heap.size := by simp
  have HVR := Lib.hid (hV.late HB.out)
  clear hV
  obtain ⟨g1, g2⟩ := ct_size t 58
  obtain ⟨c1, e9⟩ : ∃ q, ctA t 58 = q := ⟨_, rfl⟩
  rw [e9] at g1
  have HpA := Lib.hid e9
  clear e9
  obtain ⟨c2, e9⟩ : ∃ q, ctB t 58 = q := ⟨_, rfl⟩
  rw [e9] at g2
  have HpB := Lib.hid e9
  clear e9
  obtain ⟨kp, e9⟩ : ∃ q, ctK t 58 = q := ⟨_, rfl⟩
  have HpK := Lib.hid e9
  clear e9
  obtain ⟨V, e9⟩ : ∃ q, numS c1 = q := ⟨_, rfl⟩
  have HV := Lib.hid e9
  clear e9
  obtain ⟨K0, e9⟩ : ∃ q, okS c1 = q := ⟨_, rfl⟩
  have HK0 := Lib.hid e9
  clear e9
  have HN : Hid (¬ (K0 = true ∧ okM V (stps c2) = true ∧ strB (mtT V (stps c2)) = t) → RelM t 0 [] false) := fun h => rel_i HpA.out HpB.out (by rw [HV.out, HK0.out]; exact h)
  go_enter Tryd.func11, Tryd.ntmps11; go_wp2_with fail
  generalize w.alloc (.cells #[.int .i64 0, .slice none 0 0] 27) = wv at *
  go_at_call 26
  (with_reducible refine (cut_is t 58 _ (by omega) HVR.out HpA.out HpB.out HpK.out).mono ?_)
  rintro r w1 ⟨rfl, hb⟩
  have hy1 := hb.size
  replace HX := Lib.hid (HX.out.late hb)
  replace HB := Lib.hid (gr_then hb HB.out)
  replace HVR := Lib.hid (HVR.out.late hb)
  clear hb
  go_wp2_with fail
  go_at_call 27
  (with_reducible refine (dec_is c1 _ (by omega) HVR.out HV.out HK0.out).mono ?_)
  rintro r w3 ⟨rfl, hb⟩
  have hy3 := hb.size
  replace HX := Lib.hid (HX.out.late hb)
  replace HB := Lib.hid (gr_then hb HB.out)
  replace HVR := Lib.hid (HVR.out.late hb)
  clear hb
  cases K0
  · have r0 := HX.out.c0
    have r1 := HX.out.c1
    have rf0 := HX.out.f0 0
    have rf1 := HX.out.f0 1
    have rlt := HX.out.lt
    go_wp2
    refine bodyPost_ret (v := .tuple #[.agg #[.int .i64 (0), .slice none 0 0], .bool false]) (by simp [results, Tryd.results11, go_sem, *]) rfl ?_
    exact ⟨0, [], false, HN.out (by simp), none, 0, rfl, RS.nil, ((HB.out).setCell (by simp) _).setCell (by simp) _⟩
  have HT0 := Lib.hid (One.nil w3 2 27 V)
  obtain ⟨m, hm⟩ : ∃ m, w3.heap.size = m := ⟨_, rfl⟩
  have HM := Lib.hid hm
  have hml : w3.heap.size ≤ m ∧ m ≤ w3.heap.size := by omega
  rw [hm] at HT0
  clear hm
  go_wp2_with fail
  rw [HM.out]
  go_loopw [29] (fun iv wr => ∃ (k q : Nat) (A : Option Addr), k ≤ c2.size ∧ iv = .int .i64 (k : Int) ∧ One w3 m 2 27 wr V A k q ((stps c2).take k)) (fun iv _ => c2.size - (intOf iv).toNat)
  case atStart => exact ⟨0, 0, _, by omega, rfl, HT0.out⟩
  case round =>
    obtain ⟨k, q, A, hk, rfl, ho⟩ := hrel
    have HO := Lib.hid ho
    have HBW := Lib.hid ho.bw
    have hsz := ho.bw.size
    have p0 := ho.b.c0
    have p1 := ho.b.c1
    have pf := ho.b.f0 1
    have pm := ho.b.lt
    clear ho
    replace HX := Lib.hid (HX.out.late HBW.out)
    replace HB := Lib.hid (gr_then HBW.out HB.out)
    replace HVR := Lib.hid (HVR.out.late HBW.out)
    by_cases hkn : k < c2.size
    · have hd : decide ((k : Int) < c2.size) = true := decide_eq_true (by omega)
      have hd' : decide (k < c2.size) = true := decide_eq_true hkn
      obtain ⟨x, hx⟩ : ∃ x : Int, ((c2[k]'hkn).toNat : Int) = x := ⟨_, rfl⟩
      obtain ⟨D, hD⟩ : ∃ D, dec1 (c2[k]'hkn) = D := ⟨_, rfl⟩
      have HTK := Lib.hid (stp_take hkn)
      rw [hD] at HTK
      have hDb := dec_bd (c2[k]'hkn)
      rw [hD] at hDb
      obtain ⟨J, hJ⟩ : ∃ J, D + 1 = J := ⟨_, rfl⟩
      have HIB : Hid (∀ w : World, Calls Tryd.prog 28 #[.string ⟨#[45, 48, 43]⟩, .int .u8 x] w fun e w' => e = .returned (.int .i64 J) ∧ w = w') := fun w => (strings_IndexByte ⟨#[45, 48, 43]⟩ x w).mono fun e w' ⟨he, hw⟩ => ⟨by rw [he, ← hJ, ← hD, ← ib_dec]; rw [← hx]; simp, hw.symm⟩
      have hw : IntKind.i64.wrap (J - 1) = D := by rw [IntWalk.i64_in _ (by omega)]; omega
      clear hD hJ
      have t2 := fun o => keepc (gr_alloc (o := o) (gr_refl wr)) p1
      go_wp2
      go_region_law ((first | (go_simp; go_at_call 28; (with_reducible refine (HIB.out _).mono ?_); rintro e w7 ⟨rfl, rfl⟩) | (refine step_app (by rfl) _ _ 22 (by rfl) (w3.heap.size) 2 i0 (.int .i64 0) 8 Tryd.underlying22 hi hz0 hz1 hz2 (by rfl) (Value.int .i64) (fun _ => rfl) A (k) (q) ((stps c2).take k) (wr.heap.size) (by rfl) (by rw [List.length_take, stps_len]; omega) (HO.out.r.late (gr_drew (gr_alloc (gr_refl wr)))) (some ⟨wr.heap.size, 0, none⟩) 1 1 [D] (wr.heap.size + 1) (by rfl) (by rfl) ((SV.of_new wr).keep (fun _ _ => rfl)) (fun h => by cases h) (by unfold maxLen; omega) (by omega) (by have h9 : wr.heap.size ≤ ((wr.alloc (.cells #[.int .i64 D] 2)).drew).heap.size := (gr_drew (gr_alloc (o := .cells #[.int .i64 D] 2) (gr_refl wr))).size; omega) ?_; intro A6 c6 w6 hr6 hg6 hk6; obtain ⟨⟨e1, e2⟩, h5⟩ := (HO.out.late (gr_drew (gr_refl wr))).app (o := .cells #[.int .i64 D] 2) hr6 hg6 hk6; have H5 := Lib.hid h5; clear h5 hr6 hg6 hk6)))
      all_goals
        go_wp2
        go_roundw
        case rel => exact ⟨k + 1, c6, A6, by omega, by go_num, by rw [HTK.out]; exact H5.out⟩
        case measure => simp [intOf]; omega
    · obtain rfl : k = c2.size := by omega
      have hd : decide ((c2.size : Int) < c2.size) = false := decide_eq_false (by omega)
      have hd' : decide (c2.size < c2.size) = false := decide_eq_false (by omega)
      have HTK := Lib.hid (show (stps c2).take c2.size = stps c2 from List.take_of_length_le (by rw [stps_len]; exact Nat.le_refl _))
      have HSV := Lib.hid (show SV (.int .i64) wr wr.heap.size A (stps c2) by have h9 := HO.out.r.sv; rw [HTK.out] at h9; exact h9)
      obtain ⟨K1, hK⟩ : ∃ q, okM V (stps c2) = q := ⟨_, rfl⟩
      have HK1 := Lib.hid hK
      clear hK
      have HVM : Hid (Calls Tryd.prog 18 #[.agg #[.int .i64 V, .slice A c2.size q]] wr fun e w' => e = .returned (.bool K1) ∧ Below wr.heap.size wr w') := by have h9 := implVm_any V A q (stps c2) wr (by rw [stps_len]; omega) HSV.out; rw [stps_len, HK1.out] at h9; exact h9
      go_wp2_with fail
      go_at_call 18
      (with_reducible refine HVM.out.mono ?_)
      rintro r w4 ⟨rfl, hb⟩
      have hy4 := hb.size
      replace HX := Lib.hid (HX.out.late hb)
      replace HB := Lib.hid (gr_then hb HB.out)
      replace HVR := Lib.hid (HVR.out.late hb)
      replace HO := Lib.hid (HO.out.late hb)
      replace HSV := Lib.hid (HSV.out.later hb)
      clear hb HBW p0 p1 pf pm
      cases K1
      · have r0 := HX.out.c0
        have r1 := HX.out.c1
        have rf0 := HX.out.f0 0
        have rf1 := HX.out.f0 1
        have rlt := HX.out.lt
        go_wp2
        refine bodyPost_ret (v := .tuple #[.agg #[.int .i64 (0), .slice none 0 0], .bool false]) (by simp [results, Tryd.results11, go_sem, *]) rfl ?_
        exact ⟨0, [], false, HN.out (by rw [HK1.out]; simp), none, 0, rfl, RS.nil, ((HB.out).setCell (by simp) _).setCell (by simp) _⟩
      have p0 := HO.out.b.c0
      have p1 := HO.out.b.c1
      have HTX : Hid (Calls Tryd.prog 8 #[.agg #[.int .i64 V, .slice A c2.size q]] w4 fun e w' => e = .returned (.string (strB (mtT V (stps c2)))) ∧ Below w4.heap.size w4 w') := by have h9 := implMt_any V A q (stps c2) w4 (by rw [stps_len]; omega) HSV.out (RVars.pow HVR.out); rw [stps_len, show mtTx V (stps c2) = strB (mtT V (stps c2)) from if_pos HK1.out] at h9; exact h9
      go_wp2_with fail
      go_at_call 8
      (with_reducible refine HTX.out.mono ?_)
      rintro r w5 ⟨rfl, hb⟩
      have hy5 := hb.size
      replace HX := Lib.hid (HX.out.late hb)
      replace HB := Lib.hid (gr_then hb HB.out)
      replace HVR := Lib.hid (HVR.out.late hb)
      replace HO := Lib.hid (HO.out.late hb)
      clear hb HSV p0 p1
      have p0 := HO.out.b.c0
      have p1 := HO.out.b.c1
      have r0 := HX.out.c0
      have r1 := HX.out.c1
      have rf0 := HX.out.f0 0
      have rf1 := HX.out.f0 1
      have rlt := HX.out.lt
      obtain ⟨X, hX⟩ : ∃ X, strB (mtT V (stps c2)) = X := ⟨_, rfl⟩
      have HXX := Lib.hid hX
      rw [hX]
      clear hX
      by_cases ht : X = t
      case neg =>
        have HRL := Lib.hid (HN.out (fun h => ht (HXX.out.symm.trans h.2.2)))
        have he2 : (X.toList == t.toList) = false := by rw [beq_eq_false_iff_ne]; intro h9; exact ht (txt_eq h9)
        clear ht
        go_wp2
        refine bodyPost_ret (v := .tuple #[.agg #[.int .i64 (0), .slice none 0 0], .bool false]) (by simp [results, Tryd.results11, go_sem, *]) rfl ?_
        exact ⟨0, [], false, HRL.out, none, 0, rfl, RS.nil, ((HB.out).setCell (by simp) _).setCell (by simp) _⟩
      have HRL := Lib.hid (rel_yes HK1.out (HXX.out.trans ht))
      have he2 : (X.toList == t.toList) = true := by rw [ht]; exact beq_self_eq_true _
      clear ht
      go_wp2
      refine bodyPost_ret (v := .tuple #[.agg #[.int .i64 (V), .slice A c2.size q], .bool true]) (by simp [results, Tryd.results11, go_sem, *]) rfl ?_
      exact ⟨V, stps c2, true, HRL.out, A, q, by rw [stps_len], by have h9 := (HO.out.ret w.heap.size (by omega) (.int .i64 V) (.slice A c2.size q)).wide (show w.heap.size ≤ w3.heap.size by omega) (Nat.le_refl _); rw [HTK.out] at h9; exact h9, ((HB.out).setCell (by simp) _).setCell (by simp) _⟩
end Go.Proofs.YtoojnfdphjdocaaDoor
