/- The reference's reader of motions: the walk. -/
import Derived.Test.YtoojnfdphjdocaaDoorRmO
namespace Go.Proofs.YtoojnfdphjdocaaDoor
open Go.RowKit Go.Deep
set_option maxHeartbeats 8000000 in
set_option maxRecDepth 20000 in
theorem specRm_any (t : ByteArray) (w : World) (hs : t.size ≤ 1048576) : Calls Tryd.prog 10 #[.string t] w (RetRm t w) := by
  obtain ⟨i0, hi, hz0, hz1, hz2⟩ := info_parts infoInt
  have HX := Lib.hid (Box2.new w 27 (.int .i64 0) (.slice none 0 0))
  have HB := Lib.hid (show Below w.heap.size w (w.alloc (.cells #[.int .i64 0, .slice none 0 0] 27)) from gr_alloc (gr_refl w))
  have hz : w.heap.size + 1 ≤ (w.alloc (.cells #[.int .i64 0, .slice none 0 0] 27)).heap.size := by simp
  by_cases h2 : (splB t 58).length = 2
  case neg =>
    have HR := Lib.hid (rm_n1 h2)
    obtain ⟨L, hL⟩ : ∃ L, splB t 58 = L := ⟨_, rfl⟩
    rw [hL] at h2
    have HSP : Hid (∀ w : World, Calls Tryd.prog 24 #[.string t, .int .u8 58] w fun e w' => ∃ (A : Option Addr) (n c : Nat), e = .returned (.slice A n c) ∧ List.length (α := ByteArray) L = n ∧ RS .string 9 w' w.heap.size w'.heap.size A c L ∧ Below w.heap.size w w') := fun w => by have h9 := split_is t 58 58 rfl w (by omega); rw [hL] at h9; exact h9
    clear hL
    go_enter Tryd.func10, Tryd.ntmps10; go_wp2_with fail
    generalize w.alloc (.cells #[.int .i64 0, .slice none 0 0] 27) = wv at *
    go_at_call 24
    (with_reducible refine (HSP.out _).mono ?_)
    rintro r w1 ⟨A, n, c, rfl, hn, hr, hb⟩
    have hd : ((n : Int) != 2) = true := by rw [bne_iff_ne]; omega
    have hy := hb.size
    replace HX := Lib.hid (HX.out.late hb)
    replace HB := Lib.hid (gr_then hb HB.out)
    have r0 := HX.out.c0
    have r1 := HX.out.c1
    have rf0 := HX.out.f0 0
    have rf1 := HX.out.f0 1
    have rlt := HX.out.lt
    clear hn hr hb
    go_wp2
    refine bodyPost_ret (v := .tuple #[.agg #[.int .i64 (0), .slice none 0 0], .bool false]) (by simp [results, Tryd.results10, go_sem, *]) rfl ?_
    exact ⟨0, [], false, HR.out, none, 0, rfl, RS.nil, ((HB.out).setCell (by simp) _).setCell (by simp) _⟩
  obtain ⟨x0, x1, hL⟩ := two_of h2
  obtain ⟨s1, s2⟩ := two_size hL
  have HSP : Hid (∀ w : World, Calls Tryd.prog 24 #[.string t, .int .u8 58] w fun e w' => ∃ (A : Option Addr) (n c : Nat), e = .returned (.slice A n c) ∧ List.length (α := ByteArray) [x0, x1] = n ∧ RS .string 9 w' w.heap.size w'.heap.size A c [x0, x1] ∧ Below w.heap.size w w') := fun w => by have h9 := split_is t 58 58 rfl w (by omega); rw [hL] at h9; exact h9
  clear h2
  have HL := Lib.hid hL
  clear hL
  obtain ⟨V, hV⟩ : ∃ q, numS x0 = q := ⟨_, rfl⟩
  have HV := Lib.hid hV
  obtain ⟨K0, hK⟩ : ∃ q, okS x0 = q := ⟨_, rfl⟩
  have HK0 := Lib.hid hK
  clear hV hK
  have HO16 : Hid (∀ (b : Nat) (w : World) (A : Option Addr) (c : Nat), w.cell? ⟨b, 0, none⟩ = some (.int .i64 V) → w.cell? ⟨b, 1, none⟩ = some (.slice A x1.size c) → SV (.int .i64) w w.heap.size A (stps x1) → Calls Tryd.prog 15 #[.pointer (some ⟨b, 0, none⟩)] w fun e w' => e = .returned (.bool (okM V (stps x1))) ∧ w = w') := fun b w A c h1 h2 h3 => l16Ok_any b V A c (stps x1) w (by rw [stps_len]; omega) h1 (by rw [stps_len]; exact h2) h3
  go_enter Tryd.func10, Tryd.ntmps10; go_wp2_with fail
  generalize w.alloc (.cells #[.int .i64 0, .slice none 0 0] 27) = wv at *
  go_at_call 24
  (with_reducible refine (HSP.out _).mono ?_)
  rintro r w1 ⟨A, n, c, rfl, hn, hr, hb⟩
  obtain rfl : n = 2 := hn.symm
  have hy := hb.size
  obtain ⟨g, rfl, _, _, _, c0, _⟩ := hr.cellAt (k := 0) rfl
  obtain ⟨g', eg, _, _, _, c1, _⟩ := hr.cellAt (k := 1) rfl
  simp only [Option.some.injEq, Addr.mk.injEq, and_true] at eg
  subst eg
  replace HX := Lib.hid (HX.out.late hb)
  replace HB := Lib.hid (gr_then hb HB.out)
  clear hn hr hb
  go_wp2_with fail
  go_at_call 25
  (with_reducible refine (number_is x0 _ (by omega) HV.out HK0.out).mono ?_)
  rintro r w2 ⟨rfl, hb⟩
  have hy2 := hb.size
  replace c1 := keepc hb c1
  replace HX := Lib.hid (HX.out.late hb)
  replace HB := Lib.hid (gr_then hb HB.out)
  clear hb c0
  have HT0 := Lib.hid (One.lit w2 2 27 V)
  obtain ⟨m, hm⟩ : ∃ m, w2.heap.size + 1 = m := ⟨_, rfl⟩
  have HM := Lib.hid hm
  have hml : w2.heap.size ≤ m := by omega
  rw [hm] at HT0
  clear hm
  have t1 := fun o1 o2 => keepc (gr_alloc (o := o2) (gr_alloc (o := o1) (gr_refl w2))) c1
  go_wp2_with fail
  rw [HM.out]
  go_loopw [8] (fun iv wr => ∃ (k q : Nat) (A : Option Addr), k ≤ x1.size ∧ iv = .int .i64 (k : Int) ∧ One w2 m 2 27 wr V A k q ((stps x1).take k)) (fun iv _ => x1.size - (intOf iv).toNat)
  case atStart => exact ⟨0, 0, _, by omega, rfl, HT0.out⟩
  case round =>
    obtain ⟨k, q, A, hk, rfl, ho⟩ := hrel
    have HO := Lib.hid ho
    have HBW := Lib.hid ho.bw
    have hsz := ho.bw.size
    have p0 := ho.b.c0
    have p1 := ho.b.c1
    have pf := ho.b.f0 1
    have pm := ho.b.lt
    clear ho
    replace c1 := keepc HBW.out c1
    replace HX := Lib.hid (HX.out.late HBW.out)
    replace HB := Lib.hid (gr_then HBW.out HB.out)
    by_cases hkn : k < x1.size
    case neg =>
      obtain rfl : k = x1.size := by omega
      have hd : decide ((x1.size : Int) < x1.size) = false := decide_eq_false (by omega)
      have HTK := Lib.hid (show (stps x1).take x1.size = stps x1 from List.take_of_length_le (by rw [stps_len]; exact Nat.le_refl _))
      have r0 := HX.out.c0
      have r1 := HX.out.c1
      have rf0 := HX.out.f0 0
      have rf1 := HX.out.f0 1
      have rlt := HX.out.lt
      have HSV := Lib.hid (show SV (.int .i64) wr wr.heap.size A (stps x1) by have h9 := HO.out.r.sv; rw [HTK.out] at h9; exact h9)
      obtain ⟨K1, hK⟩ : ∃ q, okM V (stps x1) = q := ⟨_, rfl⟩
      have HK1 := Lib.hid hK
      clear hK
      have HC := Lib.hid (HO16.out m wr A q p0 p1 HSV.out)
      rw [HK1.out] at HC
      cases K0
      · go_wp2
        refine bodyPost_ret (v := .tuple #[.agg #[.int .i64 (0), .slice none 0 0], .bool false]) (by simp [results, Tryd.results10, go_sem, *]) rfl ?_
        exact ⟨0, [], false, rm_n2 HL.out (by rw [HK0.out]; simp), none, 0, rfl, RS.nil, ((HB.out).setCell (by simp) _).setCell (by simp) _⟩
      cases K1
      · go_wp2_with (go_at_call 15; (with_reducible refine HC.out.mono ?_); rintro e w7 ⟨rfl, rfl⟩)
        refine bodyPost_ret (v := .tuple #[.agg #[.int .i64 (0), .slice none 0 0], .bool false]) (by simp [results, Tryd.results10, go_sem, *]) rfl ?_
        exact ⟨0, [], false, rm_n2 HL.out (by rw [HV.out, HK1.out]; simp), none, 0, rfl, RS.nil, ((HB.out).setCell (by simp) _).setCell (by simp) _⟩
      go_wp2_with (go_at_call 15; (with_reducible refine HC.out.mono ?_); rintro e w7 ⟨rfl, rfl⟩)
      refine bodyPost_ret (v := .tuple #[.agg #[.int .i64 (V), .slice A x1.size q], .bool true]) (by simp [results, Tryd.results10, go_sem, *]) rfl ?_
      exact ⟨V, stps x1, true, by have h9 := rm_t HL.out HK0.out (by rw [HV.out]; exact HK1.out); rw [HV.out] at h9; exact h9, A, q, by rw [stps_len], by have h9 := (HO.out.ret w.heap.size (by omega) (.int .i64 V) (.slice A x1.size q)).wide (show w.heap.size ≤ w2.heap.size by omega) (Nat.le_refl _); rw [HTK.out] at h9; exact h9, ((HB.out).setCell (by simp) _).setCell (by simp) _⟩
    have hd : decide ((k : Int) < x1.size) = true := decide_eq_true (by omega)
    obtain ⟨x, hx⟩ : ∃ x : Int, ((x1[k]'hkn).toNat : Int) = x := ⟨_, rfl⟩
    have HD := Lib.hid (dec_of hx)
    have HTK := Lib.hid (stp_take hkn)
    have t2 := fun o => keepc (gr_alloc (o := o) (gr_refl wr)) p1
    by_cases h43 : x = 43
    case pos =>
      have hd43 : (x == 43) = true := by rw [h43]; rfl
      have HDX := Lib.hid (HD.out.1 h43)
      clear h43
      go_wp2_with (at_builtin; refine wpList_app (by rfl) _ _ 22 (by rfl) (w2.heap.size) 2 i0 (.int .i64 0) 8 Tryd.underlying22 hi hz0 hz1 hz2 (by rfl) (Value.int .i64) (fun _ => rfl) A (k) (q) ((stps x1).take k) (wr.heap.size) (by rfl) (by rw [List.length_take, stps_len]; omega) (HO.out.r.late (gr_alloc (gr_refl wr))) (some ⟨wr.heap.size, 0, none⟩) 1 1 [1] (wr.heap.size + 1) (by rfl) (by rfl) (SV.of_new wr) (fun h => by cases h) (by unfold maxLen; omega) (by omega) (by simp only [World.size_alloc]; omega) ?_; intro A6 c6 w6 hr6 hg6 hk6; obtain ⟨⟨e1, e2⟩, h5⟩ := HO.out.app hr6 hg6 hk6; have H5 := Lib.hid h5; clear h5 hr6 hg6 hk6)
      go_roundw
      case rel => exact ⟨k + 1, c6, A6, by omega, by go_num, by rw [HTK.out, HDX.out]; exact H5.out⟩
      case measure => simp [intOf]; omega
    have hd43 : (x == 43) = false := beq_eq_false_iff_ne.2 h43
    by_cases h45 : x = 45
    case pos =>
      have hd45 : (x == 45) = true := by rw [h45]; rfl
      have HDX := Lib.hid (HD.out.2.1 h45)
      clear h45
      go_wp2_with (at_builtin; refine wpList_app (by rfl) _ _ 22 (by rfl) (w2.heap.size) 2 i0 (.int .i64 0) 8 Tryd.underlying22 hi hz0 hz1 hz2 (by rfl) (Value.int .i64) (fun _ => rfl) A (k) (q) ((stps x1).take k) (wr.heap.size) (by rfl) (by rw [List.length_take, stps_len]; omega) (HO.out.r.late (gr_alloc (gr_refl wr))) (some ⟨wr.heap.size, 0, none⟩) 1 1 [-1] (wr.heap.size + 1) (by rfl) (by rfl) (SV.of_new wr) (fun h => by cases h) (by unfold maxLen; omega) (by omega) (by simp only [World.size_alloc]; omega) ?_; intro A6 c6 w6 hr6 hg6 hk6; obtain ⟨⟨e1, e2⟩, h5⟩ := HO.out.app hr6 hg6 hk6; have H5 := Lib.hid h5; clear h5 hr6 hg6 hk6)
      go_roundw
      case rel => exact ⟨k + 1, c6, A6, by omega, by go_num, by rw [HTK.out, HDX.out]; exact H5.out⟩
      case measure => simp [intOf]; omega
    have hd45 : (x == 45) = false := beq_eq_false_iff_ne.2 h45
    by_cases h48 : x = 48
    case pos =>
      have hd48 : (x == 48) = true := by rw [h48]; rfl
      have HDX := Lib.hid (HD.out.2.2.1 h48)
      clear h48
      go_wp2_with (at_builtin; refine wpList_app (by rfl) _ _ 22 (by rfl) (w2.heap.size) 2 i0 (.int .i64 0) 8 Tryd.underlying22 hi hz0 hz1 hz2 (by rfl) (Value.int .i64) (fun _ => rfl) A (k) (q) ((stps x1).take k) (wr.heap.size) (by rfl) (by rw [List.length_take, stps_len]; omega) (HO.out.r.late (gr_alloc (gr_refl wr))) (some ⟨wr.heap.size, 0, none⟩) 1 1 [0] (wr.heap.size + 1) (by rfl) (by rfl) (SV.of_new wr) (fun h => by cases h) (by unfold maxLen; omega) (by omega) (by simp only [World.size_alloc]; omega) ?_; intro A6 c6 w6 hr6 hg6 hk6; obtain ⟨⟨e1, e2⟩, h5⟩ := HO.out.app hr6 hg6 hk6; have H5 := Lib.hid h5; clear h5 hr6 hg6 hk6)
      go_roundw
      case rel => exact ⟨k + 1, c6, A6, by omega, by go_num, by rw [HTK.out, HDX.out]; exact H5.out⟩
      case measure => simp [intOf]; omega
    have hd48 : (x == 48) = false := beq_eq_false_iff_ne.2 h48
    have HR := Lib.hid (rm_bad HL.out (at_mem hkn) (HD.out.2.2.2 h43 h45 h48))
    clear h43 h45 h48
    have r0 := HX.out.c0
    have r1 := HX.out.c1
    have rf0 := HX.out.f0 0
    have rf1 := HX.out.f0 1
    have rlt := HX.out.lt
    go_wp2
    refine bodyPost_ret (v := .tuple #[.agg #[.int .i64 (0), .slice none 0 0], .bool false]) (by simp [results, Tryd.results10, go_sem, *]) rfl ?_
    exact ⟨0, [], false, HR.out, none, 0, rfl, RS.nil, ((HB.out).setCell (by simp) _).setCell (by simp) _⟩
end Go.Proofs.YtoojnfdphjdocaaDoor
