/- The walk of the law FnChosenSlings: whatever bytes came in, it returns true. No condition. -/
import Derived.Test.YtnmldhkcbekecaaSlSrc
import Derived.Test.YtnmldhkcbekecaaChS
import Derived.Test.YtnmldhkcbekecaaChI
import Derived.Test.YtnmldhkcbekecaaChosenP
import Derived.Test.YtnmldhkcbekecaaGrow
import Derived.BigQuiet
namespace Go.Proofs.Ytnmldhkcbekecaa.fnChosenSlings
open Go.RowKit Go.Deep
theorem f6big_any (A : Option Addr) (n c : Nat) (w : World) : Calls Try.prog 38 #[.slice A n c] w fun e w' => e = .returned (.bool (decide (4096 < (n : Int)))) ∧ w = w' := by
  by_cases h : 4096 < (n : Int)
  · go_enter Try.func38, Try.ntmps38; go_wp2; go_returns; exact ⟨by simp [h], rfl⟩
  · go_enter Try.func38, Try.ntmps38; go_wp2; go_returns; exact ⟨by simp [h], rfl⟩
theorem implCs_is (A : Option Addr) (n c : Nat) (zs : List Int) (B : Option Addr) (d : Nat) (ms : List Int) (wt V C : Int) (w : World) (hn : n ≤ 1048576) (hz : zs.length = n * 4) (h : SI w w.heap.size A zs) (hm : ms.length ≤ 1048576) (h' : SV (.int .i64) w w.heap.size B ms) (hV : csN zs n ms wt = V) (hC : csC zs n ms wt = C) : Calls Try.prog 35 #[.slice A n c, .slice B ms.length d, .int .i64 wt] w fun e w' => e = .returned (.tuple #[.int .i64 V, .int .i64 C]) ∧ Below w.heap.size w w' := by subst hV; subst hC; exact implCs_any A n c zs B d ms wt w hn hz h hm h'
theorem specCs_is (A : Option Addr) (n c : Nat) (zs : List Int) (B : Option Addr) (d : Nat) (ms : List Int) (wt V C : Int) (w : World) (hn : n ≤ 1048576) (hz : zs.length = n * 4) (h : SI w w.heap.size A zs) (hm : ms.length ≤ 1048576) (h' : SV (.int .i64) w w.heap.size B ms) (hV : csN zs n ms wt = V) (hC : csC zs n ms wt = C) : Calls Try.prog 32 #[.slice A n c, .slice B ms.length d, .int .i64 wt] w fun e w' => e = .returned (.tuple #[.int .i64 V, .int .i64 C]) ∧ Below w.heap.size w w' := by subst hV; subst hC; exact specCs_any A n c zs B d ms wt w hn hz h hm h'
theorem implGw_is (l s r m k V C : Int) (w : World) (hV : gwN (okSl l s r m) k l s r = V) (hC : gwE (okSl l s r m) k l s r = C) : Calls Try.prog 28 #[.agg #[.int .i64 l, .int .i64 s, .int .i64 r, .int .i64 m], .int .i64 k] w fun e w' => e = .returned (.tuple #[.int .i64 V, .int .i64 C]) ∧ Below w.heap.size w w' := by subst hV; subst hC; exact implGw_any l s r m k w
theorem specGw_is (l s r m k V C : Int) (w : World) (hV : gwN (okSl l s r m) k l s r = V) (hC : gwE (okSl l s r m) k l s r = C) : Calls Try.prog 27 #[.agg #[.int .i64 l, .int .i64 s, .int .i64 r, .int .i64 m], .int .i64 k] w fun e w' => e = .returned (.tuple #[.int .i64 V, .int .i64 C]) ∧ Below w.heap.size w w' := by subst hV; subst hC; exact specGw_any l s r m k w
theorem implHm_is (l s r m k V C : Int) (w : World) (hV : hookN (okSl l s r m) m k = V) (hC : codeSl (okSl l s r m) k 0 = C) : Calls Try.prog 17 #[.agg #[.int .i64 l, .int .i64 s, .int .i64 r, .int .i64 m], .int .i64 k] w fun e w' => e = .returned (.tuple #[.int .i64 V, .int .i64 C]) ∧ Below w.heap.size w w' := by subst hV; subst hC; exact implHook_any l s r m k w
theorem specHm_is (l s r m k V C : Int) (w : World) (hV : hookN (okSl l s r m) m k = V) (hC : codeSl (okSl l s r m) k 0 = C) : Calls Try.prog 16 #[.agg #[.int .i64 l, .int .i64 s, .int .i64 r, .int .i64 m], .int .i64 k] w fun e w' => e = .returned (.tuple #[.int .i64 V, .int .i64 C]) ∧ Below w.heap.size w w' := by subst hV; subst hC; exact specHook_any l s r m k w
theorem implFu_is (l s r m k V C : Int) (w : World) (hV : fupN (okSl l s r m) k l s r = V) (hC : codeSl (okSl l s r m) k 0 = C) : Calls Try.prog 23 #[.agg #[.int .i64 l, .int .i64 s, .int .i64 r, .int .i64 m], .int .i64 k] w fun e w' => e = .returned (.tuple #[.int .i64 V, .int .i64 C]) ∧ Below w.heap.size w w' := by subst hV; subst hC; exact implForceUp_any l s r m k w
set_option maxHeartbeats 16000000 in
set_option maxRecDepth 20000 in
theorem walk (A : Option Addr) (n c : Nat) (bs : List Int) (w : World) (h : n ≤ 9223372036854775807 ∧ bs.length = n ∧ (∀ x ∈ bs, U8 x) ∧ SV (.int .u8) w w.heap.size A bs) :
    Calls Try.prog 12 #[.slice A n c] w fun e w' => e = .returned (.bool true) ∧ Below w.heap.size w w' := by
  obtain ⟨hn, hl, hq, hs⟩ := h
  obtain rfl : n = bs.length := hl.symm
  have H := Lib.hid hs
  have HQ := Lib.hid hq
  clear hs hq hl
  go_enter Try.func12, Try.ntmps12
  go_wp2_with fail
  go_at_call 38
  (with_reducible refine (f6big_any A bs.length c _).mono ?_)
  rintro e w0 ⟨rfl, rfl⟩
  by_cases hb : 4096 < (bs.length : Int)
  · have hd : decide (4096 < (bs.length : Int)) = true := decide_eq_true hb
    go_wp2
    go_returns
    exact ⟨rfl, gr_refl w⟩
  have hd : decide (4096 < (bs.length : Int)) = false := decide_eq_false hb
  have hn2 : bs.length ≤ 1048576 := by omega
  go_wp2_with fail
  go_at_call 39
  (with_reducible refine (drawCs_any A c bs _ hn2 HQ.out H.out).mono ?_)
  rintro e w1 ⟨A1, n1, c1, zs, A2, n2, c2, ms, wt, rfl, hn1, hz, hsi, hn3, hms, hsv, hwt, hb1⟩
  obtain rfl : n2 = ms.length := hms.symm
  have HZ := Lib.hid hz
  have SI1 := Lib.hid hsi
  have SV1 := Lib.hid hsv
  have HB := Lib.hid hb1
  replace H := Lib.hid (H.out.later hb1)
  clear hz hsi hsv hb1 hwt hd hms
  obtain ⟨V1, hV1⟩ : ∃ v, csN zs n1 ms wt = v := ⟨_, rfl⟩
  obtain ⟨C1, hC1⟩ : ∃ v, csC zs n1 ms wt = v := ⟨_, rfl⟩
  have HV1 := Lib.hid hV1
  have HC1 := Lib.hid hC1
  clear hV1 hC1
  go_wp2_with fail
  go_at_call 35
  (with_reducible refine (implCs_is _ n1 _ zs _ _ ms wt V1 C1 _ (by omega) HZ.out SI1.out (by omega) SV1.out HV1.out HC1.out).mono ?_)
  rintro e w2 ⟨rfl, hb⟩
  replace H := Lib.hid (H.out.later hb)
  replace SI1 := Lib.hid (SI1.out.later hb)
  replace SV1 := Lib.hid (SV1.out.later hb)
  replace HB := Lib.hid (gr_then hb HB.out)
  clear hb
  go_wp2_with fail
  go_at_call 32
  (with_reducible refine (specCs_is _ n1 _ zs _ _ ms wt V1 C1 _ (by omega) HZ.out SI1.out (by omega) SV1.out HV1.out HC1.out).mono ?_)
  rintro e w3 ⟨rfl, hb⟩
  replace H := Lib.hid (H.out.later hb)
  replace SI1 := Lib.hid (SI1.out.later hb)
  replace SV1 := Lib.hid (SV1.out.later hb)
  replace HB := Lib.hid (gr_then hb HB.out)
  clear hb
  go_wp2_with fail
  go_at_call 40
  (with_reducible refine (drawGw_any A c bs _ hn2 HQ.out H.out).mono ?_)
  rintro e w4 ⟨l, s, r, m, fc, rfl, hq, hb⟩
  have HIBS := Lib.hid hq
  clear hq
  replace H := Lib.hid (H.out.later hb)
  replace SI1 := Lib.hid (SI1.out.later hb)
  replace SV1 := Lib.hid (SV1.out.later hb)
  replace HB := Lib.hid (gr_then hb HB.out)
  clear hb
  have hb : Below w4.heap.size w4 (w4.alloc (.cells #[.int .i64 l, .int .i64 s, .int .i64 r, .int .i64 m] 25)) := gr_alloc (gr_refl _)
  have BS := Lib.hid (show BI (w4.alloc (.cells #[.int .i64 l, .int .i64 s, .int .i64 r, .int .i64 m] 25)) w4.heap.size 25 [l, s, r, m] from heap_alloc_new _ _)
  replace H := Lib.hid (H.out.later hb)
  replace SI1 := Lib.hid (SI1.out.later hb)
  replace SV1 := Lib.hid (SV1.out.later hb)
  replace HB := Lib.hid (gr_then hb HB.out)
  clear hb
  have cBS_0 := BS.out.cell 0 (by simp)
  have cBS_1 := BS.out.cell 1 (by simp)
  have cBS_2 := BS.out.cell 2 (by simp)
  have cBS_3 := BS.out.cell 3 (by simp)
  simp only [List.getD_cons_zero, List.getD_cons_succ] at cBS_0 cBS_1 cBS_2 cBS_3
  go_wp2_with fail
  generalize w4.alloc (.cells #[.int .i64 l, .int .i64 s, .int .i64 r, .int .i64 m] 25) = w5 at *
  obtain ⟨gBS, hgBS⟩ : ∃ g, w4.heap.size = g := ⟨_, rfl⟩
  rw [hgBS] at BS ⊢
  clear hgBS
  obtain ⟨G, hG⟩ : ∃ v, gwN (okSl l s r m) fc l s r = v := ⟨_, rfl⟩
  obtain ⟨E, hE⟩ : ∃ v, gwE (okSl l s r m) fc l s r = v := ⟨_, rfl⟩
  have HG := Lib.hid hG
  have HE := Lib.hid hE
  clear hG hE
  go_at_call 28
  (with_reducible refine (implGw_is l s r m fc G E _ HG.out HE.out).mono ?_)
  rintro e w6 ⟨rfl, hb⟩
  clear cBS_0 cBS_1 cBS_2 cBS_3
  replace H := Lib.hid (H.out.later hb)
  replace SI1 := Lib.hid (SI1.out.later hb)
  replace SV1 := Lib.hid (SV1.out.later hb)
  replace HB := Lib.hid (gr_then hb HB.out)
  replace BS := Lib.hid (BS.out.late hb)
  clear hb
  have cBS_0 := BS.out.cell 0 (by simp)
  have cBS_1 := BS.out.cell 1 (by simp)
  have cBS_2 := BS.out.cell 2 (by simp)
  have cBS_3 := BS.out.cell 3 (by simp)
  simp only [List.getD_cons_zero, List.getD_cons_succ] at cBS_0 cBS_1 cBS_2 cBS_3
  go_wp2_with fail
  go_at_call 27
  (with_reducible refine (specGw_is l s r m fc G E _ HG.out HE.out).mono ?_)
  rintro e w7 ⟨rfl, hb⟩
  clear cBS_0 cBS_1 cBS_2 cBS_3
  replace H := Lib.hid (H.out.later hb)
  replace SI1 := Lib.hid (SI1.out.later hb)
  replace SV1 := Lib.hid (SV1.out.later hb)
  replace HB := Lib.hid (gr_then hb HB.out)
  replace BS := Lib.hid (BS.out.late hb)
  clear hb
  have cBS_0 := BS.out.cell 0 (by simp)
  have cBS_1 := BS.out.cell 1 (by simp)
  have cBS_2 := BS.out.cell 2 (by simp)
  have cBS_3 := BS.out.cell 3 (by simp)
  simp only [List.getD_cons_zero, List.getD_cons_succ] at cBS_0 cBS_1 cBS_2 cBS_3
  clear cBS_0 cBS_1 cBS_2 cBS_3
  go_wp2_with fail
  go_at_call 41
  (with_reducible refine (drawHm_any A c bs _ hn2 HQ.out H.out).mono ?_)
  rintro e w8 ⟨l2, s2, r2, m2, wk, rfl, hq, hb⟩
  have HIBH := Lib.hid hq
  clear hq
  replace H := Lib.hid (H.out.later hb)
  replace SI1 := Lib.hid (SI1.out.later hb)
  replace SV1 := Lib.hid (SV1.out.later hb)
  replace HB := Lib.hid (gr_then hb HB.out)
  replace BS := Lib.hid (BS.out.late hb)
  clear hb
  have hb : Below w8.heap.size w8 (w8.alloc (.cells #[.int .i64 l2, .int .i64 s2, .int .i64 r2, .int .i64 m2] 25)) := gr_alloc (gr_refl _)
  have BH := Lib.hid (show BI (w8.alloc (.cells #[.int .i64 l2, .int .i64 s2, .int .i64 r2, .int .i64 m2] 25)) w8.heap.size 25 [l2, s2, r2, m2] from heap_alloc_new _ _)
  replace H := Lib.hid (H.out.later hb)
  replace SI1 := Lib.hid (SI1.out.later hb)
  replace SV1 := Lib.hid (SV1.out.later hb)
  replace HB := Lib.hid (gr_then hb HB.out)
  replace BS := Lib.hid (BS.out.late hb)
  clear hb
  have cBH_0 := BH.out.cell 0 (by simp)
  have cBH_1 := BH.out.cell 1 (by simp)
  have cBH_2 := BH.out.cell 2 (by simp)
  have cBH_3 := BH.out.cell 3 (by simp)
  simp only [List.getD_cons_zero, List.getD_cons_succ] at cBH_0 cBH_1 cBH_2 cBH_3
  go_wp2_with fail
  generalize w8.alloc (.cells #[.int .i64 l2, .int .i64 s2, .int .i64 r2, .int .i64 m2] 25) = w9 at *
  obtain ⟨gBH, hgBH⟩ : ∃ g, w8.heap.size = g := ⟨_, rfl⟩
  rw [hgBH] at BH ⊢
  clear hgBH
  obtain ⟨M2, hM2⟩ : ∃ v, hookN (okSl l2 s2 r2 m2) m2 wk = v := ⟨_, rfl⟩
  obtain ⟨E2, hE2⟩ : ∃ v, codeSl (okSl l2 s2 r2 m2) wk 0 = v := ⟨_, rfl⟩
  have HM2 := Lib.hid hM2
  have HE2 := Lib.hid hE2
  clear hM2 hE2
  go_at_call 17
  (with_reducible refine (implHm_is l2 s2 r2 m2 wk M2 E2 _ HM2.out HE2.out).mono ?_)
  rintro e w10 ⟨rfl, hb⟩
  clear cBH_0 cBH_1 cBH_2 cBH_3
  replace H := Lib.hid (H.out.later hb)
  replace SI1 := Lib.hid (SI1.out.later hb)
  replace SV1 := Lib.hid (SV1.out.later hb)
  replace HB := Lib.hid (gr_then hb HB.out)
  replace BS := Lib.hid (BS.out.late hb)
  replace BH := Lib.hid (BH.out.late hb)
  clear hb
  have cBH_0 := BH.out.cell 0 (by simp)
  have cBH_1 := BH.out.cell 1 (by simp)
  have cBH_2 := BH.out.cell 2 (by simp)
  have cBH_3 := BH.out.cell 3 (by simp)
  simp only [List.getD_cons_zero, List.getD_cons_succ] at cBH_0 cBH_1 cBH_2 cBH_3
  go_wp2_with fail
  go_at_call 16
  (with_reducible refine (specHm_is l2 s2 r2 m2 wk M2 E2 _ HM2.out HE2.out).mono ?_)
  rintro e w11 ⟨rfl, hb⟩
  clear cBH_0 cBH_1 cBH_2 cBH_3
  replace H := Lib.hid (H.out.later hb)
  replace SI1 := Lib.hid (SI1.out.later hb)
  replace SV1 := Lib.hid (SV1.out.later hb)
  replace HB := Lib.hid (gr_then hb HB.out)
  replace BS := Lib.hid (BS.out.late hb)
  replace BH := Lib.hid (BH.out.late hb)
  clear hb
  have cBS_0 := BS.out.cell 0 (by simp)
  have cBS_1 := BS.out.cell 1 (by simp)
  have cBS_2 := BS.out.cell 2 (by simp)
  have cBS_3 := BS.out.cell 3 (by simp)
  simp only [List.getD_cons_zero, List.getD_cons_succ] at cBS_0 cBS_1 cBS_2 cBS_3
  by_cases hE0 : E = 0
  case neg =>
    have hd : (E == 0) = false := beq_eq_false_iff_ne.2 hE0
    by_cases hC0 : C1 = 0
    case neg => have hd : (C1 != 0) = true := bne_iff_ne.2 hC0; go_wp2; go_returns; exact ⟨rfl, HB.out⟩
    subst hC0
    obtain ⟨hml, hv0, hv1⟩ := cs_rngN HC1.out
    rw [HV1.out] at hv0 hv1
    obtain ⟨mm, rfl⟩ := Int.eq_ofNat_of_zero_le hv0
    have HML := Lib.hid hml
    have hmm : mm < n1 := by omega
    go_wp2_with fail
    go_loopw [26] (fun iv wr => ∃ k : Nat, k ≤ n1 ∧ iv = .int .i64 (k : Int) ∧ Below w11.heap.size w11 wr) (fun iv _ => n1 - (intOf iv).toNat)
    case atStart => exact ⟨0, by omega, rfl, gr_refl _⟩
    case round =>
      obtain ⟨k, hk, rfl, hbX⟩ := hrel
      have HX := Lib.hid hbX
      clear hbX
      by_cases hkn : k < n1
      case neg => have hd : decide ((k : Int) < n1) = false := decide_eq_false (by omega); go_wp2; go_returns; exact ⟨rfl, gr_then HX.out HB.out⟩
      have hd : decide ((k : Int) < n1) = true := decide_eq_true (by omega)
      obtain ⟨b1, o1, hA1, hB1, p0, p1, p2, p3⟩ := si4 (SI1.out.later HX.out) HZ.out hkn
      obtain ⟨b1', o1', hA1', hB1', _, _, _, q3⟩ := si4 (SI1.out.later HX.out) HZ.out hmm
      obtain ⟨hbb, hoo⟩ : b1' = b1 ∧ o1' = o1 := by rw [hA1] at hA1'; simp at hA1'; exact ⟨hA1'.1.symm, hA1'.2.symm⟩
      subst hbb; subst hoo; clear hA1' hB1'
      subst hA1
      obtain ⟨x, hx⟩ := at_of_lt (xs := ms) (k := k) (by rw [HML.out]; exact hkn)
      obtain ⟨b2, o2, hA2, hB2, hcx⟩ := (SV1.out.later HX.out).at_ hx
      subst hA2
      have HGX := Lib.hid (show ms.getD k 0 = x by simp [List.getD_eq_getElem?_getD, hx])
      clear hx
      obtain ⟨G7, hG7⟩ : ∃ v, gwN (okSl (slL zs k) (slS zs k) (slR zs k) (slM zs k)) x (slL zs k) (slS zs k) (slR zs k) = v := ⟨_, rfl⟩
      obtain ⟨E7, hE7⟩ : ∃ v, gwE (okSl (slL zs k) (slS zs k) (slR zs k) (slM zs k)) x (slL zs k) (slS zs k) (slR zs k) = v := ⟨_, rfl⟩
      have HG7 := Lib.hid hG7
      have HE7 := Lib.hid hE7
      clear hG7 hE7
      have hnl : E7 = 0 → wt ≤ G7 → ¬ slM zs k < slM zs mm := fun h1 h2 => by
        subst h1
        have h9 := chosen_least HC1.out hkn (by rw [HGX.out]; exact HE7.out) (by rw [HGX.out]; unfold okK; rw [HG7.out]; exact h2)
        rw [HV1.out, Int.toNat_natCast] at h9
        exact h9
      have HNL := Lib.hid hnl
      clear hnl
      generalize slL zs k = xl at *
      generalize slS zs k = xs at *
      generalize slR zs k = xr at *
      generalize slM zs k = xm at *
      generalize slM zs mm = ym at *
      go_wp2
      have gw0 : ∀ X, (grw (wr) X).cell? ⟨b1', o1' + k * 4, none⟩ = some (.int .i64 xl) := grw_cell (by assumption)
      have gw1 : ∀ X, (grw (wr) X).cell? ⟨b1', o1' + k * 4 + 1, none⟩ = some (.int .i64 xs) := grw_cell (by assumption)
      have gw2 : ∀ X, (grw (wr) X).cell? ⟨b1', o1' + k * 4 + 2, none⟩ = some (.int .i64 xr) := grw_cell (by assumption)
      have gw3 : ∀ X, (grw (wr) X).cell? ⟨b1', o1' + k * 4 + 3, none⟩ = some (.int .i64 xm) := grw_cell (by assumption)
      have gw4 : ∀ X, (grw (wr) X).cell? ⟨b2, o2 + k, none⟩ = some (.int .i64 x) := grw_cell (by assumption)
      refine wp_region_grow (by kernel_rfl) (by kernel_rfl) ?_
      repeat (go_big_quiet_step (first | (go_at_call 28; exact grow_of (implGw_is xl xs xr xm x G7 E7 _ HG7.out HE7.out)) | fail))
      refine wpQuiet_nil ?_
      rintro wq ⟨X, hX⟩
      have hQ_wq : Below (wr).heap.size (wr) wq := by rw [hX]; exact grw_below _ _
      clear hX gw0 gw1 gw2 gw3 gw4
      have HQ2 := Lib.hid hQ_wq
      have r0 := keepc hQ_wq p3
      have r1 := keepc hQ_wq q3
      clear p0 p1 p2 p3 q3 hcx hQ_wq
      have FIN : ∀ n : Nat, Below w11.heap.size w11 (wq.drewN n) := fun n => gr_drewN (gr_then HQ2.out HX.out)
      have HF := Lib.hid FIN
      clear FIN
      by_cases h7 : E7 = 0
      case neg =>
        have hd7 : (E7 == 0) = false := beq_eq_false_iff_ne.2 h7
        go_wp2
        go_quiet (fail)
        go_wp2
        go_roundw
        case rel => exact ⟨k + 1, by omega, by go_num, HF.out _⟩
        case measure => simp [intOf]; omega
      subst h7
      by_cases h8 : wt ≤ G7
      case neg =>
        have hd8 : decide (wt ≤ G7) = false := decide_eq_false h8
        go_wp2
        go_quiet (fail)
        go_wp2
        go_roundw
        case rel => exact ⟨k + 1, by omega, by go_num, HF.out _⟩
        case measure => simp [intOf]; omega
      · have hd8 : decide (wt ≤ G7) = true := decide_eq_true h8
        have hd9 : decide (xm < ym) = false := decide_eq_false (by have := HNL.out rfl h8; omega)
        go_wp2
        go_quiet (fail)
        go_wp2
        go_roundw
        case rel => exact ⟨k + 1, by omega, by go_num, HF.out _⟩
        case measure => simp [intOf]; omega
  subst hE0
  have hg := gw_bd HE.out
  rw [HG.out] at hg
  have hok := (gw_ok HE.out).1
  have hi := inI_y hg
  have HU1 := Lib.hid (show fupN (okSl l s r m) G l s r = upSl G l s r from if_pos ⟨hok, hi⟩)
  have HC5 := Lib.hid (codeSl_y hok hi in0)
  have hu1 : upSl G l s r ≤ fc := gw_holds HE.out (by rw [HG.out]; exact Int.le_refl _)
  have hm5 := fun h9 : G < 50000 => gw_more HE.out (by rw [HG.out]; exact h9)
  rw [HG.out] at hm5
  have HM5 := Lib.hid hm5
  have HOK := Lib.hid hok
  clear hok hi hm5
  generalize upSl G l s r = U1 at *
  have hd5 : decide (fc < U1) = false := decide_eq_false (by omega)
  go_wp2_with fail
  go_at_call 23
  (with_reducible refine (implFu_is l s r m G U1 0 _ HU1.out HC5.out).mono ?_)
  rintro e w12 ⟨rfl, hb⟩
  clear cBS_0 cBS_1 cBS_2 cBS_3
  replace H := Lib.hid (H.out.later hb)
  replace SI1 := Lib.hid (SI1.out.later hb)
  replace SV1 := Lib.hid (SV1.out.later hb)
  replace HB := Lib.hid (gr_then hb HB.out)
  replace BS := Lib.hid (BS.out.late hb)
  replace BH := Lib.hid (BH.out.late hb)
  clear hb
  have cBS_0 := BS.out.cell 0 (by simp)
  have cBS_1 := BS.out.cell 1 (by simp)
  have cBS_2 := BS.out.cell 2 (by simp)
  have cBS_3 := BS.out.cell 3 (by simp)
  simp only [List.getD_cons_zero, List.getD_cons_succ] at cBS_0 cBS_1 cBS_2 cBS_3
  by_cases h5 : G < 50000
  · have hi := inI_y (n := G + 1) (a := 0) (b := 50000) (by omega)
    have HU2 := Lib.hid (show fupN (okSl l s r m) (G + 1) l s r = upSl (G + 1) l s r from if_pos ⟨HOK.out, hi⟩)
    have HC6 := Lib.hid (codeSl_y HOK.out hi in0)
    have hu2 := HM5.out h5
    clear hi
    generalize upSl (G + 1) l s r = U2 at *
    have hd6 : decide (U2 ≤ fc) = false := decide_eq_false (by omega)
    go_wp2_with fail
    go_at_call 23
    (with_reducible refine (implFu_is l s r m (G + 1) U2 0 _ HU2.out HC6.out).mono ?_)
    rintro e w13 ⟨rfl, hb⟩
    clear cBS_0 cBS_1 cBS_2 cBS_3
    replace H := Lib.hid (H.out.later hb)
    replace SI1 := Lib.hid (SI1.out.later hb)
    replace SV1 := Lib.hid (SV1.out.later hb)
    replace HB := Lib.hid (gr_then hb HB.out)
    replace BS := Lib.hid (BS.out.late hb)
    replace BH := Lib.hid (BH.out.late hb)
    clear hb
    by_cases hC0 : C1 = 0
    case neg => have hd : (C1 != 0) = true := bne_iff_ne.2 hC0; go_wp2; go_returns; exact ⟨rfl, HB.out⟩
    subst hC0
    obtain ⟨hml, hv0, hv1⟩ := cs_rngN HC1.out
    rw [HV1.out] at hv0 hv1
    obtain ⟨mm, rfl⟩ := Int.eq_ofNat_of_zero_le hv0
    have HML := Lib.hid hml
    have hmm : mm < n1 := by omega
    go_wp2_with fail
    go_loopw [26] (fun iv wr => ∃ k : Nat, k ≤ n1 ∧ iv = .int .i64 (k : Int) ∧ Below w13.heap.size w13 wr) (fun iv _ => n1 - (intOf iv).toNat)
    case atStart => exact ⟨0, by omega, rfl, gr_refl _⟩
    case round =>
      obtain ⟨k, hk, rfl, hbX⟩ := hrel
      have HX := Lib.hid hbX
      clear hbX
      by_cases hkn : k < n1
      case neg => have hd : decide ((k : Int) < n1) = false := decide_eq_false (by omega); go_wp2; go_returns; exact ⟨rfl, gr_then HX.out HB.out⟩
      have hd : decide ((k : Int) < n1) = true := decide_eq_true (by omega)
      obtain ⟨b1, o1, hA1, hB1, p0, p1, p2, p3⟩ := si4 (SI1.out.later HX.out) HZ.out hkn
      obtain ⟨b1', o1', hA1', hB1', _, _, _, q3⟩ := si4 (SI1.out.later HX.out) HZ.out hmm
      obtain ⟨hbb, hoo⟩ : b1' = b1 ∧ o1' = o1 := by rw [hA1] at hA1'; simp at hA1'; exact ⟨hA1'.1.symm, hA1'.2.symm⟩
      subst hbb; subst hoo; clear hA1' hB1'
      subst hA1
      obtain ⟨x, hx⟩ := at_of_lt (xs := ms) (k := k) (by rw [HML.out]; exact hkn)
      obtain ⟨b2, o2, hA2, hB2, hcx⟩ := (SV1.out.later HX.out).at_ hx
      subst hA2
      have HGX := Lib.hid (show ms.getD k 0 = x by simp [List.getD_eq_getElem?_getD, hx])
      clear hx
      obtain ⟨G7, hG7⟩ : ∃ v, gwN (okSl (slL zs k) (slS zs k) (slR zs k) (slM zs k)) x (slL zs k) (slS zs k) (slR zs k) = v := ⟨_, rfl⟩
      obtain ⟨E7, hE7⟩ : ∃ v, gwE (okSl (slL zs k) (slS zs k) (slR zs k) (slM zs k)) x (slL zs k) (slS zs k) (slR zs k) = v := ⟨_, rfl⟩
      have HG7 := Lib.hid hG7
      have HE7 := Lib.hid hE7
      clear hG7 hE7
      have hnl : E7 = 0 → wt ≤ G7 → ¬ slM zs k < slM zs mm := fun h1 h2 => by
        subst h1
        have h9 := chosen_least HC1.out hkn (by rw [HGX.out]; exact HE7.out) (by rw [HGX.out]; unfold okK; rw [HG7.out]; exact h2)
        rw [HV1.out, Int.toNat_natCast] at h9
        exact h9
      have HNL := Lib.hid hnl
      clear hnl
      generalize slL zs k = xl at *
      generalize slS zs k = xs at *
      generalize slR zs k = xr at *
      generalize slM zs k = xm at *
      generalize slM zs mm = ym at *
      go_wp2
      have gw0 : ∀ X, (grw (wr) X).cell? ⟨b1', o1' + k * 4, none⟩ = some (.int .i64 xl) := grw_cell (by assumption)
      have gw1 : ∀ X, (grw (wr) X).cell? ⟨b1', o1' + k * 4 + 1, none⟩ = some (.int .i64 xs) := grw_cell (by assumption)
      have gw2 : ∀ X, (grw (wr) X).cell? ⟨b1', o1' + k * 4 + 2, none⟩ = some (.int .i64 xr) := grw_cell (by assumption)
      have gw3 : ∀ X, (grw (wr) X).cell? ⟨b1', o1' + k * 4 + 3, none⟩ = some (.int .i64 xm) := grw_cell (by assumption)
      have gw4 : ∀ X, (grw (wr) X).cell? ⟨b2, o2 + k, none⟩ = some (.int .i64 x) := grw_cell (by assumption)
      refine wp_region_grow (by kernel_rfl) (by kernel_rfl) ?_
      repeat (go_big_quiet_step (first | (go_at_call 28; exact grow_of (implGw_is xl xs xr xm x G7 E7 _ HG7.out HE7.out)) | fail))
      refine wpQuiet_nil ?_
      rintro wq ⟨X, hX⟩
      have hQ_wq : Below (wr).heap.size (wr) wq := by rw [hX]; exact grw_below _ _
      clear hX gw0 gw1 gw2 gw3 gw4
      have HQ2 := Lib.hid hQ_wq
      have r0 := keepc hQ_wq p3
      have r1 := keepc hQ_wq q3
      clear p0 p1 p2 p3 q3 hcx hQ_wq
      have FIN : ∀ n : Nat, Below w13.heap.size w13 (wq.drewN n) := fun n => gr_drewN (gr_then HQ2.out HX.out)
      have HF := Lib.hid FIN
      clear FIN
      by_cases h7 : E7 = 0
      case neg =>
        have hd7 : (E7 == 0) = false := beq_eq_false_iff_ne.2 h7
        go_wp2
        go_quiet (fail)
        go_wp2
        go_roundw
        case rel => exact ⟨k + 1, by omega, by go_num, HF.out _⟩
        case measure => simp [intOf]; omega
      subst h7
      by_cases h8 : wt ≤ G7
      case neg =>
        have hd8 : decide (wt ≤ G7) = false := decide_eq_false h8
        go_wp2
        go_quiet (fail)
        go_wp2
        go_roundw
        case rel => exact ⟨k + 1, by omega, by go_num, HF.out _⟩
        case measure => simp [intOf]; omega
      · have hd8 : decide (wt ≤ G7) = true := decide_eq_true h8
        have hd9 : decide (xm < ym) = false := decide_eq_false (by have := HNL.out rfl h8; omega)
        go_wp2
        go_quiet (fail)
        go_wp2
        go_roundw
        case rel => exact ⟨k + 1, by omega, by go_num, HF.out _⟩
        case measure => simp [intOf]; omega
  · obtain rfl : G = 50000 := by omega
    have hi := inI_n (n := 50001) (a := 0) (b := 50000) (by omega)
    have HU2 := Lib.hid (show fupN (okSl l s r m) 50001 l s r = 0 from if_neg (fun h9 => by rw [hi] at h9; simp at h9))
    have HC6 := Lib.hid (codeSl_r (k := 0) HOK.out (.inl hi))
    clear hi
    go_wp2_with fail
    go_at_call 23
    (with_reducible refine (implFu_is l s r m 50001 0 2 _ HU2.out HC6.out).mono ?_)
    rintro e w13 ⟨rfl, hb⟩
    clear cBS_0 cBS_1 cBS_2 cBS_3
    replace H := Lib.hid (H.out.later hb)
    replace SI1 := Lib.hid (SI1.out.later hb)
    replace SV1 := Lib.hid (SV1.out.later hb)
    replace HB := Lib.hid (gr_then hb HB.out)
    replace BS := Lib.hid (BS.out.late hb)
    replace BH := Lib.hid (BH.out.late hb)
    clear hb
    by_cases hC0 : C1 = 0
    case neg => have hd : (C1 != 0) = true := bne_iff_ne.2 hC0; go_wp2; go_returns; exact ⟨rfl, HB.out⟩
    subst hC0
    obtain ⟨hml, hv0, hv1⟩ := cs_rngN HC1.out
    rw [HV1.out] at hv0 hv1
    obtain ⟨mm, rfl⟩ := Int.eq_ofNat_of_zero_le hv0
    have HML := Lib.hid hml
    have hmm : mm < n1 := by omega
    go_wp2_with fail
    go_loopw [26] (fun iv wr => ∃ k : Nat, k ≤ n1 ∧ iv = .int .i64 (k : Int) ∧ Below w13.heap.size w13 wr) (fun iv _ => n1 - (intOf iv).toNat)
    case atStart => exact ⟨0, by omega, rfl, gr_refl _⟩
    case round =>
      obtain ⟨k, hk, rfl, hbX⟩ := hrel
      have HX := Lib.hid hbX
      clear hbX
      by_cases hkn : k < n1
      case neg => have hd : decide ((k : Int) < n1) = false := decide_eq_false (by omega); go_wp2; go_returns; exact ⟨rfl, gr_then HX.out HB.out⟩
      have hd : decide ((k : Int) < n1) = true := decide_eq_true (by omega)
      obtain ⟨b1, o1, hA1, hB1, p0, p1, p2, p3⟩ := si4 (SI1.out.later HX.out) HZ.out hkn
      obtain ⟨b1', o1', hA1', hB1', _, _, _, q3⟩ := si4 (SI1.out.later HX.out) HZ.out hmm
      obtain ⟨hbb, hoo⟩ : b1' = b1 ∧ o1' = o1 := by rw [hA1] at hA1'; simp at hA1'; exact ⟨hA1'.1.symm, hA1'.2.symm⟩
      subst hbb; subst hoo; clear hA1' hB1'
      subst hA1
      obtain ⟨x, hx⟩ := at_of_lt (xs := ms) (k := k) (by rw [HML.out]; exact hkn)
      obtain ⟨b2, o2, hA2, hB2, hcx⟩ := (SV1.out.later HX.out).at_ hx
      subst hA2
      have HGX := Lib.hid (show ms.getD k 0 = x by simp [List.getD_eq_getElem?_getD, hx])
      clear hx
      obtain ⟨G7, hG7⟩ : ∃ v, gwN (okSl (slL zs k) (slS zs k) (slR zs k) (slM zs k)) x (slL zs k) (slS zs k) (slR zs k) = v := ⟨_, rfl⟩
      obtain ⟨E7, hE7⟩ : ∃ v, gwE (okSl (slL zs k) (slS zs k) (slR zs k) (slM zs k)) x (slL zs k) (slS zs k) (slR zs k) = v := ⟨_, rfl⟩
      have HG7 := Lib.hid hG7
      have HE7 := Lib.hid hE7
      clear hG7 hE7
      have hnl : E7 = 0 → wt ≤ G7 → ¬ slM zs k < slM zs mm := fun h1 h2 => by
        subst h1
        have h9 := chosen_least HC1.out hkn (by rw [HGX.out]; exact HE7.out) (by rw [HGX.out]; unfold okK; rw [HG7.out]; exact h2)
        rw [HV1.out, Int.toNat_natCast] at h9
        exact h9
      have HNL := Lib.hid hnl
      clear hnl
      generalize slL zs k = xl at *
      generalize slS zs k = xs at *
      generalize slR zs k = xr at *
      generalize slM zs k = xm at *
      generalize slM zs mm = ym at *
      go_wp2
      have gw0 : ∀ X, (grw (wr) X).cell? ⟨b1', o1' + k * 4, none⟩ = some (.int .i64 xl) := grw_cell (by assumption)
      have gw1 : ∀ X, (grw (wr) X).cell? ⟨b1', o1' + k * 4 + 1, none⟩ = some (.int .i64 xs) := grw_cell (by assumption)
      have gw2 : ∀ X, (grw (wr) X).cell? ⟨b1', o1' + k * 4 + 2, none⟩ = some (.int .i64 xr) := grw_cell (by assumption)
      have gw3 : ∀ X, (grw (wr) X).cell? ⟨b1', o1' + k * 4 + 3, none⟩ = some (.int .i64 xm) := grw_cell (by assumption)
      have gw4 : ∀ X, (grw (wr) X).cell? ⟨b2, o2 + k, none⟩ = some (.int .i64 x) := grw_cell (by assumption)
      refine wp_region_grow (by kernel_rfl) (by kernel_rfl) ?_
      repeat (go_big_quiet_step (first | (go_at_call 28; exact grow_of (implGw_is xl xs xr xm x G7 E7 _ HG7.out HE7.out)) | fail))
      refine wpQuiet_nil ?_
      rintro wq ⟨X, hX⟩
      have hQ_wq : Below (wr).heap.size (wr) wq := by rw [hX]; exact grw_below _ _
      clear hX gw0 gw1 gw2 gw3 gw4
      have HQ2 := Lib.hid hQ_wq
      have r0 := keepc hQ_wq p3
      have r1 := keepc hQ_wq q3
      clear p0 p1 p2 p3 q3 hcx hQ_wq
      have FIN : ∀ n : Nat, Below w13.heap.size w13 (wq.drewN n) := fun n => gr_drewN (gr_then HQ2.out HX.out)
      have HF := Lib.hid FIN
      clear FIN
      by_cases h7 : E7 = 0
      case neg =>
        have hd7 : (E7 == 0) = false := beq_eq_false_iff_ne.2 h7
        go_wp2
        go_quiet (fail)
        go_wp2
        go_roundw
        case rel => exact ⟨k + 1, by omega, by go_num, HF.out _⟩
        case measure => simp [intOf]; omega
      subst h7
      by_cases h8 : wt ≤ G7
      case neg =>
        have hd8 : decide (wt ≤ G7) = false := decide_eq_false h8
        go_wp2
        go_quiet (fail)
        go_wp2
        go_roundw
        case rel => exact ⟨k + 1, by omega, by go_num, HF.out _⟩
        case measure => simp [intOf]; omega
      · have hd8 : decide (wt ≤ G7) = true := decide_eq_true h8
        have hd9 : decide (xm < ym) = false := decide_eq_false (by have := HNL.out rfl h8; omega)
        go_wp2
        go_quiet (fail)
        go_wp2
        go_roundw
        case rel => exact ⟨k + 1, by omega, by go_num, HF.out _⟩
        case measure => simp [intOf]; omega
end Go.Proofs.Ytnmldhkcbekecaa.fnChosenSlings
