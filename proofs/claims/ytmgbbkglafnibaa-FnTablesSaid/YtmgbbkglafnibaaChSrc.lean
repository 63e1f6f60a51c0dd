/- The draws of charts: a drawn chart is valid. -/
import Derived.Test.YtmgbbkglafnibaaSrc
import Derived.Test.YtmgbbkglafnibaaAppM
import Derived.Test.YtmgbbkglafnibaaCht
namespace Go.Proofs.Ytmgbbkglafnibaa
open Go.RowKit Go.Deep
theorem rdC_lt {o : List Int} {k j : Nat} (r ld : Int) (h : o.length = k * 2) (hj : j < k) : rdC (o ++ [r, ld]) j = rdC o j := by unfold rdC; rw [List.getD_eq_getElem?_getD, List.getD_eq_getElem?_getD, List.getElem?_append_left (by omega)]
theorem ldC_lt {o : List Int} {k j : Nat} (r ld : Int) (h : o.length = k * 2) (hj : j < k) : ldC (o ++ [r, ld]) j = ldC o j := by unfold ldC; rw [List.getD_eq_getElem?_getD, List.getD_eq_getElem?_getD, List.getElem?_append_left (by omega)]
theorem rdC_new {o : List Int} {k : Nat} (r ld : Int) (h : o.length = k * 2) : rdC (o ++ [r, ld]) k = r := by
  unfold rdC
  rw [List.getD_eq_getElem?_getD, List.getElem?_append_right (by omega), show k * 2 - o.length = 0 by omega]
  rfl
theorem ldC_new {o : List Int} {k : Nat} (r ld : Int) (h : o.length = k * 2) : ldC (o ++ [r, ld]) k = ld := by
  unfold ldC
  rw [List.getD_eq_getElem?_getD, List.getElem?_append_right (by omega), show k * 2 + 1 - o.length = 1 by omega]
  rfl
theorem stepOk_lt {o : List Int} {k j : Nat} (r ld : Int) (h : o.length = k * 2) (hj : j < k) (hs : stepOk o j = true) : stepOk (o ++ [r, ld]) j = true := by
  unfold stepOk at *
  rw [rdC_lt r ld h hj, ldC_lt r ld h hj, rdC_lt r ld h (show j - 1 < k by omega), ldC_lt r ld h (show j - 1 < k by omega)]
  exact hs
theorem stepOk_new {o : List Int} {k : Nat} {r ld r0 : Int} (h : o.length = k * 2) (h1 : 1 ≤ r ∧ r ≤ 1000) (h2 : 0 ≤ ld ∧ ld ≤ 50000) (h3 : 0 < k → rdC o (k - 1) = r0 ∧ ld ≤ ldC o (k - 1)) (h4 : r0 < r) : stepOk (o ++ [r, ld]) k = true := by
  unfold stepOk
  rw [rdC_new r ld h, ldC_new r ld h, inI_y h1, inI_y h2]
  by_cases hk : k = 0
  · simp [hk]
  · rw [rdC_lt r ld h (show k - 1 < k by omega), ldC_lt r ld h (show k - 1 < k by omega)]
    have := h3 (by omega)
    simp
    omega
set_option maxHeartbeats 8000000 in
set_option maxRecDepth 20000 in
theorem drawCh_any (p N : Nat) (most : Int) (w : World) (hN : N + 30 ≤ 1000000) (hmost : 21 ≤ most ∧ most ≤ 1000) (h : Src w p N) : Calls Try.prog 86 #[.pointer (some ⟨p, 0, none⟩), .int .i64 most] w fun e w' => ∃ (A : Option Addr) (n c : Nat) (zs : List Int), e = .returned (.slice A n c) ∧ 1 ≤ n ∧ RM 2 107 w' w.heap.size w'.heap.size A n c zs ∧ okCh zs n = true ∧ rdC zs (n - 1) ≤ most ∧ Src w' p (N + 30) ∧ Only p (p + 1) w w' := by
  have hpl := h.lt
  have H := Lib.hid (h.alloc (.cells #[] 107))
  have HO := Lib.hid ((Only.refl p (p + 1) w).alloc (.cells #[] 107))
  have R0 := Lib.hid (show RM 2 107 (w.alloc (.cells #[] 107)) w.heap.size (w.alloc (.cells #[] 107)).heap.size (some ⟨w.heap.size, 0, none⟩) 0 0 [] from (RM.lit0 w).top)
  have hz0 : w.heap.size + 1 ≤ (w.alloc (.cells #[] 107)).heap.size := by simp
  clear h
  obtain ⟨i0, hi, zi0, zi1, zi2⟩ := info_parts (show (Try.prog.info? 107).map (fun i => (i.zero, i.size, i.bytes)) = some (some (.agg #[.int .i64 0, .int .i64 0]), 2, 16) by kernel_rfl)
  go_enter Try.func86, Try.ntmps86; go_wp2_with fail
  generalize w.alloc (.cells #[] 107) = v0 at *
  go_at_call 74
  (with_reducible refine (pick_any p _ _ _ (by omega) (i64_of (by omega)) H.out).mono ?_)
  rintro e w1 ⟨x1, rfl, hx1, hy1, hm1, hn1, hs, ho⟩
  have HS1 := Lib.hid hs
  have HO1 := Lib.hid ho
  have hz1 := ho.size
  clear hs ho
  replace R0 := Lib.hid ((R0.out.only HO1.out (.inr (by omega))).wide (Nat.le_refl _) hz1)
  replace HO := Lib.hid (HO.out.trans HO1.out)
  go_wp2_with fail
  go_at_call 74
  (with_reducible refine (pick_any p _ _ _ (by omega) (i64_of (by omega)) HS1.out).mono ?_)
  rintro e w2 ⟨x2, rfl, hx2, hy2, hm2, hn2, hs, ho⟩
  have HS2 := Lib.hid hs
  have HO2 := Lib.hid ho
  have hz2 := ho.size
  clear hs ho
  replace R0 := Lib.hid ((R0.out.only HO2.out (.inr (by omega))).wide (Nat.le_refl _) hz2)
  replace HO := Lib.hid (HO.out.trans HO2.out)
  go_wp2
  go_loopw [5, 6, 7, 8] (fun ov rv lv kv wr => ∃ (j : Nat) (A1 : Option Addr) (c1 : Nat) (o : List Int) (r ld kk : Int), ov = .slice A1 j c1 ∧ rv = .int .i64 r ∧ lv = .int .i64 ld ∧ kv = .int .i64 kk ∧ (0 ≤ kk ∧ kk + j ≤ 5 ∧ (j = 0 → 1 ≤ kk)) ∧ (20 ≤ r ∧ r ≤ most ∧ (j = 0 → r = 20)) ∧ (0 ≤ ld ∧ ld ≤ 11000) ∧ Hid ((∀ i, i < j → stepOk o i = true) ∧ (0 < j → rdC o (j - 1) = r ∧ ld ≤ ldC o (j - 1))) ∧ RM 2 107 wr w.heap.size wr.heap.size A1 j c1 o ∧ Src wr p (N + 4 + 4 * j) ∧ Only p (p + 1) w wr) (fun _ _ _ kv _ => (intOf kv).toNat)
  case atStart => exact ⟨0, _, 0, [], 20, _, _, rfl, rfl, rfl, rfl, by omega, by omega, by omega, ⟨fun i hi => by omega, fun h9 => by omega⟩, R0.out, HS2.out, HO.out⟩
  case round =>
    obtain ⟨j, A1, c1, o, r, ld, kk, rfl, rfl, rfl, rfl, hk, hr, hl, HV, hrm, hs, ho⟩ := hrel
    have HR := Lib.hid hrm
    have HSr := Lib.hid hs
    have HOr := Lib.hid ho
    have hzr := ho.size
    clear hrm hs ho
    by_cases hg : 0 < kk ∧ r < most
    case neg =>
      have hj : 1 ≤ j := by
        rcases Nat.eq_zero_or_pos j with h9 | h9
        · have := hk.2.2 h9; have := hr.2.2 h9; omega
        · exact h9
      have hfin := Lib.hid (show okCh o j = true by rw [okCh_end HV.out.1]; exact inI_y (by omega))
      have hlast := Lib.hid (show rdC o (j - 1) ≤ most by rw [(HV.out.2 (by omega)).1]; exact hr.2.1)
      by_cases hk1 : 0 < kk
      · have hd1 := decide_eq_true hk1
        have hd2 : decide (r < most) = false := decide_eq_false (by omega)
        go_wp2
        go_returns
        first | exact ⟨A1, j, c1, o, rfl, hj, HR.out, hfin.out, hlast.out, HSr.out.more (by omega), HOr.out⟩ | exact ⟨A1, j, c1, rfl, hj, o, HR.out, hfin.out, hlast.out, HSr.out.more (by omega), HOr.out⟩
      · have hd1 := decide_eq_false hk1
        go_wp2
        go_returns
        first | exact ⟨A1, j, c1, o, rfl, hj, HR.out, hfin.out, hlast.out, HSr.out.more (by omega), HOr.out⟩ | exact ⟨A1, j, c1, rfl, hj, o, HR.out, hfin.out, hlast.out, HSr.out.more (by omega), HOr.out⟩
    have hd1 := decide_eq_true hg.1
    have hd2 := decide_eq_true hg.2
    go_wp2_with fail
    go_at_call 74
    (with_reducible refine (pick_any p _ _ _ (by omega) (i64_of (by omega)) HSr.out).mono ?_)
    rintro e w3 ⟨x3, rfl, hx3, hy3, hm3, hn3, hs, ho⟩
    have HS3 := Lib.hid hs
    have HO3 := Lib.hid ho
    have hz3 := ho.size
    clear hs ho
    replace HR := Lib.hid ((HR.out.only HO3.out (.inr (by omega))).wide (Nat.le_refl _) hz3)
    replace HOr := Lib.hid (HOr.out.trans HO3.out)
    go_wp2_with fail
    go_at_call 91
    (with_reducible refine (min00_any _ _ _).mono ?_)
    rintro e w4 ⟨rfl, rfl⟩
    have hnr : r < minI most (r + 20 + x3) ∧ minI most (r + 20 + x3) ≤ most := by unfold minI; split <;> omega
    generalize minI most (r + 20 + x3) = nr at *
    have HA := Lib.hid (show RM 2 107 (w3.alloc (.cells #[.int .i64 nr, .int .i64 ld] 107)) w.heap.size (w3.alloc (.cells #[.int .i64 nr, .int .i64 ld] 107)).heap.size A1 j c1 o from (HR.out.late (gr_alloc (gr_refl _))).wide (Nat.le_refl _) (by simp))
    have HSa := Lib.hid (HS3.out.alloc (.cells #[.int .i64 nr, .int .i64 ld] 107))
    have HOa := Lib.hid (HOr.out.alloc (.cells #[.int .i64 nr, .int .i64 ld] 107))
    have hza := HOa.out.size
    have HSI := Lib.hid (show SI (w3.alloc (.cells #[.int .i64 nr, .int .i64 ld] 107)) (w3.heap.size + 1) (some ⟨w3.heap.size, 0, none⟩) [nr, ld] from SI.of_new w3 [nr, ld])
    go_wp2_with (at_builtin; refine wpList_appM rfl _ _ 80 rfl 2 (by omega) w.heap.size 107 i0 (.agg #[.int .i64 0, .int .i64 0]) 16 Try.underlying80 hi zi0 zi1 zi2 rfl A1 j c1 o _ rfl HA.out (some ⟨w3.heap.size, 0, none⟩) 1 1 [nr, ld] (w3.heap.size + 1) rfl rfl (by omega) HSI.out (by unfold maxLen; omega) (by omega) hza ?_; intro A2 c2 w5 hr2 hgr hb; have HR5 := Lib.hid hr2; have HS5 := Lib.hid (HSa.out.grown hgr (fun k hk => by have := row_ge (fun g hg => (HA.out.form.2 g hg).1) HA.out.form.1 k hk; omega)); have HO5 := Lib.hid (HOa.out.grown hgr (row_ge (fun g hg => (HA.out.form.2 g hg).1) HA.out.form.1)); have hz5 := hgr.size; clear hr2 hgr hb)
    go_at_call 74
    (with_reducible refine (pick_any p _ _ _ (by omega) (i64_of (by omega)) HS5.out).mono ?_)
    rintro e w6 ⟨x6, rfl, hx6, hy6, hm6, hn6, hs, ho⟩
    have HS6 := Lib.hid hs
    have HO6 := Lib.hid ho
    have hz6 := ho.size
    clear hs ho
    replace HR5 := Lib.hid ((HR5.out.only HO6.out (.inr (by omega))).wide (Nat.le_refl _) hz6)
    replace HO5 := Lib.hid (HO5.out.trans HO6.out)
    go_wp2_with fail
    go_at_call 83
    (with_reducible refine (max00_any _ _ _).mono ?_)
    rintro e w7 ⟨rfl, rfl⟩
    have hnl : 0 ≤ maxI 0 (ld - x6) ∧ maxI 0 (ld - x6) ≤ ld := by unfold maxI; split <;> omega
    generalize maxI 0 (ld - x6) = nl at *
    have hlen := HR.out.len
    have HV2 := Lib.hid (show (∀ i, i < j + 1 → stepOk (o ++ [nr, ld]) i = true) ∧ (0 < j + 1 → rdC (o ++ [nr, ld]) (j + 1 - 1) = nr ∧ nl ≤ ldC (o ++ [nr, ld]) (j + 1 - 1)) from by
      refine ⟨fun i hi => ?_, fun _ => ?_⟩
      · by_cases hij : i = j
        · rw [hij]; exact stepOk_new hlen (by omega) (by omega) HV.out.2 (by omega)
        · exact stepOk_lt nr ld hlen (by omega) (HV.out.1 i (by omega))
      · rw [Nat.add_sub_cancel, rdC_new nr ld hlen, ldC_new nr ld hlen]; exact ⟨rfl, by omega⟩)
    go_wp2
    go_roundw
    case rel => exact ⟨j + 1, A2, c2, o ++ [nr, ld], nr, nl, kk - 1, rfl, rfl, rfl, by go_num, by omega, by omega, by omega, HV2.out, HR5.out, HS6.out.more (by omega), HO5.out⟩
    case measure => simp [intOf]; omega
end Go.Proofs.Ytmgbbkglafnibaa
