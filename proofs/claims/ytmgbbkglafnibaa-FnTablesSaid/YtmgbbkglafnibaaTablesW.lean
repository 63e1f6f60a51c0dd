/- The walk of the law FnTables: whatever bytes came in, it returns true. No condition. -/
import Derived.Test.YtmgbbkglafnibaaTblP
import Derived.Test.YtmgbbkglafnibaaTdr
import Derived.Test.YtmgbbkglafnibaaA2
import Derived.BigQuiet
namespace Go.Proofs.Ytmgbbkglafnibaa.fnTables
open Go.RowKit Go.Deep
theorem SV.later {α : Type} {f : α → Value} {w w' : World} {A : Option Addr} {xs : List α} (h : SV f w w.heap.size A xs) (hb : Below w.heap.size w w') : SV f w' w'.heap.size A xs := (h.below hb).more hb.size
theorem keepc {W w1 : World} {b o : Nat} {v : Value} (hb : Below W.heap.size W w1) (h : W.cell? ⟨b, o, none⟩ = some v) : w1.cell? ⟨b, o, none⟩ = some v := (hb.cell (p := ⟨b, o, none⟩) (lt_of_cell h)).trans h
set_option maxHeartbeats 2000000 in
set_option maxRecDepth 20000 in
theorem has_is (A : Option Addr) (c : Nat) (xs : List Int) (y : Int) (w : World) (hn : xs.length ≤ 1048576) (h : SV (.int .i64) w w.heap.size A xs) {n : Nat} (hl : xs.length = n) {q : Bool} (hq : decide (y ∈ xs) = q) : Calls Try.prog 39 #[.slice A n c, .int .i64 y] w fun e w' => e = .returned (.bool q) ∧ w = w' := by
  have H := Lib.hid h
  have HL := Lib.hid hl
  have HQ := Lib.hid hq
  have hn2 : n ≤ 1048576 := by omega
  clear h hl hq hn
  go_enter Try.func39, Try.ntmps39; go_wp2
  go_loopw [5] (fun iv wr => ∃ k : Nat, k ≤ n ∧ iv = .int .i64 (k : Int) ∧ Hid (∀ j, j < k → xs.getD j 0 ≠ y) ∧ w = wr) (fun iv _ => n - (intOf iv).toNat)
  case atStart => exact ⟨0, by omega, rfl, fun j hj => by omega, rfl⟩
  case round =>
    obtain ⟨k, hk, rfl, HN, rfl⟩ := hrel
    by_cases hlt : k < n
    case neg =>
      have HF := Lib.hid (show q = false by rw [← HQ.out, decide_eq_false_iff_not]; intro hm; obtain ⟨j, hj, ej⟩ := List.getElem_of_mem hm; exact HN.out j (by rw [HL.out] at hj; omega) (by rw [List.getD_eq_getElem?_getD, List.getElem?_eq_getElem hj]; exact ej))
      go_wp2
      go_ret
      exact ⟨ret_bool HF.out.symm, rfl⟩
    obtain ⟨x, hx⟩ := at_of_lt (xs := xs) (k := k) (by rw [HL.out]; exact hlt)
    obtain ⟨b, off, rfl, hB, hc⟩ := H.out (by rw [HL.out]; omega)
    have hcx := hc k x hx
    have HXX := Lib.hid (show xs.getD k 0 = x by rw [List.getD_eq_getElem?_getD, hx]; rfl)
    have HMX := Lib.hid (List.mem_of_getElem? hx)
    clear hc hx
    by_cases hxy : x = y
    · have HT := Lib.hid (show q = true by rw [← HQ.out, decide_eq_true_eq, ← hxy]; exact HMX.out)
      have hd : (x == y) = true := by rw [hxy]; exact beq_self_eq_true y
      clear hxy
      go_wp2
      go_ret
      exact ⟨ret_bool HT.out.symm, rfl⟩
    · have hd : (x == y) = false := beq_eq_false_iff_ne.2 hxy
      have HNX := Lib.hid (show ∀ j, j < k + 1 → xs.getD j 0 ≠ y from fun j hj => by rcases Nat.lt_or_ge j k with h1 | h1; exact HN.out j h1; rw [show j = k by omega, HXX.out]; exact hxy)
      clear hxy
      go_wp2
      go_roundw
      case rel => first | exact ⟨k + 1, by omega, by go_num, HNX.out, trivial⟩ | exact ⟨k + 1, by omega, by go_num, HNX.out, rfl⟩
      case measure => simp [intOf]; omega
theorem implCc_is (A : Option Addr) (c : Nat) (T : List (List Bool)) (w : World) (hl : T.length = 24) (hr : rw24 T) (h : TB .bool w w.heap.size A T) {V : Int} (hV : cntS T 24 = V) : Calls Try.prog 17 #[.slice A 24 c] w fun e w' => e = .returned (.tuple #[.int .i64 V, .int .i64 0]) ∧ w = w' := by
  have h9 := implCc_any A c T w (by omega) h (fun j bs hj => by rw [hr bs (List.mem_of_getElem? hj)]; omega)
  have hk := okT_of hl hr
  rw [show ccN T = V by rw [← hV]; exact if_pos hk, show ccE T = 0 from if_pos hk, hl] at h9
  exact h9
theorem implBd_is (A : Option Addr) (c : Nat) (T : List (List Bool)) (w : World) (hl : T.length = 24) (hr : rw24 T) (h : TB .bool w w.heap.size A T) : Calls Try.prog 28 #[.slice A 24 c] w (RetI (blk T 24) 0 2 w) := by
  have h9 := implBd_any A c T w (by omega) h (fun j bs hj => by rw [hr bs (List.mem_of_getElem? hj)]; omega)
  have hk := okT_of hl hr
  rw [show bdX T = blk T 24 from if_pos hk, show bdC T = 0 from if_pos hk, hl] at h9
  exact h9
theorem implTl_is (A : Option Addr) (c : Nat) (T : List (List Bool)) (w : World) (hl : T.length = 24) (hr : rw24 T) (h : TB .bool w w.heap.size A T) : Calls Try.prog 33 #[.slice A 24 c] w (RetSt (lnS T 24) 0 9 w) := by
  have h9 := implTl_any A c T w (by omega) h (fun j bs hj => by rw [hr bs (List.mem_of_getElem? hj)]; omega)
  have hk := okT_of hl hr
  rw [show tlX T = lnS T 24 from if_pos hk, show tlC T = 0 from if_pos hk, hl] at h9
  exact h9
theorem implFd_is (A : Option Addr) (c : Nat) (T : List (List Bool)) (w : World) (hl : T.length = 24) (hr : rw24 T) (h : TB .bool w w.heap.size A T) (k : Nat) (hk : k < 24) {F : List Int} (hF : fr (T.getD k []) 24 = F) : Calls Try.prog 23 #[.slice A 24 c, .int .i64 (k : Int)] w (RetI F 0 2 w) := by
  have h9 := implFd_any A c T w (by omega) h (fun j bs hj => by rw [hr bs (List.mem_of_getElem? hj)]; omega) (k : Int) (by omega)
  have hk2 := okT_of hl hr
  have hi : inI (k : Int) 0 23 = true := inI_y (by omega)
  rw [show fdX T (k : Int) = F by unfold fdX; rw [hk2, hi, Int.toNat_natCast, hF]; rfl, show fdC T (k : Int) = 0 by unfold fdC; rw [hk2, hi]; rfl, hl] at h9
  exact h9
set_option maxHeartbeats 32000000 in
set_option maxRecDepth 20000 in
theorem walk (A0 : Option Addr) (n0 c0 : Nat) (bs : List Int) (w : World) (h : n0 ≤ 9223372036854775807 ∧ bs.length = n0 ∧ (∀ x ∈ bs, U8 x) ∧ SV (.int .u8) w w.heap.size A0 bs) : Calls Try.prog 10 #[.slice A0 n0 c0] w fun e w' => e = .returned (.bool true) ∧ Below w.heap.size w w' := by
  obtain ⟨hn, hl, hq, hs⟩ := h
  obtain rfl : n0 = bs.length := hl.symm
  have H := Lib.hid hs
  have HQb := Lib.hid hq
  clear hs hq hl
  go_enter Try.func10, Try.ntmps10
  go_wp2_with fail
  obtain ⟨q, hq⟩ : ∃ q, lngB bs.length 0 = q := ⟨_, rfl⟩
  go_at_call 37
  (with_reducible refine (long_any A0 none bs.length 0 c0 0 _).mono ?_)
  rw [hq]
  rintro e w0 ⟨rfl, rfl⟩
  cases q
  case true => go_wp2; go_returns; exact ⟨rfl, gr_refl _⟩
  have hlen := lngB_f hq
  clear hq
  go_wp2_with fail
  go_at_call 38
  (with_reducible refine (a2table_any A0 c0 bs _ (by omega) HQb.out H.out).mono ?_)
  rintro r w1 ⟨⟨A, c, T, rfl, hTl, hTr, ht⟩, hb⟩
  have HL := Lib.hid hTl
  have HR := Lib.hid hTr
  have HT := Lib.hid ht.tb
  have HB := Lib.hid hb
  have HK := Lib.hid (okT_of hTl hTr)
  clear hTl hTr ht hb
  obtain ⟨p0, o0, _, _, _, rfl, _, _⟩ := trow HT.out HK.out (a := 0) (by omega)
  obtain ⟨V, hV⟩ : ∃ q, cntS T 24 = q := ⟨_, rfl⟩
  have HV := Lib.hid hV
  clear hV
  go_wp2_with fail
  go_at_call 17
  (with_reducible refine (implCc_is _ c T _ HL.out HR.out HT.out HV.out).mono ?_)
  rintro r w2 ⟨rfl, rfl⟩
  go_wp2_with fail
  go_at_call 28
  (with_reducible refine (implBd_is _ c T _ HL.out HR.out HT.out).mono ?_)
  rintro r w3 ⟨A3, c3, rfl, hr3, hb⟩
  have HS3 := Lib.hid hr3.sv
  replace HT := Lib.hid ((HT.out.below hb).more hb.size)
  replace HB := Lib.hid (gr_then hb HB.out)
  have hn3 := blk_len T 24
  obtain ⟨n3, e3⟩ : ∃ q, (blk T 24).length = q := ⟨_, rfl⟩
  rw [e3] at hn3 ⊢
  have HN3 := Lib.hid e3
  clear hr3 hb e3
  go_wp2_with fail
  go_at_call 33
  (with_reducible refine (implTl_is _ c T _ HL.out HR.out HT.out).mono ?_)
  rintro r w4 ⟨A4, c4, rfl, hr4, hb⟩
  rw [lnS_len]
  have HS4 := Lib.hid hr4
  replace HS3 := Lib.hid (SV.later HS3.out hb)
  replace HT := Lib.hid ((HT.out.below hb).more hb.size)
  replace HB := Lib.hid (gr_then hb HB.out)
  clear hr4 hb
  obtain ⟨_, hx4⟩ := at_of_lt (xs := lnS T 24) (k := 0) (by rw [lnS_len]; omega)
  obtain ⟨g4, rfl, _, _, _, _, _⟩ := HS4.out.cellAt hx4
  clear hx4
  go_wp2
  go_loopw [10, 11] (fun sv iv wr => ∃ k : Nat, k ≤ 24 ∧ iv = .int .i64 (k : Int) ∧ sv = .int .i64 (cntS T k) ∧ Below w4.heap.size w4 wr) (fun _ iv _ => 24 - (intOf iv).toNat)
  case atStart => exact ⟨0, by omega, rfl, rfl, gr_refl _⟩
  case round =>
    obtain ⟨k, hk, rfl, rfl, hbe⟩ := hrel
    obtain ⟨wo, rfl⟩ : ∃ wo : World, wo = wr := ⟨_, rfl⟩
    have HBE := Lib.hid hbe
    clear hbe
    have hcb := cntS_bd T k
    by_cases hlt : k < 24
    case neg =>
      obtain rfl : k = 24 := by omega
      have HV2 := HV
      rw [HV.out]
      have hvv : (V == V) = true := beq_self_eq_true V
      go_wp2
      go_returns
      exact ⟨rfl, gr_then HBE.out HB.out⟩
    have j0 : (0 : Int) ≤ (k : Int) := by omega
    have j1 : (k : Int) < 24 := by omega
    obtain ⟨R, hR⟩ := at_of_lt (xs := T) (k := k) (by rw [HL.out]; exact hlt)
    have hR24 := HR.out R (List.mem_of_getElem? hR)
    have hcr := cntR_bd R 24
    have hfc := fr_cnt (bs := R) 24 (by omega)
    have hbf := blk_free hlt hR hR24
    have hst := cntS_step hR
    have HFV := Lib.hid (show fr (T.getD k []) 24 = fr R 24 by rw [List.getD_eq_getElem?_getD, hR]; rfl)
    obtain ⟨F, hF⟩ : ∃ q, fr R 24 = q := ⟨_, rfl⟩
    obtain ⟨nF, hnF⟩ : ∃ q, F.length = q := ⟨_, rfl⟩
    have hnf := fr_len R 24
    rw [hF] at hfc hbf hnf HFV
    rw [hnF] at hfc hbf hnf
    obtain ⟨q3, hq3⟩ : ∃ q, decide ((k : Int) ∈ blk T 24) = q := ⟨_, rfl⟩
    rw [hq3] at hbf
    have hbf2 : ((nF : Int) == 0) = q3 := hbf.symm
    have HQ3 := Lib.hid hq3
    have HNF := Lib.hid hnF
    have HST := Lib.hid hst
    have HFR := Lib.hid hF
    have HRL := Lib.hid hR24
    have HRT := Lib.hid hR
    clear hq3 hnF hst hF hR24 hR hbf
    have HS := Lib.hid (show cntS T k + (24 - (nF : Int)) = cntS T (k + 1) by rw [HST.out]; omega)
    clear hfc
    have HTo := Lib.hid ((HT.out.below HBE.out).more HBE.out.size)
    go_wp2_with fail
    go_at_call 23
    (with_reducible refine (implFd_is _ c T _ HL.out HR.out HTo.out k hlt HFV.out).mono ?_)
    rintro r w5 ⟨A5, c5, rfl, hr5, hb⟩
    rw [HNF.out]
    have HF5 := Lib.hid hr5.sv
    have HBX := Lib.hid (gr_then hb HBE.out)
    clear hr5 hb
    obtain ⟨S, hS⟩ : ∃ S, (lnS T 24)[k]? = some S := at_of_lt (by rw [lnS_len]; exact hlt)
    have h9 : (lnS T 24)[k]? = some (strB (lnK T k 24)) := by simp [lnS, hlt]
    have hSe : S = strB (lnK T k 24) := by rw [h9] at hS; exact (Option.some.inj hS).symm
    clear h9
    obtain ⟨_, e4, _, _, _, hc4, _⟩ := (HS4.out.late HBX.out).cellAt hS
    simp only [Option.some.injEq, Addr.mk.injEq, and_true] at e4
    subst e4
    have HSE := Lib.hid hSe
    have hsz : S.size = 24 := by rw [hSe, strB_size, lnK_len]
    clear hS hSe
    have HH3 := Lib.hid (SV.later HS3.out HBX.out)
    go_wp2_with fail
    go_at_call 39
    (with_reducible refine (has_is A3 c3 (blk T 24) (k : Int) _ (by rw [HN3.out]; omega) HH3.out HN3.out HQ3.out).mono ?_)
    rintro r w6 ⟨rfl, rfl⟩
    have hnq : (q3 != q3) = false := by cases q3 <;> rfl
    go_wp2
    have hsum : -9223372036854775808 ≤ cntS T k + (24 - (nF : Int)) ∧ cntS T k + (24 - (nF : Int)) ≤ 9223372036854775807 := by omega
    have HFL := Lib.hid hnf
    go_loopw [14] (fun iv wr => ∃ m : Nat, m ≤ 24 ∧ iv = .int .i64 (m : Int) ∧ Below w5.heap.size w5 wr) (fun iv _ => 24 - (intOf iv).toNat)
    case atStart => exact ⟨0, by omega, rfl, gr_refl _⟩
    case round =>
      obtain ⟨m, hm, rfl, hbe⟩ := hrel
      have HBM := Lib.hid hbe
      clear hbe
      by_cases hlm : m < 24
      case neg =>
        obtain rfl : m = 24 := by omega
        go_wp2
        go_roundw
        case rel => exact ⟨k + 1, by omega, by go_num, by first | (rw [← HS.out]; done) | (rw [← HS.out]; rfl) | exact congrArg (Value.int .i64) HS.out, gr_then HBM.out HBX.out⟩
        case measure => simp [intOf]; omega
      have i0 : (0 : Int) ≤ (m : Int) := by omega
      have i1 : (m : Int) < 24 := by omega
      obtain ⟨p1, o1, q1, u1, v1, ea, hc1, hg1⟩ := trow ((HT.out.below (gr_then HBM.out HBX.out)).more (gr_then HBM.out HBX.out).size) HK.out (a := k) (by omega)
      simp only [Option.some.injEq, Addr.mk.injEq, and_true] at ea
      obtain ⟨rfl, rfl⟩ := ea
      have hd1 := hg1 m (by omega)
      have hd4 := keepc HBM.out hc4
      have hcell : cellT T k m = R.getD m false := by unfold cellT; rw [List.getD_eq_getElem?_getD (l := T), HRT.out]; rfl
      obtain ⟨b, hbv⟩ : ∃ b, cellT T k m = b := ⟨_, rfl⟩
      have HQB := Lib.hid (show decide ((m : Int) ∈ F) = !b by rw [← HFR.out, has_free hlm HRL.out, ← hcell, hbv])
      rw [hbv] at hd1
      have hSm : ∀ h : m < S.size, (S[m]'h).toNat = if b = true then 35 else 46 := by
        intro h
        have h8 : S.data.toList[m]? = some (chT b) := by rw [HSE.out, show (strB (lnK T k 24)).data.toList = lnK T k 24 by simp [strB]]; simp [lnK, hlm, hbv]
        have h7 : S[m]'h = chT b := by have h6 : S.data.toList[m]? = some (S[m]'h) := List.getElem?_eq_getElem (show m < S.data.toList.length by rw [← Lib.size_eq]; exact h); rw [h6] at h8; exact Option.some.inj h8
        rw [h7]; cases b <;> rfl
      have HSM := Lib.hid hSm
      have HFM := Lib.hid (SV.later HF5.out HBM.out)
      clear hSm hg1 hcell hbv
      have hms : m < S.size := by rw [hsz]; exact hlm
      cases b
      · have hsm := HSM.out hms
        simp only [Bool.false_eq_true, if_false] at hsm
        have hs5 : (((S[m]'hms).toNat : Int) == 35) = false := by rw [hsm]; rfl
        have HQC := Lib.hid (show decide ((m : Int) ∈ F) = true from HQB.out)
        clear HSM HQB
        go_wp2
        have gw0 : ∀ X, (grw (wr) X).cell? ⟨p0, o0 + k, none⟩ = some (.slice (some ⟨q1, u1, none⟩) 24 v1) := grw_cell (by assumption)
        have gw1 : ∀ X, (grw (wr) X).cell? ⟨q1, u1 + m, none⟩ = some (.bool false) := grw_cell (by assumption)
        have gw2 : ∀ X, (grw (wr) X).cell? ⟨g4, k, none⟩ = some (.string S) := grw_cell (by assumption)
        refine wp_region_grow (by kernel_rfl) (by kernel_rfl) ?_
        repeat (go_big_quiet_step (first | (go_at_call 39; (with_reducible refine grow_same (has_is A5 c5 F (m : Int) _ (by rw [HNF.out]; omega) ?_ HNF.out HQC.out)); exact SV.later HFM.out (grw_below _ _)) | fail))
        refine wpQuiet_nil ?_
        rintro wq ⟨X, hX⟩
        have hQ_wq : Below (wr).heap.size (wr) wq := by rw [hX]; exact grw_below _ _
        clear hX gw0 gw1 gw2
        have HQW := Lib.hid hQ_wq
        clear hQ_wq hc1 hd1 hd4
        go_wp2
        go_roundw
        case rel => exact ⟨m + 1, by omega, by go_num, gr_then HQW.out HBM.out⟩
        case measure => simp [intOf]; omega
      · have hsm := HSM.out hms
        simp only [if_true] at hsm
        have hs5 : (((S[m]'hms).toNat : Int) == 35) = true := by rw [hsm]; rfl
        have HQC := Lib.hid (show decide ((m : Int) ∈ F) = false from HQB.out)
        clear HSM HQB
        go_wp2
        have gw0 : ∀ X, (grw (wr) X).cell? ⟨p0, o0 + k, none⟩ = some (.slice (some ⟨q1, u1, none⟩) 24 v1) := grw_cell (by assumption)
        have gw1 : ∀ X, (grw (wr) X).cell? ⟨q1, u1 + m, none⟩ = some (.bool true) := grw_cell (by assumption)
        have gw2 : ∀ X, (grw (wr) X).cell? ⟨g4, k, none⟩ = some (.string S) := grw_cell (by assumption)
        refine wp_region_grow (by kernel_rfl) (by kernel_rfl) ?_
        repeat (go_big_quiet_step (first | (go_at_call 39; (with_reducible refine grow_same (has_is A5 c5 F (m : Int) _ (by rw [HNF.out]; omega) ?_ HNF.out HQC.out)); exact SV.later HFM.out (grw_below _ _)) | fail))
        refine wpQuiet_nil ?_
        rintro wq ⟨X, hX⟩
        have hQ_wq : Below (wr).heap.size (wr) wq := by rw [hX]; exact grw_below _ _
        clear hX gw0 gw1 gw2
        have HQW := Lib.hid hQ_wq
        clear hQ_wq hc1 hd1 hd4
        go_wp2
        go_roundw
        case rel => exact ⟨m + 1, by omega, by go_num, gr_then HQW.out HBM.out⟩
        case measure => simp [intOf]; omega
end Go.Proofs.Ytmgbbkglafnibaa.fnTables
