/- ChooseSling, the reference. -/
import Derived.Test.YtnmldhkcbekecaaChL
import Derived.Test.YtnmldhkcbekecaaGrow
namespace Go.Proofs.Ytnmldhkcbekecaa
open Go.RowKit
set_option maxHeartbeats 8000000 in
set_option maxRecDepth 20000 in
theorem specCs_any (A : Option Addr) (n c : Nat) (zs : List Int) (B : Option Addr) (d : Nat) (ms : List Int) (wt : Int) (w : World) (hn : n ≤ 1048576) (hz : zs.length = n * 4) (h : SI w w.heap.size A zs) (hm : ms.length ≤ 1048576) (h' : SV (.int .i64) w w.heap.size B ms) : Calls Try.prog 32 #[.slice A n c, .slice B ms.length d, .int .i64 wt] w fun e w' => e = .returned (.tuple #[.int .i64 (csN zs n ms wt), .int .i64 (csC zs n ms wt)]) ∧ Below w.heap.size w w' := by
  have HZ := Lib.hid hz
  have H := Lib.hid h
  have H' := Lib.hid h'
  clear hz h h'
  obtain ⟨R, hR⟩ : ∃ R, csN zs n ms wt = R := ⟨_, rfl⟩
  obtain ⟨C, hC⟩ : ∃ C, csC zs n ms wt = C := ⟨_, rfl⟩
  have HR := Lib.hid hR
  have HC := Lib.hid hC
  rw [hR, hC]
  clear hR hC
  go_enter Try.func32, Try.ntmps32
  go_wp2
  go_loop [8] (fun i => ∃ k : Nat, k ≤ n ∧ i = .int .i64 (k : Int) ∧ Hid (∀ j, j < k → okK zs j = true)) (fun i => n - (intOf i).toNat)
  case atStart => exact ⟨0, by omega, by simp, fun j hj => by omega⟩
  case round =>
    obtain ⟨k, hk, rfl, HS⟩ := hrel
    by_cases hlt : k < n
    · obtain ⟨b, off, rfl, hbB, hc4⟩ := si4 H.out HZ.out hlt
      obtain ⟨r, hr⟩ : ∃ r, okK zs k = r := ⟨_, rfl⟩
      have HO : Hid (Calls Try.prog 42 #[.pointer (some ⟨b, off + k * 4, none⟩)] w fun e w' => e = .returned (.bool r) ∧ w = w') := by have h9 := l07Ok_any _ _ _ _ b (off + k * 4) w hc4; rw [show okSl (slL zs k) (slS zs k) (slR zs k) (slM zs k) = r from hr] at h9; exact h9
      have HRr := Lib.hid hr
      clear hr hc4
      have i0 : (0 : Int) ≤ (k : Int) := by omega
      have i1 : (k : Int) < (n : Int) := by omega
      cases hrr : r
      · subst hrr
        have hcd : csC zs n ms wt = 1 := cs_bad hlt HRr.out
        have hcn := cs_of hcd (by decide)
        obtain ⟨rfl, rfl⟩ : 0 = R ∧ 1 = C := ⟨hcn.symm.trans HR.out, hcd.symm.trans HC.out⟩
        clear hcd hcn
        go_wp2_with (go_at_call 42; (with_reducible refine HO.out.mono ?_); rintro e w1 ⟨rfl, rfl⟩)
        go_returns
        exact ⟨rfl, gr_refl w⟩
      subst hrr
      go_wp2_with (go_at_call 42; (with_reducible refine HO.out.mono ?_); rintro e w1 ⟨rfl, rfl⟩)
      go_round
      case rel => exact ⟨k + 1, by omega, by go_num, fun j hj => by by_cases e : j = k; (subst e; exact HRr.out); exact HS.out j (by omega)⟩
      case measure => simp [intOf]; omega
    obtain rfl : n = k := by omega
    have HOK := Lib.hid HS.out
    clear HS hlt
    by_cases hwr : inI wt 0 50000 = true
    case neg =>
      have hwr := (Bool.not_eq_true _).mp hwr
      have hcd : csC zs n ms wt = 2 := cs_rng HOK.out (by rw [hwr]; simp)
      have hcn := cs_of hcd (by decide)
      obtain ⟨rfl, rfl⟩ : 0 = R ∧ 2 = C := ⟨hcn.symm.trans HR.out, hcd.symm.trans HC.out⟩
      clear hcd hcn
      have JW := Lib.hid hwr
      clear hwr
      go_wp2_with (go_at_call 55; (with_reducible refine (in_is0 JW.out (in_any _ _ _ _)).mono ?_); rintro e w1 ⟨rfl, rfl⟩)
      go_returns
      exact ⟨rfl, gr_refl w⟩
    have JW := Lib.hid hwr
    have HW := Lib.hid hwr
    clear hwr
    by_cases hl : ms.length = n
    case neg =>
      have hb : ((ms.length : Int) != (n : Int)) = true := by rw [bne_iff_ne]; omega
      have hcd : csC zs n ms wt = 2 := cs_rng HOK.out (by simp [hl])
      have hcn := cs_of hcd (by decide)
      obtain ⟨rfl, rfl⟩ : 0 = R ∧ 2 = C := ⟨hcn.symm.trans HR.out, hcd.symm.trans HC.out⟩
      clear hcd hcn
      clear hl
      go_wp2_with (go_at_call 55; (with_reducible refine (in_is0 JW.out (in_any _ _ _ _)).mono ?_); rintro e w1 ⟨rfl, rfl⟩)
      go_returns
      exact ⟨rfl, gr_refl w⟩
    have hb : ((ms.length : Int) != (n : Int)) = false := by rw [bne_eq_false_iff_eq]; omega
    have HL := Lib.hid hl
    clear hl hk
    go_wp2_with (go_at_call 55; (with_reducible refine (in_is0 JW.out (in_any _ _ _ _)).mono ?_); rintro e w1 ⟨rfl, rfl⟩)
    go_loopw [9, 10] (fun b i wr => ∃ k : Nat, k ≤ n ∧ i = .int .i64 (k : Int) ∧ b = .int .i64 (bestF zs ms wt k) ∧ Hid (∀ (j : Nat) x, j < k → ms[j]? = some x → inI x 0 50000 = true) ∧ Below w.heap.size w wr) (fun _ i _ => n - (intOf i).toNat)
    case atStart => exact ⟨0, by omega, by simp, by simp [bestF], fun j x hj => by omega, gr_refl w⟩
    case round =>
      obtain ⟨k, hk, rfl, hbest, HM, hbe⟩ := hrel
      subst hbest
      have HB := Lib.hid hbe
      have hsz := hbe.size
      by_cases hlt : k < n
      case neg =>
        obtain rfl : k = n := by omega
        obtain ⟨V, hV⟩ : ∃ V, bestF zs ms wt k = V := ⟨_, rfl⟩
        obtain ⟨e1, e2⟩ := cs_end HOK.out HL.out HW.out (fun j x hx => HM.out j x (by rw [← HL.out]; exact lt_of_at hx) hx) hV
        rw [hV]
        by_cases hv : V < 0
        · obtain ⟨rfl, rfl⟩ : 0 = R ∧ 3 = C := ⟨(cs_of (e1 hv) (by decide)).symm.trans HR.out, (e1 hv).symm.trans HC.out⟩
          clear e1 e2 hV hbe
          go_wp2
          go_returns
          exact ⟨rfl, HB.out⟩
        · have hv2 := decide_eq_false hv
          obtain ⟨rfl, rfl⟩ : V = R ∧ 0 = C := ⟨(e2 hv).2.symm.trans HR.out, (e2 hv).1.symm.trans HC.out⟩
          clear e1 e2 hV hbe
          go_wp2
          go_returns
          exact ⟨rfl, HB.out⟩
      obtain ⟨b, off, rfl, hbB, hc4⟩ := si4 (H.out.below hbe) HZ.out hlt
      obtain ⟨x, hx⟩ := at_of_lt (xs := ms) (k := k) (by rw [HL.out]; exact hlt)
      obtain ⟨b2, off2, rfl, hb2B, hcx⟩ := (H'.out.below hbe).at_ hx
      have hxd : ms.getD k 0 = x := by rw [List.getD_eq_getElem?_getD, hx]; rfl
      have i0 : (0 : Int) ≤ (k : Int) := by omega
      have i1 : (k : Int) < (n : Int) := by omega
      have HLm := HL.out
      have i2 : (k : Int) < (ms.length : Int) := by omega
      have i3 : k < ms.length := by omega
      clear HLm
      by_cases hxr : inI x 0 50000 = true
      case neg =>
        have hxr := (Bool.not_eq_true _).mp hxr
        have hcd : csC zs n ms wt = 2 := cs_rng HOK.out (cs_most hx hxr _ _)
        have hcn := cs_of hcd (by decide)
        obtain ⟨rfl, rfl⟩ : 0 = R ∧ 2 = C := ⟨hcn.symm.trans HR.out, hcd.symm.trans HC.out⟩
        clear hcd hcn
        have J := Lib.hid hxr
        clear hx hxr hxd hbe hc4
        go_wp2_with (go_at_call 55; (with_reducible refine (in_is0 J.out (in_any _ _ _ _)).mono ?_); rintro e w1 ⟨rfl, rfl⟩)
        go_returns
        exact ⟨rfl, HB.out⟩
      have HM2 : Hid (∀ (j : Nat) y, j < k + 1 → ms[j]? = some y → inI y 0 50000 = true) := fun j y hj hy => by
        by_cases e : j = k
        · subst e; have e2 := hx.symm.trans hy; simp only [Option.some.injEq] at e2; rw [← e2]; exact hxr
        · exact HM.out j y (by omega) hy
      have J := Lib.hid hxr
      clear hxr
      have hok := HOK.out k hlt
      have hw := inI_t HW.out
      obtain ⟨V, hV⟩ : ∃ V, bestF zs ms wt k = V := ⟨_, rfl⟩
      have hVb := hV ▸ bestF_bd zs ms wt k
      rw [hV]
      obtain ⟨r, hr⟩ : ∃ r, hlK zs ms wt k = r := ⟨_, rfl⟩
      have hr2 : hldSl wt x (slL zs k) (slS zs k) (slR zs k) = r := by rw [← hxd]; exact hr
      unfold okK at hok
      obtain ⟨l0, hl0⟩ : ∃ l, slL zs k = l := ⟨_, rfl⟩
      obtain ⟨s0, hs0⟩ : ∃ l, slS zs k = l := ⟨_, rfl⟩
      obtain ⟨r0, hr0⟩ : ∃ l, slR zs k = l := ⟨_, rfl⟩
      obtain ⟨m0, hm0⟩ : ∃ l, slM zs k = l := ⟨_, rfl⟩
      rw [hl0, hs0, hr0] at hr2
      rw [hl0, hs0, hr0, hm0] at hc4 hok
      have HH : Hid (∀ w1 : World, Below wr.heap.size wr w1 → Calls Try.prog 56 #[.pointer (some ⟨b, off + k * 4, none⟩), .int .i64 wt, .int .i64 x] w1 fun e w' => e = .returned (.bool r) ∧ Below w1.heap.size w1 w') := fun w1 hb1 => by have h9 := holds07_any b (off + k * 4) l0 s0 r0 m0 wt x w1 (hc4.below hb1 (by omega)) (by have := hb1.size; omega) hok hw.1 hw.2; rw [hr2] at h9; exact h9
      have HV := Lib.hid hV
      have HRr := Lib.hid hr
      have HM0 := Lib.hid hm0
      obtain ⟨c0, c1, c2, c3⟩ := hc4
      clear hV hr hr2 hl0 hs0 hr0 hm0 hxd hok hw hx hbe
      cases hrr : r
      · subst hrr
        go_wp2_with (go_at_call 55; (with_reducible refine (in_is0 J.out (in_any _ _ _ _)).mono ?_); rintro e w1 ⟨rfl, rfl⟩)
        have gw0 : ∀ X, (grw wr X).cell? ⟨b2, off2 + k, none⟩ = some (.int .i64 x) := grw_cell (hcx)
        refine wp_region_grow (by kernel_rfl) (by kernel_rfl) ?_
        repeat (go_big_quiet_step (((go_at_call 56; (with_reducible refine grow_of (HH.out _ (grw_below _ _)))))))
        refine wpQuiet_nil ?_
        rintro wq ⟨X, hX⟩
        have HA := Lib.hid (show Below wr.heap.size wr wq by rw [hX]; exact grw_below _ _)
        clear hX gw0
        all_goals go_wp2
        all_goals
          go_roundw
          case rel => exact ⟨k + 1, by omega, by go_num, by rw [bestF_no HV.out HRr.out], HM2.out, gr_then HA.out HB.out⟩
          case measure => simp [intOf]; omega
      subst hrr
      by_cases hv : V < 0
      · have hv1 := decide_eq_true hv
        go_wp2_with (go_at_call 55; (with_reducible refine (in_is0 J.out (in_any _ _ _ _)).mono ?_); rintro e w1 ⟨rfl, rfl⟩)
        have gw0 : ∀ X, (grw wr X).cell? ⟨b2, off2 + k, none⟩ = some (.int .i64 x) := grw_cell (hcx)
        refine wp_region_grow (by kernel_rfl) (by kernel_rfl) ?_
        repeat (go_big_quiet_step (((go_at_call 56; (with_reducible refine grow_of (HH.out _ (grw_below _ _)))))))
        refine wpQuiet_nil ?_
        rintro wq ⟨X, hX⟩
        have HA := Lib.hid (show Below wr.heap.size wr wq by rw [hX]; exact grw_below _ _)
        clear hX gw0
        all_goals go_wp2
        all_goals
          go_roundw
          case rel => exact ⟨k + 1, by omega, by go_num, by rw [bestF_first HV.out HRr.out hv], HM2.out, gr_then HA.out HB.out⟩
          case measure => simp [intOf]; omega
      have hv1 := decide_eq_false hv
      obtain ⟨v, rfl⟩ : ∃ v : Nat, V = (v : Int) := ⟨V.toNat, by omega⟩
      obtain ⟨b', off', eb, _, hc5⟩ := si4 (H.out.below HB.out) HZ.out (show v < n by omega)
      simp only [Option.some.injEq, Addr.mk.injEq, and_true] at eb
      obtain ⟨rfl, rfl⟩ := eb
      have cb := hc5.2.2.2
      obtain ⟨m1, hm1⟩ : ∃ l, slM zs v = l := ⟨_, rfl⟩
      rw [hm1] at cb
      have HM1 := Lib.hid hm1
      clear hc5 hm1
      have j0 : (0 : Int) ≤ (v : Int) := by omega
      have j1 : (v : Int) < (n : Int) := by omega
      have j2 : v < n := by omega
      by_cases hmm : m0 < m1
      · have hm1' := decide_eq_true hmm
        go_wp2_with (go_at_call 55; (with_reducible refine (in_is0 J.out (in_any _ _ _ _)).mono ?_); rintro e w1 ⟨rfl, rfl⟩)
        have gw0 : ∀ X, (grw wr X).cell? ⟨b2, off2 + k, none⟩ = some (.int .i64 x) := grw_cell (hcx)
        have gw1 : ∀ X, (grw wr X).cell? ⟨b, off + k * 4 + 3, none⟩ = some (.int .i64 m0) := grw_cell (c3)
        have gw2 : ∀ X, (grw wr X).cell? ⟨b, off + v * 4 + 3, none⟩ = some (.int .i64 m1) := grw_cell (cb)
        refine wp_region_grow (by kernel_rfl) (by kernel_rfl) ?_
        repeat (go_big_quiet_step (((go_at_call 56; (with_reducible refine grow_of (HH.out _ (grw_below _ _)))))))
        refine wpQuiet_nil ?_
        rintro wq ⟨X, hX⟩
        have HA := Lib.hid (show Below wr.heap.size wr wq by rw [hX]; exact grw_below _ _)
        clear hX gw0 gw1 gw2
        all_goals go_wp2
        all_goals
          go_roundw
          case rel => exact ⟨k + 1, by omega, by go_num, by rw [bestF_less HV.out HRr.out (by rw [HM0.out, HM1.out]; omega)], HM2.out, gr_then HA.out HB.out⟩
          case measure => simp [intOf]; omega
      have hm1' := decide_eq_false hmm
      go_wp2_with (go_at_call 55; (with_reducible refine (in_is0 J.out (in_any _ _ _ _)).mono ?_); rintro e w1 ⟨rfl, rfl⟩)
      have gw0 : ∀ X, (grw wr X).cell? ⟨b2, off2 + k, none⟩ = some (.int .i64 x) := grw_cell (hcx)
      have gw1 : ∀ X, (grw wr X).cell? ⟨b, off + k * 4 + 3, none⟩ = some (.int .i64 m0) := grw_cell (c3)
      have gw2 : ∀ X, (grw wr X).cell? ⟨b, off + v * 4 + 3, none⟩ = some (.int .i64 m1) := grw_cell (cb)
      refine wp_region_grow (by kernel_rfl) (by kernel_rfl) ?_
      repeat (go_big_quiet_step (((go_at_call 56; (with_reducible refine grow_of (HH.out _ (grw_below _ _)))))))
      refine wpQuiet_nil ?_
      rintro wq ⟨X, hX⟩
      have HA := Lib.hid (show Below wr.heap.size wr wq by rw [hX]; exact grw_below _ _)
      clear hX gw0 gw1 gw2
      all_goals go_wp2
      all_goals
        go_roundw
        case rel => exact ⟨k + 1, by omega, by go_num, by rw [bestF_more HV.out (by rw [HM0.out, HM1.out]; omega)], HM2.out, gr_then HA.out HB.out⟩
        case measure => simp [intOf]; omega
end Go.Proofs.Ytnmldhkcbekecaa
