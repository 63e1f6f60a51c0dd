/- ChooseSling, the program. -/
import Derived.Test.YtnmldhkcbekecaaChL
import Derived.Test.YtnmldhkcbekecaaGrow
namespace Go.Proofs.Ytnmldhkcbekecaa
open Go.RowKit
set_option maxHeartbeats 4000000 in
set_option maxRecDepth 20000 in
theorem cs1_is {l s r m : Int} {q : Bool} (h : okSl l s r m = q) (w : World) : Calls Try.prog 59 #[.agg #[.int .i64 l, .int .i64 s, .int .i64 r, .int .i64 m]] w fun e w' => e = .returned (.bool (!q)) ∧ Below w.heap.size w w' := by
  have HO : Hid (∀ w : World, Calls Try.prog 15 #[.agg #[.int .i64 l, .int .i64 s, .int .i64 r, .int .i64 m]] w fun e w' => e = .returned (.bool q) ∧ Below w.heap.size w w') := fun w => by have h9 := validSling_any l s r m w; rw [h] at h9; exact h9
  clear h
  cases q <;> (go_enter Try.func59, Try.ntmps59; go_wp2_with (go_at_call 15; (with_reducible refine (HO.out _).mono ?_); rintro e w1 ⟨rfl, hb⟩); go_ret; exact ⟨rfl, gr_then hb (gr_alloc (gr_refl w))⟩)
set_option maxHeartbeats 4000000 in
set_option maxRecDepth 20000 in
theorem cs2_is {x : Int} {q : Bool} (h : inI x 0 50000 = q) (w : World) : Calls Try.prog 61 #[.int .i64 x] w fun e w' => e = .returned (.bool (!q)) ∧ w = w' := by
  have J := Lib.hid h
  clear h
  cases q <;> (go_enter Try.func61, Try.ntmps61; go_wp2_with (go_at_call 43; (with_reducible refine (in_is0 J.out (within_any _ _ _ _)).mono ?_); rintro e w1 ⟨rfl, rfl⟩); go_ret; exact ⟨rfl, rfl⟩)
def IdxOk (zs : List Int) (n : Nat) (w : World) (e : Ending) (w' : World) : Prop := ∃ r : Int, e = .returned (.int .i64 r) ∧ Below w.heap.size w w' ∧ (List.range n).all (okK zs) = decide (r < 0)
set_option maxHeartbeats 4000000 in
set_option maxRecDepth 20000 in
theorem idxS_any (A : Option Addr) (n c : Nat) (zs : List Int) (w : World) (hn : n ≤ 1048576) (hz : zs.length = n * 4) (h : SI w w.heap.size A zs) : Calls Try.prog 76 #[.slice A n c, .func (.func 59) #[] #[]] w (IdxOk zs n w) := by
  have HZ := Lib.hid hz
  have H := Lib.hid h
  clear hz h
  go_enter Try.func76, Try.ntmps76
  go_wp2
  go_loopw [8] (fun i wr => ∃ k : Nat, k ≤ n ∧ i = .int .i64 (k : Int) ∧ Hid (∀ j, j < k → okK zs j = true) ∧ Below w.heap.size w wr) (fun i _ => n - (intOf i).toNat)
  case atStart => exact ⟨0, by omega, by simp, fun j hj => by omega, gr_refl w⟩
  case round =>
    obtain ⟨k, hk, rfl, HS, hbe⟩ := hrel
    have HB := Lib.hid hbe
    by_cases hlt : k < n
    · obtain ⟨b, off, rfl, hbB, c0, c1, c2, c3⟩ := si4 (H.out.below hbe) HZ.out hlt
      have HRr := Lib.hid (show okSl (slL zs k) (slS zs k) (slR zs k) (slM zs k) = okK zs k from rfl)
      obtain ⟨r, hr⟩ : ∃ r, okK zs k = r := ⟨_, rfl⟩
      have HO := Lib.hid (HRr.out.trans hr)
      have HR2 := Lib.hid hr
      clear hr HRr hbe
      cases r
      · have HA := Lib.hid (show (List.range n).all (okK zs) = false by rw [List.all_eq_false]; exact ⟨k, List.mem_range.2 hlt, by rw [HR2.out]; decide⟩)
        go_wp2_with (go_at_call 59; (with_reducible refine (cs1_is HO.out _).mono ?_); rintro e w1 ⟨rfl, hb⟩)
        go_ret
        exact ⟨k, rfl, gr_then hb HB.out, by rw [HA.out]; exact (decide_eq_false (by omega)).symm⟩
      · go_wp2_with (go_at_call 59; (with_reducible refine (cs1_is HO.out _).mono ?_); rintro e w1 ⟨rfl, hb⟩)
        go_roundw
        case rel => exact ⟨k + 1, by omega, by go_num, fun j hj => by by_cases e : j = k; (subst e; exact HR2.out); exact HS.out j (by omega), gr_then hb HB.out⟩
        case measure => simp [intOf]; omega
    · obtain rfl : k = n := by omega
      have HA := Lib.hid (cs_ok HS.out)
      clear hbe
      go_wp2
      go_ret
      exact ⟨-1, rfl, HB.out, by rw [HA.out]; rfl⟩
set_option maxHeartbeats 4000000 in
set_option maxRecDepth 20000 in
theorem contS_any (A : Option Addr) (n c : Nat) (zs : List Int) (w : World) (hn : n ≤ 1048576) (hz : zs.length = n * 4) (h : SI w w.heap.size A zs) : Calls Try.prog 58 #[.slice A n c, .func (.func 59) #[] #[]] w fun e w' => e = .returned (.bool (!((List.range n).all (okK zs)))) ∧ Below w.heap.size w w' := by
  have HZ := Lib.hid hz
  have H := Lib.hid h
  clear hz h
  go_enter Try.func58, Try.ntmps58; go_wp2_with fail
  go_at_call 76
  (with_reducible refine (idxS_any _ _ _ zs _ hn HZ.out H.out).mono ?_)
  rintro e w1 ⟨r, rfl, hb, ha⟩
  have HA := Lib.hid ha
  clear ha
  by_cases hr : r < 0
  · have hd : decide (0 ≤ r) = false := decide_eq_false (by omega)
    go_wp2
    go_ret
    exact ⟨ret_bool (by rw [HA.out, decide_eq_true (show r < 0 by omega)]; rfl), hb⟩
  · have hp : 0 ≤ r := by omega
    go_wp2
    go_ret
    exact ⟨ret_bool (by rw [HA.out, decide_eq_false (show ¬ r < 0 by omega)]; rfl), hb⟩
def allMost (ms : List Int) : Bool := ms.all (fun x => inI x 0 50000)
theorem allMost_bad {xs : List Int} {j : Nat} {x : Int} (hj : xs[j]? = some x) (h : inI x 0 50000 = false) : allMost xs = false := by
  unfold allMost; rw [List.all_eq_false]; exact ⟨x, List.mem_of_getElem? hj, by rw [h]; decide⟩
theorem allMost_y {xs : List Int} (h : ∀ (j : Nat) x, xs[j]? = some x → inI x 0 50000 = true) : allMost xs = true := by
  unfold allMost; rw [List.all_eq_true]; intro x hx
  obtain ⟨k, hk⟩ := List.mem_iff_getElem?.1 hx
  exact h k x hk
theorem allMost_t {xs : List Int} (h : allMost xs = true) : ∀ (j : Nat) x, xs[j]? = some x → inI x 0 50000 = true := fun j x hj => by
  unfold allMost at h; rw [List.all_eq_true] at h; exact h x (List.mem_of_getElem? hj)
def IdxMost (xs : List Int) (w : World) (e : Ending) (w' : World) : Prop := ∃ r : Int, e = .returned (.int .i64 r) ∧ w = w' ∧ allMost xs = decide (r < 0)
set_option maxHeartbeats 3000000 in
theorem idxM_any (A : Option Addr) (c : Nat) (xs : List Int) (w : World) (hn : xs.length ≤ 1048576) (h : SV (.int .i64) w w.heap.size A xs) : Calls Try.prog 77 #[.slice A xs.length c, .func (.func 61) #[] #[]] w (IdxMost xs w) := by
  obtain ⟨n, hn'⟩ : ∃ n, xs.length = n := ⟨_, rfl⟩
  have HN := Lib.hid hn'
  have H := Lib.hid h
  clear h
  rw [hn'] at hn ⊢
  clear hn'
  go_enter Try.func77, Try.ntmps77
  go_wp2
  go_loop [8] (fun i => ∃ k : Nat, k ≤ n ∧ i = .int .i64 k ∧ Hid (∀ (j : Nat) x, j < k → xs[j]? = some x → inI x 0 50000 = true)) (fun i => n - (intOf i).toNat)
  case atStart => exact ⟨0, by omega, rfl, fun j x hj => by omega⟩
  case round =>
    obtain ⟨k, hk, rfl, HS⟩ := hrel
    by_cases hlt : k < n
    · obtain ⟨x, hx⟩ := at_of_lt (xs := xs) (k := k) (by rw [HN.out]; exact hlt)
      obtain ⟨b2, off, rfl, hB, hc⟩ := H.out.at_ hx
      have HX := Lib.hid hx
      by_cases hi : inI x 0 50000 = true
      · have HI := Lib.hid hi
        clear hx
        go_wp2_with (go_at_call 61; (with_reducible refine (cs2_is hi _).mono ?_); rintro e w1 ⟨rfl, rfl⟩)
        go_round
        case rel => exact ⟨k + 1, by omega, by go_num, fun j x' hj hb' => by by_cases e : j = k; (subst e; have e2 := HX.out.symm.trans hb'; simp only [Option.some.injEq] at e2; rw [← e2]; exact HI.out); exact HS.out j x' (by omega) hb'⟩
        case measure => simp [intOf]; omega
      · have hi := (Bool.not_eq_true _).mp hi
        have HO := Lib.hid (allMost_bad hx hi)
        clear hx
        go_wp2_with (go_at_call 61; (with_reducible refine (cs2_is hi _).mono ?_); rintro e w1 ⟨rfl, rfl⟩)
        go_ret
        exact ⟨k, rfl, rfl, by rw [HO.out]; exact (decide_eq_false (by omega)).symm⟩
    · obtain rfl : k = n := by omega
      have HA := Lib.hid (allMost_y (xs := xs) (fun j x hj => HS.out j x (by rw [← HN.out]; exact lt_of_at hj) hj))
      go_wp2
      go_ret
      exact ⟨-1, rfl, rfl, by rw [HA.out]; rfl⟩
set_option maxHeartbeats 1000000 in
theorem contM_any (A : Option Addr) (c : Nat) (xs : List Int) (w : World) (hn : xs.length ≤ 1048576) (h : SV (.int .i64) w w.heap.size A xs) : Calls Try.prog 60 #[.slice A xs.length c, .func (.func 61) #[] #[]] w fun e w' => e = .returned (.bool (!(allMost xs))) ∧ w = w' := by
  have H := Lib.hid h
  clear h
  go_enter Try.func60, Try.ntmps60; go_wp2_with fail
  go_at_call 77
  (with_reducible refine (idxM_any _ _ xs _ hn H.out).mono ?_)
  rintro e w1 ⟨r, rfl, rfl, ha⟩
  have HA := Lib.hid ha
  clear ha
  by_cases hr : r < 0
  · have hd : decide (0 ≤ r) = false := decide_eq_false (by omega)
    go_wp2
    go_ret
    exact ⟨ret_bool (by rw [HA.out, decide_eq_true (show r < 0 by omega)]; rfl), rfl⟩
  · have hp : 0 ≤ r := by omega
    go_wp2
    go_ret
    exact ⟨ret_bool (by rw [HA.out, decide_eq_false (show ¬ r < 0 by omega)]; rfl), rfl⟩
set_option maxHeartbeats 8000000 in
set_option maxRecDepth 20000 in
theorem implCs_any (A : Option Addr) (n c : Nat) (zs : List Int) (B : Option Addr) (d : Nat) (ms : List Int) (wt : Int) (w : World) (hn : n ≤ 1048576) (hz : zs.length = n * 4) (h : SI w w.heap.size A zs) (hm : ms.length ≤ 1048576) (h' : SV (.int .i64) w w.heap.size B ms) : Calls Try.prog 35 #[.slice A n c, .slice B ms.length d, .int .i64 wt] w fun e w' => e = .returned (.tuple #[.int .i64 (csN zs n ms wt), .int .i64 (csC zs n ms wt)]) ∧ Below w.heap.size w w' := by
  have HZ := Lib.hid hz
  have H := Lib.hid h
  have H' := Lib.hid h'
  clear hz h h'
  obtain ⟨R, hR⟩ : ∃ R, csN zs n ms wt = R := ⟨_, rfl⟩
  obtain ⟨C, hC⟩ : ∃ C, csC zs n ms wt = C := ⟨_, rfl⟩
  have HR := Lib.hid hR
  have HC := Lib.hid hC
  rw [hR, hC]
  clear hR hC
  obtain ⟨q, hq⟩ : ∃ q, (List.range n).all (okK zs) = q := ⟨_, rfl⟩
  have HC1 : Hid (Calls Try.prog 58 #[.slice A n c, .func (.func 59) #[] #[]] w fun e w' => e = .returned (.bool (!q)) ∧ Below w.heap.size w w') := by have h9 := contS_any A n c zs w hn HZ.out H.out; rw [hq] at h9; exact h9
  obtain ⟨q2, hq2⟩ : ∃ q, allMost ms = q := ⟨_, rfl⟩
  have HC2 : Hid (∀ w1 : World, Below w.heap.size w w1 → Calls Try.prog 60 #[.slice B ms.length d, .func (.func 61) #[] #[]] w1 fun e w' => e = .returned (.bool (!q2)) ∧ w1 = w') := fun w1 hb1 => by have h9 := contM_any B d ms w1 hm (H'.out.later hb1); rw [hq2] at h9; exact h9
  cases q
  · obtain ⟨j, hj1, hj2⟩ := List.all_eq_false.1 hq
    have hcd : csC zs n ms wt = 1 := cs_bad (List.mem_range.1 hj1) ((Bool.not_eq_true _).mp hj2)
    have hcn := cs_of hcd (by decide)
    obtain ⟨rfl, rfl⟩ : 0 = R ∧ 1 = C := ⟨hcn.symm.trans HR.out, hcd.symm.trans HC.out⟩
    clear hcd hcn
    clear hj1 hj2 hq hq2
    go_enter Try.func35, Try.ntmps35
    go_wp2_with (go_at_call 58; (with_reducible refine HC1.out.mono ?_); rintro e w1 ⟨rfl, hb⟩; have HB1 := Lib.hid hb; clear hb)
    go_returns
    exact ⟨rfl, HB1.out⟩
  have HOK : Hid (∀ k, k < n → okK zs k = true) := fun k hk => List.all_eq_true.1 hq k (List.mem_range.2 hk)
  clear hq
  by_cases hl : n = ms.length
  case neg =>
    have hb : ((n : Int) != (ms.length : Int)) = true := by rw [bne_iff_ne]; omega
    have hcd : csC zs n ms wt = 2 := cs_rng HOK.out (by simp; intro h9; omega)
    have hcn := cs_of hcd (by decide)
    obtain ⟨rfl, rfl⟩ : 0 = R ∧ 2 = C := ⟨hcn.symm.trans HR.out, hcd.symm.trans HC.out⟩
    clear hcd hcn
    clear hl hq2
    go_enter Try.func35, Try.ntmps35
    go_wp2_with (go_at_call 58; (with_reducible refine HC1.out.mono ?_); rintro e w1 ⟨rfl, hb⟩; have HB1 := Lib.hid hb; clear hb)
    go_returns
    exact ⟨rfl, HB1.out⟩
  have hb : ((n : Int) != (ms.length : Int)) = false := by rw [bne_eq_false_iff_eq]; omega
  have HL := Lib.hid (show ms.length = n from hl.symm)
  clear hl
  by_cases hwr : inI wt 0 50000 = true
  case neg =>
    have hwr := (Bool.not_eq_true _).mp hwr
    have hcd : csC zs n ms wt = 2 := cs_rng HOK.out (by rw [hwr]; simp)
    have hcn := cs_of hcd (by decide)
    obtain ⟨rfl, rfl⟩ : 0 = R ∧ 2 = C := ⟨hcn.symm.trans HR.out, hcd.symm.trans HC.out⟩
    clear hcd hcn
    have JW := Lib.hid hwr
    clear hwr hq2
    go_enter Try.func35, Try.ntmps35
    go_wp2_with (first | (go_at_call 58; (with_reducible refine HC1.out.mono ?_); rintro e w1 ⟨rfl, hb⟩; have HB1 := Lib.hid hb; clear hb) | (go_at_call 43; (with_reducible refine (in_is0 JW.out (within_any _ _ _ _)).mono ?_); rintro e w2 ⟨rfl, rfl⟩))
    go_returns
    exact ⟨rfl, HB1.out⟩
  have JW := Lib.hid hwr
  have HW := Lib.hid hwr
  clear hwr
  cases q2
  · have hq3 : (decide (ms.length = n) && (inI wt 0 50000 && ms.all (fun x => inI x 0 50000))) = false := by rw [show ms.all (fun x => inI x 0 50000) = false from hq2]; simp
    have hcd : csC zs n ms wt = 2 := cs_rng HOK.out hq3
    have hcn := cs_of hcd (by decide)
    obtain ⟨rfl, rfl⟩ : 0 = R ∧ 2 = C := ⟨hcn.symm.trans HR.out, hcd.symm.trans HC.out⟩
    clear hcd hcn
    clear hq2 hq3
    go_enter Try.func35, Try.ntmps35
    go_wp2_with (first | (go_at_call 58; (with_reducible refine HC1.out.mono ?_); rintro e w1 ⟨rfl, hb⟩; have HB1 := Lib.hid hb; clear hb) | (go_at_call 60; (with_reducible refine (HC2.out _ HB1.out).mono ?_); rintro e w2 ⟨rfl, rfl⟩) | (go_at_call 43; (with_reducible refine (in_is0 JW.out (within_any _ _ _ _)).mono ?_); rintro e w2 ⟨rfl, rfl⟩))
    go_returns
    exact ⟨rfl, HB1.out⟩
  have HM := Lib.hid (allMost_t hq2)
  clear hq2
  go_enter Try.func35, Try.ntmps35
  go_wp2_with (first | (go_at_call 58; (with_reducible refine HC1.out.mono ?_); rintro e w1 ⟨rfl, hb⟩; have HB1 := Lib.hid hb; clear hb) | (go_at_call 60; (with_reducible refine (HC2.out _ HB1.out).mono ?_); rintro e w2 ⟨rfl, rfl⟩) | (go_at_call 43; (with_reducible refine (in_is0 JW.out (within_any _ _ _ _)).mono ?_); rintro e w2 ⟨rfl, rfl⟩))
  go_loopw [8, 31] (fun b i wr => ∃ k : Nat, k ≤ n ∧ i = .int .i64 (k : Int) ∧ b = .int .i64 (bestF zs ms wt k) ∧ Hid (∀ (j : Nat) x, j < n → ms[j]? = some x → inI x 0 50000 = true) ∧ Below w.heap.size w wr) (fun _ i _ => n - (intOf i).toNat)
  case atStart => exact ⟨0, by omega, by simp, by simp [bestF], fun j x _ hx => HM.out j x hx, HB1.out⟩
  case round =>
    obtain ⟨k, hk, rfl, hbest, HM, hbe⟩ := hrel
    subst hbest
    have HB := Lib.hid hbe
    have hsz := hbe.size
    by_cases hlt : k < n
    case neg =>
      obtain rfl : k = n := by omega
      obtain ⟨V, hV⟩ : ∃ V, bestF zs ms wt k = V := ⟨_, rfl⟩
      obtain ⟨e1, e2⟩ := cs_end HOK.out HL.out HW.out (fun j x hx => HM.out j x (by rw [← HL.out]; exact lt_of_at hx) hx) hV
      rw [hV]
      by_cases hv : V < 0
      · obtain ⟨rfl, rfl⟩ : 0 = R ∧ 3 = C := ⟨(cs_of (e1 hv) (by decide)).symm.trans HR.out, (e1 hv).symm.trans HC.out⟩
        clear e1 e2 hV hbe
        go_wp2
        go_returns
        exact ⟨rfl, HB.out⟩
      · have hv2 := decide_eq_false hv
        obtain ⟨rfl, rfl⟩ : V = R ∧ 0 = C := ⟨(e2 hv).2.symm.trans HR.out, (e2 hv).1.symm.trans HC.out⟩
        clear e1 e2 hV hbe
        go_wp2
        go_returns
        exact ⟨rfl, HB.out⟩
    obtain ⟨b, off, rfl, hbB, hc4⟩ := si4 (H.out.below hbe) HZ.out hlt
    obtain ⟨x, hx⟩ := at_of_lt (xs := ms) (k := k) (by rw [HL.out]; exact hlt)
    obtain ⟨b2, off2, rfl, hb2B, hcx⟩ := (H'.out.below hbe).at_ hx
    have hxd : ms.getD k 0 = x := by rw [List.getD_eq_getElem?_getD, hx]; rfl
    have i0 : (0 : Int) ≤ (k : Int) := by omega
    have i1 : (k : Int) < (n : Int) := by omega
    have HLm := HL.out
    have i2 : (k : Int) < (ms.length : Int) := by omega
    have i3 : k < ms.length := by omega
    clear HLm
    have hok := HOK.out k hlt
    have hw := inI_t HW.out
    obtain ⟨V, hV⟩ : ∃ V, bestF zs ms wt k = V := ⟨_, rfl⟩
    have hVb := hV ▸ bestF_bd zs ms wt k
    rw [hV]
    obtain ⟨r, hr⟩ : ∃ r, hlK zs ms wt k = r := ⟨_, rfl⟩
    have hr2 : hldSl wt x (slL zs k) (slS zs k) (slR zs k) = r := by rw [← hxd]; exact hr
    unfold okK at hok
    obtain ⟨l0, hl0⟩ : ∃ l, slL zs k = l := ⟨_, rfl⟩
    obtain ⟨s0, hs0⟩ : ∃ l, slS zs k = l := ⟨_, rfl⟩
    obtain ⟨r0, hr0⟩ : ∃ l, slR zs k = l := ⟨_, rfl⟩
    obtain ⟨m0, hm0⟩ : ∃ l, slM zs k = l := ⟨_, rfl⟩
    rw [hl0, hs0, hr0] at hr2
    rw [hl0, hs0, hr0, hm0] at hc4 hok
    have HH : Hid (∀ w1 : World, Calls Try.prog 57 #[.agg #[.int .i64 l0, .int .i64 s0, .int .i64 r0, .int .i64 m0], .int .i64 wt, .int .i64 x] w1 fun e w' => e = .returned (.bool r) ∧ Below w1.heap.size w1 w') := fun w1 => by have h9 := holds_any l0 s0 r0 m0 wt x w1 hok hw.1 hw.2; rw [hr2] at h9; exact h9
    have HV := Lib.hid hV
    have HRr := Lib.hid hr
    have HM0 := Lib.hid hm0
    obtain ⟨c0, c1, c2, c3⟩ := hc4
    clear hV hr hr2 hl0 hs0 hr0 hm0 hxd hok hw hx hbe
    have hbx : Below wr.heap.size wr (wr.alloc (.cells #[.int .i64 l0, .int .i64 s0, .int .i64 r0, .int .i64 m0] 25)) := gr_alloc (gr_refl wr)
    have d0 : (wr.alloc (.cells #[.int .i64 l0, .int .i64 s0, .int .i64 r0, .int .i64 m0] 25)).cell? ⟨wr.heap.size, 0, none⟩ = some (.int .i64 l0) := by simp [go_sem]
    have d1 : (wr.alloc (.cells #[.int .i64 l0, .int .i64 s0, .int .i64 r0, .int .i64 m0] 25)).cell? ⟨wr.heap.size, 1, none⟩ = some (.int .i64 s0) := by simp [go_sem]
    have d2 : (wr.alloc (.cells #[.int .i64 l0, .int .i64 s0, .int .i64 r0, .int .i64 m0] 25)).cell? ⟨wr.heap.size, 2, none⟩ = some (.int .i64 r0) := by simp [go_sem]
    have d3 : (wr.alloc (.cells #[.int .i64 l0, .int .i64 s0, .int .i64 r0, .int .i64 m0] 25)).cell? ⟨wr.heap.size, 3, none⟩ = some (.int .i64 m0) := by simp [go_sem]
    have e0 := keepc hbx hcx
    have hzz : wr.heap.size + 1 ≤ (wr.alloc (.cells #[.int .i64 l0, .int .i64 s0, .int .i64 r0, .int .i64 m0] 25)).heap.size := by simp
    have HX := Lib.hid hbx
    clear hbx
    cases hrr : r
    · subst hrr
      go_wp2
      generalize (wr.alloc (.cells #[.int .i64 l0, .int .i64 s0, .int .i64 r0, .int .i64 m0] 25)) = wx at *
      have gw0 : ∀ X, (grw wx X).cell? ⟨b2, off2 + k, none⟩ = some (.int .i64 x) := grw_cell (e0)
      have gw1 : ∀ X, (grw wx X).cell? ⟨wr.heap.size, 0, none⟩ = some (.int .i64 l0) := grw_cell (d0)
      have gw2 : ∀ X, (grw wx X).cell? ⟨wr.heap.size, 1, none⟩ = some (.int .i64 s0) := grw_cell (d1)
      have gw3 : ∀ X, (grw wx X).cell? ⟨wr.heap.size, 2, none⟩ = some (.int .i64 r0) := grw_cell (d2)
      have gw4 : ∀ X, (grw wx X).cell? ⟨wr.heap.size, 3, none⟩ = some (.int .i64 m0) := grw_cell (d3)
      refine wp_region_grow (by kernel_rfl) (by kernel_rfl) ?_
      repeat (go_big_quiet_step (((go_at_call 57; (with_reducible refine grow_of (HH.out _))))))
      refine wpQuiet_nil ?_
      rintro wq ⟨X, hX⟩
      have HA := Lib.hid (show Below wx.heap.size wx wq by rw [hX]; exact grw_below _ _)
      clear hX gw0 gw1 gw2 gw3 gw4
      all_goals go_wp2
      all_goals
        go_roundw
        case rel => exact ⟨k + 1, by omega, by go_num, by rw [bestF_no HV.out HRr.out], HM.out, gr_then HA.out (gr_then HX.out HB.out)⟩
        case measure => simp [intOf]; omega
    subst hrr
    by_cases hv : V < 0
    · have hv1 := decide_eq_true hv
      go_wp2
      generalize (wr.alloc (.cells #[.int .i64 l0, .int .i64 s0, .int .i64 r0, .int .i64 m0] 25)) = wx at *
      have gw0 : ∀ X, (grw wx X).cell? ⟨b2, off2 + k, none⟩ = some (.int .i64 x) := grw_cell (e0)
      have gw1 : ∀ X, (grw wx X).cell? ⟨wr.heap.size, 0, none⟩ = some (.int .i64 l0) := grw_cell (d0)
      have gw2 : ∀ X, (grw wx X).cell? ⟨wr.heap.size, 1, none⟩ = some (.int .i64 s0) := grw_cell (d1)
      have gw3 : ∀ X, (grw wx X).cell? ⟨wr.heap.size, 2, none⟩ = some (.int .i64 r0) := grw_cell (d2)
      have gw4 : ∀ X, (grw wx X).cell? ⟨wr.heap.size, 3, none⟩ = some (.int .i64 m0) := grw_cell (d3)
      refine wp_region_grow (by kernel_rfl) (by kernel_rfl) ?_
      repeat (go_big_quiet_step (((go_at_call 57; (with_reducible refine grow_of (HH.out _))))))
      refine wpQuiet_nil ?_
      rintro wq ⟨X, hX⟩
      have HA := Lib.hid (show Below wx.heap.size wx wq by rw [hX]; exact grw_below _ _)
      clear hX gw0 gw1 gw2 gw3 gw4
      all_goals go_wp2
      all_goals
        go_roundw
        case rel => exact ⟨k + 1, by omega, by go_num, by rw [bestF_first HV.out HRr.out hv], HM.out, gr_then HA.out (gr_then HX.out HB.out)⟩
        case measure => simp [intOf]; omega
    have hv1 := decide_eq_false hv
    obtain ⟨v, rfl⟩ : ∃ v : Nat, V = (v : Int) := ⟨V.toNat, by omega⟩
    obtain ⟨b', off', eb, _, hc5⟩ := si4 (H.out.below HB.out) HZ.out (show v < n by omega)
    simp only [Option.some.injEq, Addr.mk.injEq, and_true] at eb
    obtain ⟨rfl, rfl⟩ := eb
    have cb := hc5.2.2.2
    obtain ⟨m1, hm1⟩ : ∃ l, slM zs v = l := ⟨_, rfl⟩
    rw [hm1] at cb
    have HM1 := Lib.hid hm1
    clear hc5 hm1
    have j0 : (0 : Int) ≤ (v : Int) := by omega
    have j1 : (v : Int) < (n : Int) := by omega
    have j2 : v < n := by omega
    have cb := keepc HX.out cb
    by_cases hmm : m0 < m1
    · have hm1' := decide_eq_true hmm
      go_wp2
      generalize (wr.alloc (.cells #[.int .i64 l0, .int .i64 s0, .int .i64 r0, .int .i64 m0] 25)) = wx at *
      have gw0 : ∀ X, (grw wx X).cell? ⟨b2, off2 + k, none⟩ = some (.int .i64 x) := grw_cell (e0)
      have gw1 : ∀ X, (grw wx X).cell? ⟨wr.heap.size, 0, none⟩ = some (.int .i64 l0) := grw_cell (d0)
      have gw2 : ∀ X, (grw wx X).cell? ⟨wr.heap.size, 1, none⟩ = some (.int .i64 s0) := grw_cell (d1)
      have gw3 : ∀ X, (grw wx X).cell? ⟨wr.heap.size, 2, none⟩ = some (.int .i64 r0) := grw_cell (d2)
      have gw4 : ∀ X, (grw wx X).cell? ⟨wr.heap.size, 3, none⟩ = some (.int .i64 m0) := grw_cell (d3)
      have gw5 : ∀ X, (grw wx X).cell? ⟨b, off + v * 4 + 3, none⟩ = some (.int .i64 m1) := grw_cell (cb)
      refine wp_region_grow (by kernel_rfl) (by kernel_rfl) ?_
      repeat (go_big_quiet_step (((go_at_call 57; (with_reducible refine grow_of (HH.out _))))))
      refine wpQuiet_nil ?_
      rintro wq ⟨X, hX⟩
      have HA := Lib.hid (show Below wx.heap.size wx wq by rw [hX]; exact grw_below _ _)
      clear hX gw0 gw1 gw2 gw3 gw4 gw5
      all_goals go_wp2
      all_goals
        go_roundw
        case rel => exact ⟨k + 1, by omega, by go_num, by rw [bestF_less HV.out HRr.out (by rw [HM0.out, HM1.out]; omega)], HM.out, gr_then HA.out (gr_then HX.out HB.out)⟩
        case measure => simp [intOf]; omega
    have hm1' := decide_eq_false hmm
    go_wp2
    generalize (wr.alloc (.cells #[.int .i64 l0, .int .i64 s0, .int .i64 r0, .int .i64 m0] 25)) = wx at *
    have gw0 : ∀ X, (grw wx X).cell? ⟨b2, off2 + k, none⟩ = some (.int .i64 x) := grw_cell (e0)
    have gw1 : ∀ X, (grw wx X).cell? ⟨wr.heap.size, 0, none⟩ = some (.int .i64 l0) := grw_cell (d0)
    have gw2 : ∀ X, (grw wx X).cell? ⟨wr.heap.size, 1, none⟩ = some (.int .i64 s0) := grw_cell (d1)
    have gw3 : ∀ X, (grw wx X).cell? ⟨wr.heap.size, 2, none⟩ = some (.int .i64 r0) := grw_cell (d2)
    have gw4 : ∀ X, (grw wx X).cell? ⟨wr.heap.size, 3, none⟩ = some (.int .i64 m0) := grw_cell (d3)
    have gw5 : ∀ X, (grw wx X).cell? ⟨b, off + v * 4 + 3, none⟩ = some (.int .i64 m1) := grw_cell (cb)
    refine wp_region_grow (by kernel_rfl) (by kernel_rfl) ?_
    repeat (go_big_quiet_step (((go_at_call 57; (with_reducible refine grow_of (HH.out _))))))
    refine wpQuiet_nil ?_
    rintro wq ⟨X, hX⟩
    have HA := Lib.hid (show Below wx.heap.size wx wq by rw [hX]; exact grw_below _ _)
    clear hX gw0 gw1 gw2 gw3 gw4 gw5
    all_goals go_wp2
    all_goals
      go_roundw
      case rel => exact ⟨k + 1, by omega, by go_num, by rw [bestF_more HV.out (by rw [HM0.out, HM1.out]; omega)], HM.out, gr_then HA.out (gr_then HX.out HB.out)⟩
      case measure => simp [intOf]; omega
end Go.Proofs.Ytnmldhkcbekecaa
