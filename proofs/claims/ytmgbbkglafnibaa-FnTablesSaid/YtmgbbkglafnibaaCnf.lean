/- Whether two cranes are in conflict (the reference). -/
import Derived.Test.YtmgbbkglafnibaaEnds
import Derived.Test.YtmgbbkglafnibaaSegJ
import Derived.IntWalk
namespace Go.Proofs.Ytmgbbkglafnibaa
open Go.RowKit Go.Deep
def Cr.nr (x : Cr) : Prop := x.near ∧ ((-10000 ≤ x.px ∧ x.px ≤ 10000) ∧ (-10000 ≤ x.py ∧ x.py ≤ 10000))
theorem nr_near {x : Cr} (h : x.nr) : x.near := h.1
noncomputable def bmN (x : Cr) (j : Nat) (y : Cr) (k : Nat) (d : Int) : Bool := nrB (kX x j) (kY x j) (jX x j) (jY x j) (kX y k) (kY y k) (jX y k) (jY y k) d
noncomputable def msN (x : Cr) (j : Nat) (y : Cr) (d : Int) : Bool := nrB (kX x j) (kY x j) (jX x j) (jY x j) y.px y.py y.px y.py d
noncomputable def rsN (x : Cr) (j : Nat) (y : Cr) (k : Nat) (d : Int) : Bool := if x.hg < y.hg then msN x j y d else if y.hg < x.hg then msN y k x d else false
noncomputable def cfB (x : Cr) (j : Nat) (y : Cr) (k : Nat) (d : Int) : Bool := (decide (absI (x.hg - y.hg) < 60) && bmN x j y k d) || rsN x j y k d
theorem okSg_b {x : Cr} (h : x.nr) (j : Nat) : okSg (kX x j) (kY x j) (jX x j) (jY x j) = true := by
  obtain ⟨⟨_, _, c, d⟩, a, b⟩ := h
  have h1 := atI_bd (x := x.px) (v := vX (opp j : Nat)) (r := x.bk) (vXY_bd _).1 d
  have h2 := atI_bd (x := x.py) (v := vY (opp j : Nat)) (r := x.bk) (vXY_bd _).2 d
  have h3 := atI_bd (x := x.px) (v := vX j) (r := x.jb) (vXY_bd _).1 c
  have h4 := atI_bd (x := x.py) (v := vY j) (r := x.jb) (vXY_bd _).2 c
  have e1 : kX x j = atI x.px (vX (opp j : Nat)) x.bk := rfl
  have e2 : kY x j = atI x.py (vY (opp j : Nat)) x.bk := rfl
  have e3 : jX x j = atI x.px (vX j) x.jb := rfl
  have e4 : jY x j = atI x.py (vY j) x.jb := rfl
  exact okSg_y (okPt_y (by omega)) (okPt_y (by omega))
theorem boom15_is (x : Cr) (A : Option Addr) (n c k b : Nat) (w : World) (hk : k ≤ 23) (hnr : x.near) (hc : Cc w b x A n c) {a1 a2 a3 a4 : Int} (h1 : kX x k = a1) (h2 : kY x k = a2) (h3 : jX x k = a3) (h4 : jY x k = a4) : Calls Try.prog 89 #[.pointer (some ⟨b, 0, none⟩), .int .i64 (k : Int)] w fun e w' => e = .returned (.agg #[.int .i64 a1, .int .i64 a2, .int .i64 a3, .int .i64 a4]) ∧ Below w.heap.size w w' := by subst h1; subst h2; subst h3; subst h4; exact boom15_any x A n c k b w hk hnr hc
theorem near14_is (a b c d e f g h n : Int) (w : World) (h1 : okSg a b c d = true) (h2 : okSg e f g h = true) (hn : 0 ≤ n ∧ n ≤ 50000) {r : Bool} (hr : nrB a b c d e f g h n = r) : Calls Try.prog 88 #[.agg #[.int .i64 a, .int .i64 b, .int .i64 c, .int .i64 d], .agg #[.int .i64 e, .int .i64 f, .int .i64 g, .int .i64 h], .int .i64 n] w fun ee w' => ee = .returned (.bool r) ∧ Below w.heap.size w w' := by rw [← hr]; exact near14_any a b c d e f g h n w h1 h2 hn
theorem okSg_p {y : Cr} (h : y.nr) : okSg y.px y.py y.px y.py = true := by
  obtain ⟨_, a, b⟩ := h
  exact okSg_y (okPt_y (by omega)) (okPt_y (by omega))
set_option maxHeartbeats 4000000 in
set_option maxRecDepth 20000 in
theorem mast_any (x y : Cr) (A A' : Option Addr) (n c n' c' bx by_ j : Nat) (d : Int) (w : World) (hj : j ≤ 23) (hnx : x.nr) (hny : y.nr) (hd : 0 ≤ d ∧ d ≤ 50000) (hx : Cc w bx x A n c) (hy : Cc w by_ y A' n' c') : Calls Try.prog 90 #[.pointer (some ⟨bx, 0, none⟩), .int .i64 (j : Int), .pointer (some ⟨by_, 0, none⟩), .int .i64 d] w fun e w' => e = .returned (.bool (msN x j y d)) ∧ Below w.heap.size w w' := by
  have HX := Lib.hid hx
  obtain ⟨_, k0, k1, _, _, _, _⟩ := hy
  clear hx
  have hS1 := okSg_b hnx j
  obtain ⟨a0, ea0⟩ : ∃ q, kX x j = q := ⟨_, rfl⟩
  obtain ⟨a1, ea1⟩ : ∃ q, kY x j = q := ⟨_, rfl⟩
  obtain ⟨a2, ea2⟩ : ∃ q, jX x j = q := ⟨_, rfl⟩
  obtain ⟨a3, ea3⟩ : ∃ q, jY x j = q := ⟨_, rfl⟩
  rw [ea0, ea1, ea2, ea3] at hS1
  obtain ⟨r, hr⟩ : ∃ r, msN x j y d = r := ⟨_, rfl⟩
  rw [hr]
  have HR := Lib.hid (show nrB a0 a1 a2 a3 y.px y.py y.px y.py d = r by rw [← hr]; unfold msN; rw [ea0, ea1, ea2, ea3])
  have HS1 := Lib.hid hS1
  have HS2 := Lib.hid (okSg_p hny)
  have HNX := Lib.hid hnx
  clear hr hS1 hnx hny
  have Ha0 := Lib.hid ea0
  have Ha1 := Lib.hid ea1
  have Ha2 := Lib.hid ea2
  have Ha3 := Lib.hid ea3
  clear ea0 ea1 ea2 ea3
  have hb1 := lt_of_cell k0
  dsimp only at hb1
  go_enter Try.func90, Try.ntmps90; go_wp2
  have gw0 : ∀ X, (grw (w) X).cell? ⟨by_, 1, none⟩ = some (.int .i64 y.px) := grw_cell (by assumption)
  have gw1 : ∀ X, (grw (w) X).cell? ⟨by_, 2, none⟩ = some (.int .i64 y.py) := grw_cell (by assumption)
  refine wp_region_grow (by kernel_rfl) (by kernel_rfl) ?_
  repeat (go_big_quiet_step (first | (go_at_call 89; (with_reducible refine grow_of (boom15_is x A n c j bx _ hj (nr_near HNX.out) ?_ Ha0.out Ha1.out Ha2.out Ha3.out)); exact HX.out.late (grw_below _ _)) | (go_at_call 88; with_reducible refine grow_of (near14_is a0 a1 a2 a3 y.px y.py y.px y.py d _ HS1.out HS2.out hd HR.out)) | fail))
  refine wpQuiet_nil ?_
  rintro wq ⟨X, hX⟩
  have hQ_wq : Below (w).heap.size (w) wq := by rw [hX]; exact grw_below _ _
  clear hX gw0 gw1
  clear k0 k1
  go_wp2
  go_returns
  exact ⟨rfl, hQ_wq⟩
theorem mast_is (x y : Cr) (A A' : Option Addr) (n c n' c' bx by_ j : Nat) (d : Int) (w : World) (hj : j ≤ 23) (hnx : x.nr) (hny : y.nr) (hd : 0 ≤ d ∧ d ≤ 50000) (hx : Cc w bx x A n c) (hy : Cc w by_ y A' n' c') {r : Bool} (hr : msN x j y d = r) : Calls Try.prog 90 #[.pointer (some ⟨bx, 0, none⟩), .int .i64 (j : Int), .pointer (some ⟨by_, 0, none⟩), .int .i64 d] w fun e w' => e = .returned (.bool r) ∧ Below w.heap.size w w' := by rw [← hr]; exact mast_any x y A A' n c n' c' bx by_ j d w hj hnx hny hd hx hy
set_option maxHeartbeats 16000000 in
set_option maxRecDepth 20000 in
theorem conflict_any (x y : Cr) (A A' : Option Addr) (n c n' c' bx by_ j k : Nat) (d : Int) (w : World) (hj : j ≤ 23) (hk : k ≤ 23) (hnx : x.nr) (hny : y.nr) (hhx : 1 ≤ x.hg ∧ x.hg ≤ 2000) (hhy : 1 ≤ y.hg ∧ y.hg ≤ 2000) (hd : 0 ≤ d ∧ d ≤ 50000) (hx : Cc w bx x A n c) (hy : Cc w by_ y A' n' c') : Calls Try.prog 81 #[.pointer (some ⟨bx, 0, none⟩), .pointer (some ⟨by_, 0, none⟩), .int .i64 (j : Int), .int .i64 (k : Int), .int .i64 d] w fun e w' => e = .returned (.bool (cfB x j y k d)) ∧ Below w.heap.size w w' := by
  have HX := Lib.hid hx
  have HY := Lib.hid hy
  have HB := Lib.hid (gr_refl w)
  clear hx hy
  have hS1 := okSg_b hnx j
  have hS2 := okSg_b hny k
  obtain ⟨a0, ea0⟩ : ∃ q, kX x j = q := ⟨_, rfl⟩
  obtain ⟨a1, ea1⟩ : ∃ q, kY x j = q := ⟨_, rfl⟩
  obtain ⟨a2, ea2⟩ : ∃ q, jX x j = q := ⟨_, rfl⟩
  obtain ⟨a3, ea3⟩ : ∃ q, jY x j = q := ⟨_, rfl⟩
  obtain ⟨b0, eb0⟩ : ∃ q, kX y k = q := ⟨_, rfl⟩
  obtain ⟨b1, eb1⟩ : ∃ q, kY y k = q := ⟨_, rfl⟩
  obtain ⟨b2, eb2⟩ : ∃ q, jX y k = q := ⟨_, rfl⟩
  obtain ⟨b3, eb3⟩ : ∃ q, jY y k = q := ⟨_, rfl⟩
  rw [ea0, ea1, ea2, ea3] at hS1
  rw [eb0, eb1, eb2, eb3] at hS2
  obtain ⟨r, hr⟩ : ∃ r, bmN x j y k d = r := ⟨_, rfl⟩
  have HR := Lib.hid (show nrB a0 a1 a2 a3 b0 b1 b2 b3 d = r by rw [← hr]; unfold bmN; rw [ea0, ea1, ea2, ea3, eb0, eb1, eb2, eb3])
  obtain ⟨V, hV⟩ : ∃ q, cfB x j y k d = q := ⟨_, rfl⟩
  rw [hV]
  have HC := Lib.hid (show ((decide (absI (x.hg - y.hg) < 60) && r) || rsN x j y k d) = V by rw [← hV, ← hr]; rfl)
  have HS1 := Lib.hid hS1
  have HS2 := Lib.hid hS2
  have HNX := Lib.hid hnx
  have HNY := Lib.hid hny
  clear hr hV hS1 hS2 hnx hny
  have Ha0 := Lib.hid ea0
  have Ha1 := Lib.hid ea1
  have Ha2 := Lib.hid ea2
  have Ha3 := Lib.hid ea3
  clear ea0 ea1 ea2 ea3
  have Hb0 := Lib.hid eb0
  have Hb1 := Lib.hid eb1
  have Hb2 := Lib.hid eb2
  have Hb3 := Lib.hid eb3
  clear eb0 eb1 eb2 eb3
  have hw : IntKind.i64.wrap (x.hg - y.hg) = x.hg - y.hg := IntWalk.i64_in _ (by omega)
  by_cases hg : absI (x.hg - y.hg) < 60
  · have dg := decide_eq_true hg
    cases r
    case true =>
      have HT := Lib.hid (show V = true by rw [← HC.out, dg]; rfl)
      rw [HT.out]
      clear hg
      go_enter Try.func81, Try.ntmps81; go_wp2
      obtain ⟨_, _, _, k0, _, _, _⟩ := HX.out
      obtain ⟨_, _, _, k1, _, _, _⟩ := HY.out
      have gw0 : ∀ X, (grw (w) X).cell? ⟨bx, 3, none⟩ = some (.int .i64 x.hg) := grw_cell (by assumption)
      have gw1 : ∀ X, (grw (w) X).cell? ⟨by_, 3, none⟩ = some (.int .i64 y.hg) := grw_cell (by assumption)
      refine wp_region_grow (by kernel_rfl) (by kernel_rfl) ?_
      repeat (go_big_quiet_step (first | (go_at_call 75; with_reducible refine grow_same (size_any _ _ (by omega))) | (go_at_call 89; (with_reducible refine grow_of (boom15_is x A n c j bx _ hj (nr_near HNX.out) ?_ Ha0.out Ha1.out Ha2.out Ha3.out)); exact HX.out.late (grw_below _ _)) | (go_at_call 89; (with_reducible refine grow_of (boom15_is y A' n' c' k by_ _ hk (nr_near HNY.out) ?_ Hb0.out Hb1.out Hb2.out Hb3.out)); exact HY.out.late (grw_below _ _)) | (go_at_call 88; with_reducible refine grow_of (near14_is a0 a1 a2 a3 b0 b1 b2 b3 d _ HS1.out HS2.out hd HR.out)) | fail))
      refine wpQuiet_nil ?_
      rintro v1 ⟨X, hX⟩
      have hQ_v1 : Below (w).heap.size (w) v1 := by rw [hX]; exact grw_below _ _
      clear hX gw0 gw1
      clear k0 k1
      replace HX := Lib.hid (HX.out.late hQ_v1)
      replace HY := Lib.hid (HY.out.late hQ_v1)
      replace HB := Lib.hid (gr_then hQ_v1 HB.out)
      clear hQ_v1
      go_wp2_with fail
      go_returns
      exact ⟨rfl, HB.out⟩
    have HD := Lib.hid (show rsN x j y k d = V by rw [← HC.out, dg]; simp)
    clear hg
    by_cases h1 : x.hg < y.hg
    · have d1 := decide_eq_true h1
      have HM := Lib.hid (show msN x j y d = V by rw [← HD.out]; exact (if_pos h1).symm)
      clear h1
      go_enter Try.func81, Try.ntmps81; go_wp2
      obtain ⟨_, _, _, k0, _, _, _⟩ := HX.out
      obtain ⟨_, _, _, k1, _, _, _⟩ := HY.out
      have gw0 : ∀ X, (grw (w) X).cell? ⟨bx, 3, none⟩ = some (.int .i64 x.hg) := grw_cell (by assumption)
      have gw1 : ∀ X, (grw (w) X).cell? ⟨by_, 3, none⟩ = some (.int .i64 y.hg) := grw_cell (by assumption)
      refine wp_region_grow (by kernel_rfl) (by kernel_rfl) ?_
      repeat (go_big_quiet_step (first | (go_at_call 75; with_reducible refine grow_same (size_any _ _ (by omega))) | (go_at_call 89; (with_reducible refine grow_of (boom15_is x A n c j bx _ hj (nr_near HNX.out) ?_ Ha0.out Ha1.out Ha2.out Ha3.out)); exact HX.out.late (grw_below _ _)) | (go_at_call 89; (with_reducible refine grow_of (boom15_is y A' n' c' k by_ _ hk (nr_near HNY.out) ?_ Hb0.out Hb1.out Hb2.out Hb3.out)); exact HY.out.late (grw_below _ _)) | (go_at_call 88; with_reducible refine grow_of (near14_is a0 a1 a2 a3 b0 b1 b2 b3 d _ HS1.out HS2.out hd HR.out)) | fail))
      refine wpQuiet_nil ?_
      rintro v1 ⟨X, hX⟩
      have hQ_v1 : Below (w).heap.size (w) v1 := by rw [hX]; exact grw_below _ _
      clear hX gw0 gw1
      clear k0 k1
      replace HX := Lib.hid (HX.out.late hQ_v1)
      replace HY := Lib.hid (HY.out.late hQ_v1)
      replace HB := Lib.hid (gr_then hQ_v1 HB.out)
      clear hQ_v1
      go_wp2_with fail
      obtain ⟨_, _, _, k0, _, _, _⟩ := HX.out
      obtain ⟨_, _, _, k1, _, _, _⟩ := HY.out
      have gw0 : ∀ X, (grw (v1) X).cell? ⟨bx, 3, none⟩ = some (.int .i64 x.hg) := grw_cell (by assumption)
      have gw1 : ∀ X, (grw (v1) X).cell? ⟨by_, 3, none⟩ = some (.int .i64 y.hg) := grw_cell (by assumption)
      refine wp_region_grow (by kernel_rfl) (by kernel_rfl) ?_
      repeat (go_big_quiet_step (first | fail))
      refine wpQuiet_nil ?_
      rintro v2 ⟨X, hX⟩
      have hQ_v2 : Below (v1).heap.size (v1) v2 := by rw [hX]; exact grw_below _ _
      clear hX gw0 gw1
      clear k0 k1
      replace HX := Lib.hid (HX.out.late hQ_v2)
      replace HY := Lib.hid (HY.out.late hQ_v2)
      replace HB := Lib.hid (gr_then hQ_v2 HB.out)
      clear hQ_v2
      go_wp2_with fail
      go_at_call 90
      (with_reducible refine (mast_is x y A A' n c n' c' bx by_ j d _ hj HNX.out HNY.out hd HX.out HY.out HM.out).mono ?_)
      rintro e wz ⟨rfl, hb⟩
      have HB2 := Lib.hid (gr_then hb HB.out)
      clear hb
      go_wp2
      go_returns
      exact ⟨rfl, HB2.out⟩
    have d1 := decide_eq_false h1
    by_cases h2 : y.hg < x.hg
    · have d2 := decide_eq_true h2
      have HM := Lib.hid (show msN y k x d = V by rw [← HD.out]; unfold rsN; rw [if_neg h1, if_pos h2])
      clear h1 h2
      go_enter Try.func81, Try.ntmps81; go_wp2
      obtain ⟨_, _, _, k0, _, _, _⟩ := HX.out
      obtain ⟨_, _, _, k1, _, _, _⟩ := HY.out
      have gw0 : ∀ X, (grw (w) X).cell? ⟨bx, 3, none⟩ = some (.int .i64 x.hg) := grw_cell (by assumption)
      have gw1 : ∀ X, (grw (w) X).cell? ⟨by_, 3, none⟩ = some (.int .i64 y.hg) := grw_cell (by assumption)
      refine wp_region_grow (by kernel_rfl) (by kernel_rfl) ?_
      repeat (go_big_quiet_step (first | (go_at_call 75; with_reducible refine grow_same (size_any _ _ (by omega))) | (go_at_call 89; (with_reducible refine grow_of (boom15_is x A n c j bx _ hj (nr_near HNX.out) ?_ Ha0.out Ha1.out Ha2.out Ha3.out)); exact HX.out.late (grw_below _ _)) | (go_at_call 89; (with_reducible refine grow_of (boom15_is y A' n' c' k by_ _ hk (nr_near HNY.out) ?_ Hb0.out Hb1.out Hb2.out Hb3.out)); exact HY.out.late (grw_below _ _)) | (go_at_call 88; with_reducible refine grow_of (near14_is a0 a1 a2 a3 b0 b1 b2 b3 d _ HS1.out HS2.out hd HR.out)) | fail))
      refine wpQuiet_nil ?_
      rintro v1 ⟨X, hX⟩
      have hQ_v1 : Below (w).heap.size (w) v1 := by rw [hX]; exact grw_below _ _
      clear hX gw0 gw1
      clear k0 k1
      replace HX := Lib.hid (HX.out.late hQ_v1)
      replace HY := Lib.hid (HY.out.late hQ_v1)
      replace HB := Lib.hid (gr_then hQ_v1 HB.out)
      clear hQ_v1
      go_wp2_with fail
      obtain ⟨_, _, _, k0, _, _, _⟩ := HX.out
      obtain ⟨_, _, _, k1, _, _, _⟩ := HY.out
      have gw0 : ∀ X, (grw (v1) X).cell? ⟨bx, 3, none⟩ = some (.int .i64 x.hg) := grw_cell (by assumption)
      have gw1 : ∀ X, (grw (v1) X).cell? ⟨by_, 3, none⟩ = some (.int .i64 y.hg) := grw_cell (by assumption)
      refine wp_region_grow (by kernel_rfl) (by kernel_rfl) ?_
      repeat (go_big_quiet_step (first | fail))
      refine wpQuiet_nil ?_
      rintro v2 ⟨X, hX⟩
      have hQ_v2 : Below (v1).heap.size (v1) v2 := by rw [hX]; exact grw_below _ _
      clear hX gw0 gw1
      clear k0 k1
      replace HX := Lib.hid (HX.out.late hQ_v2)
      replace HY := Lib.hid (HY.out.late hQ_v2)
      replace HB := Lib.hid (gr_then hQ_v2 HB.out)
      clear hQ_v2
      go_wp2_with fail
      obtain ⟨_, _, _, k0, _, _, _⟩ := HX.out
      obtain ⟨_, _, _, k1, _, _, _⟩ := HY.out
      have gw0 : ∀ X, (grw (v2) X).cell? ⟨bx, 3, none⟩ = some (.int .i64 x.hg) := grw_cell (by assumption)
      have gw1 : ∀ X, (grw (v2) X).cell? ⟨by_, 3, none⟩ = some (.int .i64 y.hg) := grw_cell (by assumption)
      refine wp_region_grow (by kernel_rfl) (by kernel_rfl) ?_
      repeat (go_big_quiet_step (first | fail))
      refine wpQuiet_nil ?_
      rintro v3 ⟨X, hX⟩
      have hQ_v3 : Below (v2).heap.size (v2) v3 := by rw [hX]; exact grw_below _ _
      clear hX gw0 gw1
      clear k0 k1
      replace HX := Lib.hid (HX.out.late hQ_v3)
      replace HY := Lib.hid (HY.out.late hQ_v3)
      replace HB := Lib.hid (gr_then hQ_v3 HB.out)
      clear hQ_v3
      go_wp2_with fail
      go_at_call 90
      (with_reducible refine (mast_is y x A' A n' c' n c by_ bx k d _ hk HNY.out HNX.out hd HY.out HX.out HM.out).mono ?_)
      rintro e wz ⟨rfl, hb⟩
      have HB2 := Lib.hid (gr_then hb HB.out)
      clear hb
      go_wp2
      go_returns
      exact ⟨rfl, HB2.out⟩
    have d2 := decide_eq_false h2
    have HM := Lib.hid (show V = false by rw [← HD.out]; unfold rsN; rw [if_neg h1, if_neg h2])
    rw [HM.out]
    clear h1 h2
    go_enter Try.func81, Try.ntmps81; go_wp2
    obtain ⟨_, _, _, k0, _, _, _⟩ := HX.out
    obtain ⟨_, _, _, k1, _, _, _⟩ := HY.out
    have gw0 : ∀ X, (grw (w) X).cell? ⟨bx, 3, none⟩ = some (.int .i64 x.hg) := grw_cell (by assumption)
    have gw1 : ∀ X, (grw (w) X).cell? ⟨by_, 3, none⟩ = some (.int .i64 y.hg) := grw_cell (by assumption)
    refine wp_region_grow (by kernel_rfl) (by kernel_rfl) ?_
    repeat (go_big_quiet_step (first | (go_at_call 75; with_reducible refine grow_same (size_any _ _ (by omega))) | (go_at_call 89; (with_reducible refine grow_of (boom15_is x A n c j bx _ hj (nr_near HNX.out) ?_ Ha0.out Ha1.out Ha2.out Ha3.out)); exact HX.out.late (grw_below _ _)) | (go_at_call 89; (with_reducible refine grow_of (boom15_is y A' n' c' k by_ _ hk (nr_near HNY.out) ?_ Hb0.out Hb1.out Hb2.out Hb3.out)); exact HY.out.late (grw_below _ _)) | (go_at_call 88; with_reducible refine grow_of (near14_is a0 a1 a2 a3 b0 b1 b2 b3 d _ HS1.out HS2.out hd HR.out)) | fail))
    refine wpQuiet_nil ?_
    rintro v1 ⟨X, hX⟩
    have hQ_v1 : Below (w).heap.size (w) v1 := by rw [hX]; exact grw_below _ _
    clear hX gw0 gw1
    clear k0 k1
    replace HX := Lib.hid (HX.out.late hQ_v1)
    replace HY := Lib.hid (HY.out.late hQ_v1)
    replace HB := Lib.hid (gr_then hQ_v1 HB.out)
    clear hQ_v1
    go_wp2_with fail
    obtain ⟨_, _, _, k0, _, _, _⟩ := HX.out
    obtain ⟨_, _, _, k1, _, _, _⟩ := HY.out
    have gw0 : ∀ X, (grw (v1) X).cell? ⟨bx, 3, none⟩ = some (.int .i64 x.hg) := grw_cell (by assumption)
    have gw1 : ∀ X, (grw (v1) X).cell? ⟨by_, 3, none⟩ = some (.int .i64 y.hg) := grw_cell (by assumption)
    refine wp_region_grow (by kernel_rfl) (by kernel_rfl) ?_
    repeat (go_big_quiet_step (first | fail))
    refine wpQuiet_nil ?_
    rintro v2 ⟨X, hX⟩
    have hQ_v2 : Below (v1).heap.size (v1) v2 := by rw [hX]; exact grw_below _ _
    clear hX gw0 gw1
    clear k0 k1
    replace HX := Lib.hid (HX.out.late hQ_v2)
    replace HY := Lib.hid (HY.out.late hQ_v2)
    replace HB := Lib.hid (gr_then hQ_v2 HB.out)
    clear hQ_v2
    go_wp2_with fail
    obtain ⟨_, _, _, k0, _, _, _⟩ := HX.out
    obtain ⟨_, _, _, k1, _, _, _⟩ := HY.out
    have gw0 : ∀ X, (grw (v2) X).cell? ⟨bx, 3, none⟩ = some (.int .i64 x.hg) := grw_cell (by assumption)
    have gw1 : ∀ X, (grw (v2) X).cell? ⟨by_, 3, none⟩ = some (.int .i64 y.hg) := grw_cell (by assumption)
    refine wp_region_grow (by kernel_rfl) (by kernel_rfl) ?_
    repeat (go_big_quiet_step (first | fail))
    refine wpQuiet_nil ?_
    rintro v3 ⟨X, hX⟩
    have hQ_v3 : Below (v2).heap.size (v2) v3 := by rw [hX]; exact grw_below _ _
    clear hX gw0 gw1
    clear k0 k1
    replace HX := Lib.hid (HX.out.late hQ_v3)
    replace HY := Lib.hid (HY.out.late hQ_v3)
    replace HB := Lib.hid (gr_then hQ_v3 HB.out)
    clear hQ_v3
    go_wp2_with fail
    go_returns
    exact ⟨rfl, HB.out⟩
  have dg := decide_eq_false hg
  have HD := Lib.hid (show rsN x j y k d = V by rw [← HC.out, dg]; simp)
  clear hg
  by_cases h1 : x.hg < y.hg
  · have d1 := decide_eq_true h1
    have HM := Lib.hid (show msN x j y d = V by rw [← HD.out]; exact (if_pos h1).symm)
    clear h1
    go_enter Try.func81, Try.ntmps81; go_wp2
    obtain ⟨_, _, _, k0, _, _, _⟩ := HX.out
    obtain ⟨_, _, _, k1, _, _, _⟩ := HY.out
    have gw0 : ∀ X, (grw (w) X).cell? ⟨bx, 3, none⟩ = some (.int .i64 x.hg) := grw_cell (by assumption)
    have gw1 : ∀ X, (grw (w) X).cell? ⟨by_, 3, none⟩ = some (.int .i64 y.hg) := grw_cell (by assumption)
    refine wp_region_grow (by kernel_rfl) (by kernel_rfl) ?_
    repeat (go_big_quiet_step (first | (go_at_call 75; with_reducible refine grow_same (size_any _ _ (by omega))) | fail))
    refine wpQuiet_nil ?_
    rintro v1 ⟨X, hX⟩
    have hQ_v1 : Below (w).heap.size (w) v1 := by rw [hX]; exact grw_below _ _
    clear hX gw0 gw1
    clear k0 k1
    replace HX := Lib.hid (HX.out.late hQ_v1)
    replace HY := Lib.hid (HY.out.late hQ_v1)
    replace HB := Lib.hid (gr_then hQ_v1 HB.out)
    clear hQ_v1
    go_wp2_with fail
    obtain ⟨_, _, _, k0, _, _, _⟩ := HX.out
    obtain ⟨_, _, _, k1, _, _, _⟩ := HY.out
    have gw0 : ∀ X, (grw (v1) X).cell? ⟨bx, 3, none⟩ = some (.int .i64 x.hg) := grw_cell (by assumption)
    have gw1 : ∀ X, (grw (v1) X).cell? ⟨by_, 3, none⟩ = some (.int .i64 y.hg) := grw_cell (by assumption)
    refine wp_region_grow (by kernel_rfl) (by kernel_rfl) ?_
    repeat (go_big_quiet_step (first | fail))
    refine wpQuiet_nil ?_
    rintro v2 ⟨X, hX⟩
    have hQ_v2 : Below (v1).heap.size (v1) v2 := by rw [hX]; exact grw_below _ _
    clear hX gw0 gw1
    clear k0 k1
    replace HX := Lib.hid (HX.out.late hQ_v2)
    replace HY := Lib.hid (HY.out.late hQ_v2)
    replace HB := Lib.hid (gr_then hQ_v2 HB.out)
    clear hQ_v2
    go_wp2_with fail
    go_at_call 90
    (with_reducible refine (mast_is x y A A' n c n' c' bx by_ j d _ hj HNX.out HNY.out hd HX.out HY.out HM.out).mono ?_)
    rintro e wz ⟨rfl, hb⟩
    have HB2 := Lib.hid (gr_then hb HB.out)
    clear hb
    go_wp2
    go_returns
    exact ⟨rfl, HB2.out⟩
  have d1 := decide_eq_false h1
  by_cases h2 : y.hg < x.hg
  · have d2 := decide_eq_true h2
    have HM := Lib.hid (show msN y k x d = V by rw [← HD.out]; unfold rsN; rw [if_neg h1, if_pos h2])
    clear h1 h2
    go_enter Try.func81, Try.ntmps81; go_wp2
    obtain ⟨_, _, _, k0, _, _, _⟩ := HX.out
    obtain ⟨_, _, _, k1, _, _, _⟩ := HY.out
    have gw0 : ∀ X, (grw (w) X).cell? ⟨bx, 3, none⟩ = some (.int .i64 x.hg) := grw_cell (by assumption)
    have gw1 : ∀ X, (grw (w) X).cell? ⟨by_, 3, none⟩ = some (.int .i64 y.hg) := grw_cell (by assumption)
    refine wp_region_grow (by kernel_rfl) (by kernel_rfl) ?_
    repeat (go_big_quiet_step (first | (go_at_call 75; with_reducible refine grow_same (size_any _ _ (by omega))) | fail))
    refine wpQuiet_nil ?_
    rintro v1 ⟨X, hX⟩
    have hQ_v1 : Below (w).heap.size (w) v1 := by rw [hX]; exact grw_below _ _
    clear hX gw0 gw1
    clear k0 k1
    replace HX := Lib.hid (HX.out.late hQ_v1)
    replace HY := Lib.hid (HY.out.late hQ_v1)
    replace HB := Lib.hid (gr_then hQ_v1 HB.out)
    clear hQ_v1
    go_wp2_with fail
    obtain ⟨_, _, _, k0, _, _, _⟩ := HX.out
    obtain ⟨_, _, _, k1, _, _, _⟩ := HY.out
    have gw0 : ∀ X, (grw (v1) X).cell? ⟨bx, 3, none⟩ = some (.int .i64 x.hg) := grw_cell (by assumption)
    have gw1 : ∀ X, (grw (v1) X).cell? ⟨by_, 3, none⟩ = some (.int .i64 y.hg) := grw_cell (by assumption)
    refine wp_region_grow (by kernel_rfl) (by kernel_rfl) ?_
    repeat (go_big_quiet_step (first | fail))
    refine wpQuiet_nil ?_
    rintro v2 ⟨X, hX⟩
    have hQ_v2 : Below (v1).heap.size (v1) v2 := by rw [hX]; exact grw_below _ _
    clear hX gw0 gw1
    clear k0 k1
    replace HX := Lib.hid (HX.out.late hQ_v2)
    replace HY := Lib.hid (HY.out.late hQ_v2)
    replace HB := Lib.hid (gr_then hQ_v2 HB.out)
    clear hQ_v2
    go_wp2_with fail
    obtain ⟨_, _, _, k0, _, _, _⟩ := HX.out
    obtain ⟨_, _, _, k1, _, _, _⟩ := HY.out
    have gw0 : ∀ X, (grw (v2) X).cell? ⟨bx, 3, none⟩ = some (.int .i64 x.hg) := grw_cell (by assumption)
    have gw1 : ∀ X, (grw (v2) X).cell? ⟨by_, 3, none⟩ = some (.int .i64 y.hg) := grw_cell (by assumption)
    refine wp_region_grow (by kernel_rfl) (by kernel_rfl) ?_
    repeat (go_big_quiet_step (first | fail))
    refine wpQuiet_nil ?_
    rintro v3 ⟨X, hX⟩
    have hQ_v3 : Below (v2).heap.size (v2) v3 := by rw [hX]; exact grw_below _ _
    clear hX gw0 gw1
    clear k0 k1
    replace HX := Lib.hid (HX.out.late hQ_v3)
    replace HY := Lib.hid (HY.out.late hQ_v3)
    replace HB := Lib.hid (gr_then hQ_v3 HB.out)
    clear hQ_v3
    go_wp2_with fail
    go_at_call 90
    (with_reducible refine (mast_is y x A' A n' c' n c by_ bx k d _ hk HNY.out HNX.out hd HY.out HX.out HM.out).mono ?_)
    rintro e wz ⟨rfl, hb⟩
    have HB2 := Lib.hid (gr_then hb HB.out)
    clear hb
    go_wp2
    go_returns
    exact ⟨rfl, HB2.out⟩
  have d2 := decide_eq_false h2
  have HM := Lib.hid (show V = false by rw [← HD.out]; unfold rsN; rw [if_neg h1, if_neg h2])
  rw [HM.out]
  clear h1 h2
  go_enter Try.func81, Try.ntmps81; go_wp2
  obtain ⟨_, _, _, k0, _, _, _⟩ := HX.out
  obtain ⟨_, _, _, k1, _, _, _⟩ := HY.out
  have gw0 : ∀ X, (grw (w) X).cell? ⟨bx, 3, none⟩ = some (.int .i64 x.hg) := grw_cell (by assumption)
  have gw1 : ∀ X, (grw (w) X).cell? ⟨by_, 3, none⟩ = some (.int .i64 y.hg) := grw_cell (by assumption)
  refine wp_region_grow (by kernel_rfl) (by kernel_rfl) ?_
  repeat (go_big_quiet_step (first | (go_at_call 75; with_reducible refine grow_same (size_any _ _ (by omega))) | fail))
  refine wpQuiet_nil ?_
  rintro v1 ⟨X, hX⟩
  have hQ_v1 : Below (w).heap.size (w) v1 := by rw [hX]; exact grw_below _ _
  clear hX gw0 gw1
  clear k0 k1
  replace HX := Lib.hid (HX.out.late hQ_v1)
  replace HY := Lib.hid (HY.out.late hQ_v1)
  replace HB := Lib.hid (gr_then hQ_v1 HB.out)
  clear hQ_v1
  go_wp2_with fail
  obtain ⟨_, _, _, k0, _, _, _⟩ := HX.out
  obtain ⟨_, _, _, k1, _, _, _⟩ := HY.out
  have gw0 : ∀ X, (grw (v1) X).cell? ⟨bx, 3, none⟩ = some (.int .i64 x.hg) := grw_cell (by assumption)
  have gw1 : ∀ X, (grw (v1) X).cell? ⟨by_, 3, none⟩ = some (.int .i64 y.hg) := grw_cell (by assumption)
  refine wp_region_grow (by kernel_rfl) (by kernel_rfl) ?_
  repeat (go_big_quiet_step (first | fail))
  refine wpQuiet_nil ?_
  rintro v2 ⟨X, hX⟩
  have hQ_v2 : Below (v1).heap.size (v1) v2 := by rw [hX]; exact grw_below _ _
  clear hX gw0 gw1
  clear k0 k1
  replace HX := Lib.hid (HX.out.late hQ_v2)
  replace HY := Lib.hid (HY.out.late hQ_v2)
  replace HB := Lib.hid (gr_then hQ_v2 HB.out)
  clear hQ_v2
  go_wp2_with fail
  obtain ⟨_, _, _, k0, _, _, _⟩ := HX.out
  obtain ⟨_, _, _, k1, _, _, _⟩ := HY.out
  have gw0 : ∀ X, (grw (v2) X).cell? ⟨bx, 3, none⟩ = some (.int .i64 x.hg) := grw_cell (by assumption)
  have gw1 : ∀ X, (grw (v2) X).cell? ⟨by_, 3, none⟩ = some (.int .i64 y.hg) := grw_cell (by assumption)
  refine wp_region_grow (by kernel_rfl) (by kernel_rfl) ?_
  repeat (go_big_quiet_step (first | fail))
  refine wpQuiet_nil ?_
  rintro v3 ⟨X, hX⟩
  have hQ_v3 : Below (v2).heap.size (v2) v3 := by rw [hX]; exact grw_below _ _
  clear hX gw0 gw1
  clear k0 k1
  replace HX := Lib.hid (HX.out.late hQ_v3)
  replace HY := Lib.hid (HY.out.late hQ_v3)
  replace HB := Lib.hid (gr_then hQ_v3 HB.out)
  clear hQ_v3
  go_wp2_with fail
  go_returns
  exact ⟨rfl, HB.out⟩
end Go.Proofs.Ytmgbbkglafnibaa
