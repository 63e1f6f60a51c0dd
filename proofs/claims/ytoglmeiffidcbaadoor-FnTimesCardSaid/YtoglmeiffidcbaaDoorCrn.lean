/- Cranes: whether one is valid, both sides. -/
import Derived.Test.YtoglmeiffidcbaaDoorPlc
import Derived.Test.YtoglmeiffidcbaaDoorCht
import Derived.Test.YtoglmeiffidcbaaDoorName
import Derived.Test.YtoglmeiffidcbaaDoorOpenCrane
import Derived.Test.YtoglmeiffidcbaaDoorGrow
import Derived.BigQuiet
namespace Go.Proofs.YtoglmeiffidcbaaDoor
open Go.RowKit Go.Deep
theorem SI.later {w w' : World} {A : Option Addr} {zs : List Int} (h : SI w w.heap.size A zs) (hb : Below w.heap.size w w') : SI w' w'.heap.size A zs := (h.below hb).more hb.size
theorem implNm_is {s : ByteArray} {r : Bool} (h : okNm s = r) (w : World) (hn : s.size ≤ 9223372036854775806) : Calls Tryd.prog 65 #[.string s] w fun e w' => e = .returned (.bool r) ∧ w = w' := by rw [← h]; exact implNm_any s w hn
theorem specNm_is {s : ByteArray} {r : Bool} (h : okNm s = r) (w : World) (hn : s.size ≤ 9223372036854775806) : Calls Tryd.prog 54 #[.string s] w fun e w' => e = .returned (.bool r) ∧ w = w' := by rw [← h]; exact specNm_any s w hn
def okPl (x y : Int) : Bool := inI x (-10000) 10000 && inI y (-10000) 10000
theorem okPl_t {x y : Int} (h : okPl x y = true) : (-10000 ≤ x ∧ x ≤ 10000) ∧ (-10000 ≤ y ∧ y ≤ 10000) := by unfold okPl at h; simp only [Bool.and_eq_true] at h; exact ⟨inI_t h.1, inI_t h.2⟩
def okCr (x : Cr) (n : Nat) : Bool := okNm x.nm && (okPl x.px x.py && (inI x.hg 1 2000 && (inI x.jb 1 1000 && (inI x.bk 0 x.jb && (okCh x.zs n && decide (rdC x.zs (n - 1) ≤ x.jb))))))
theorem okCr_t {x : Cr} {n : Nat} (h : okCr x n = true) : ((-10000 ≤ x.px ∧ x.px ≤ 10000) ∧ (-10000 ≤ x.py ∧ x.py ≤ 10000)) ∧ (1 ≤ x.hg ∧ x.hg ≤ 2000) ∧ (1 ≤ x.jb ∧ x.jb ≤ 1000) ∧ (0 ≤ x.bk ∧ x.bk ≤ x.jb) ∧ okCh x.zs n = true ∧ rdC x.zs (n - 1) ≤ x.jb := by
  unfold okCr at h
  simp only [Bool.and_eq_true, decide_eq_true_eq] at h
  exact ⟨okPl_t h.2.1, inI_t h.2.2.1, inI_t h.2.2.2.1, inI_t h.2.2.2.2.1, h.2.2.2.2.2⟩
set_option maxHeartbeats 1000000 in
theorem validPl_any (x y : Int) (w : World) : Calls Tryd.prog 39 #[.agg #[.int .i64 x, .int .i64 y]] w fun e w' => e = .returned (.bool (okPl x y)) ∧ Below w.heap.size w w' := by
  obtain ⟨q1, h1⟩ : ∃ q, inI x (-10000) 10000 = q := ⟨_, rfl⟩
  obtain ⟨q2, h2⟩ : ∃ q, inI y (-10000) 10000 = q := ⟨_, rfl⟩
  have HR := Lib.hid (show okPl x y = (q1 && q2) by unfold okPl; rw [h1, h2])
  cases q1
  · go_enter Tryd.func39, Tryd.ntmps39; go_wp2_with (go_at_call 28; (with_reducible refine (incht_is (by assumption) (within_any _ _ _ _)).mono ?_); rintro e w1 ⟨rfl, rfl⟩); go_returns; exact ⟨ret_bool (HR.out.trans rfl).symm, by repeat' first | exact gr_refl _ | with_reducible assumption | with_reducible apply gr_alloc | with_reducible apply gr_set | with_reducible apply gr_drew | with_reducible apply gr_drewN | exact Nat.le_add_right _ _ | exact Nat.le_refl _ | (refine gr_then (by with_reducible assumption) ?_)⟩
  cases q2
  · go_enter Tryd.func39, Tryd.ntmps39; go_wp2_with (go_at_call 28; (with_reducible refine (incht_is (by assumption) (within_any _ _ _ _)).mono ?_); rintro e w1 ⟨rfl, rfl⟩); go_returns; exact ⟨ret_bool (HR.out.trans rfl).symm, by repeat' first | exact gr_refl _ | with_reducible assumption | with_reducible apply gr_alloc | with_reducible apply gr_set | with_reducible apply gr_drew | with_reducible apply gr_drewN | exact Nat.le_add_right _ _ | exact Nat.le_refl _ | (refine gr_then (by with_reducible assumption) ?_)⟩
  · go_enter Tryd.func39, Tryd.ntmps39; go_wp2_with (go_at_call 28; (with_reducible refine (incht_is (by assumption) (within_any _ _ _ _)).mono ?_); rintro e w1 ⟨rfl, rfl⟩); go_returns; exact ⟨ret_bool (HR.out.trans rfl).symm, by repeat' first | exact gr_refl _ | with_reducible assumption | with_reducible apply gr_alloc | with_reducible apply gr_set | with_reducible apply gr_drew | with_reducible apply gr_drewN | exact Nat.le_add_right _ _ | exact Nat.le_refl _ | (refine gr_then (by with_reducible assumption) ?_)⟩
theorem validPl_is {x y : Int} {r : Bool} (h : okPl x y = r) (w : World) : Calls Tryd.prog 39 #[.agg #[.int .i64 x, .int .i64 y]] w fun e w' => e = .returned (.bool r) ∧ Below w.heap.size w w' := by rw [← h]; exact validPl_any x y w
set_option maxHeartbeats 1000000 in
theorem pl02_any (x y : Int) (w : World) : Calls Tryd.prog 34 #[.agg #[.int .i64 x, .int .i64 y]] w fun e w' => e = .returned (.bool (okPl x y)) ∧ Below w.heap.size w w' := by
  obtain ⟨q1, h1⟩ : ∃ q, inI x (-10000) 10000 = q := ⟨_, rfl⟩
  obtain ⟨q2, h2⟩ : ∃ q, inI y (-10000) 10000 = q := ⟨_, rfl⟩
  have HR := Lib.hid (show okPl x y = (q1 && q2) by unfold okPl; rw [h1, h2])
  cases q1
  · go_enter Tryd.func34, Tryd.ntmps34; go_wp2_with (go_at_call 25; (with_reducible refine (incht_is (by assumption) (in_any _ _ _ _)).mono ?_); rintro e w1 ⟨rfl, rfl⟩); go_returns; exact ⟨ret_bool (HR.out.trans rfl).symm, by repeat' first | exact gr_refl _ | with_reducible assumption | with_reducible apply gr_alloc | with_reducible apply gr_set | with_reducible apply gr_drew | with_reducible apply gr_drewN | exact Nat.le_add_right _ _ | exact Nat.le_refl _ | (refine gr_then (by with_reducible assumption) ?_)⟩
  cases q2
  · go_enter Tryd.func34, Tryd.ntmps34; go_wp2_with (go_at_call 25; (with_reducible refine (incht_is (by assumption) (in_any _ _ _ _)).mono ?_); rintro e w1 ⟨rfl, rfl⟩); go_returns; exact ⟨ret_bool (HR.out.trans rfl).symm, by repeat' first | exact gr_refl _ | with_reducible assumption | with_reducible apply gr_alloc | with_reducible apply gr_set | with_reducible apply gr_drew | with_reducible apply gr_drewN | exact Nat.le_add_right _ _ | exact Nat.le_refl _ | (refine gr_then (by with_reducible assumption) ?_)⟩
  · go_enter Tryd.func34, Tryd.ntmps34; go_wp2_with (go_at_call 25; (with_reducible refine (incht_is (by assumption) (in_any _ _ _ _)).mono ?_); rintro e w1 ⟨rfl, rfl⟩); go_returns; exact ⟨ret_bool (HR.out.trans rfl).symm, by repeat' first | exact gr_refl _ | with_reducible assumption | with_reducible apply gr_alloc | with_reducible apply gr_set | with_reducible apply gr_drew | with_reducible apply gr_drewN | exact Nat.le_add_right _ _ | exact Nat.le_refl _ | (refine gr_then (by with_reducible assumption) ?_)⟩
theorem pl02_is {x y : Int} {r : Bool} (h : okPl x y = r) (w : World) : Calls Tryd.prog 34 #[.agg #[.int .i64 x, .int .i64 y]] w fun e w' => e = .returned (.bool r) ∧ Below w.heap.size w w' := by rw [← h]; exact pl02_any x y w
theorem l03Ok_is {A : Option Addr} {n c : Nat} {zs : List Int} {r : Bool} (hr : okCh zs n = r) (w : World) (hn : n ≤ 1048576) (hz : zs.length = n * 2) (h : SI w w.heap.size A zs) : Calls Tryd.prog 55 #[.slice A n c] w fun e w' => e = .returned (.bool r) ∧ Below w.heap.size w w' := by rw [← hr]; exact l03Ok_any A n c zs w hn hz h
theorem validChart_is {A : Option Addr} {n c : Nat} {zs : List Int} {r : Bool} (hr : okCh zs n = r) (w : World) (hn : n ≤ 1048576) (hz : zs.length = n * 2) (h : SI w w.heap.size A zs) : Calls Tryd.prog 66 #[.slice A n c] w fun e w' => e = .returned (.bool r) ∧ Below w.heap.size w w' := by rw [← hr]; exact validChart_any A n c zs w hn hz h
theorem last_any {A : Option Addr} {m c : Nat} {zs : List Int} (w : World) (hn : m + 1 ≤ 1048576) (hz : zs.length = (m + 1) * 2) (h : SI w w.heap.size A zs) : Calls Tryd.prog 56 #[.slice A (m + 1) c] w fun e w' => e = .returned (.int .i64 (rdC zs m)) ∧ w = w' := by
  obtain ⟨b1, o1, hA1, hB1, p0, _⟩ := si2 h hz (show m < m + 1 by omega)
  subst hA1
  have hm1 : (((m + 1 : Nat) : Int)) - 1 = (m : Int) := by omega
  clear h
  go_enter Tryd.func56, Tryd.ntmps56
  go_wp2_with fail
  go_returns
  exact ⟨rfl, rfl⟩
set_option maxHeartbeats 8000000 in
set_option maxRecDepth 20000 in
theorem validCr_any (x : Cr) (A : Option Addr) (n c : Nat) (w : World) (hn : n ≤ 1048576) (hz : x.zs.length = n * 2) (hk : x.nm.size ≤ 9223372036854775806) (h : SI w w.heap.size A x.zs) : Calls Tryd.prog 38 #[.agg #[.string x.nm, .int .i64 x.px, .int .i64 x.py, .int .i64 x.hg, .int .i64 x.jb, .int .i64 x.bk, .slice A n c]] w fun e w' => e = .returned (.bool (okCr x n)) ∧ Below w.heap.size w w' := by
  have HC := Lib.hid (Cc.box w 38 x A n c)
  have hb : Below w.heap.size w (w.alloc (.cells #[.string x.nm, .int .i64 x.px, .int .i64 x.py, .int .i64 x.hg, .int .i64 x.jb, .int .i64 x.bk, .slice A n c] 38)) := gr_alloc (gr_refl _)
  have HS := Lib.hid (h.later hb)
  have HB := Lib.hid hb
  clear hb h
  obtain ⟨c0, c1, c2, c3, c4, c5, c6⟩ := HC.out
  go_enter Tryd.func38, Tryd.ntmps38
  go_wp2_with fail
  generalize w.alloc (.cells #[.string x.nm, .int .i64 x.px, .int .i64 x.py, .int .i64 x.hg, .int .i64 x.jb, .int .i64 x.bk, .slice A n c] 38) = v0 at *
  clear c0 c1 c2 c3 c4 c5 c6
  obtain ⟨q1, h1⟩ : ∃ q, okNm x.nm = q := ⟨_, rfl⟩
  have HQ1 := Lib.hid h1
  clear h1
  go_at_call 65
  (with_reducible refine (implNm_is HQ1.out _ hk).mono ?_)
  rintro e w1 ⟨rfl, rfl⟩
  cases q1
  · clear HS; obtain ⟨c0, c1, c2, c3, c4, c5, c6⟩ := HC.out
    have hbad := Lib.hid (show okCr x n = false by unfold okCr; rw [HQ1.out]; simp)
    go_wp2_with fail
    go_returns
    exact ⟨ret_bool hbad.out.symm, HB.out⟩
  obtain ⟨c0, c1, c2, c3, c4, c5, c6⟩ := HC.out
  go_wp2_with fail
  clear c0 c1 c2 c3 c4 c5 c6
  obtain ⟨q2, h2⟩ : ∃ q, okPl x.px x.py = q := ⟨_, rfl⟩
  have HQ2 := Lib.hid h2
  clear h2
  go_at_call 39
  (with_reducible refine (validPl_is HQ2.out _).mono ?_)
  rintro e w2 ⟨rfl, hb⟩
  replace HC := Lib.hid (HC.out.late hb)
  replace HS := Lib.hid (HS.out.later hb)
  replace HB := Lib.hid (gr_then hb HB.out)
  clear hb
  cases q2
  · clear HS; obtain ⟨c0, c1, c2, c3, c4, c5, c6⟩ := HC.out
    have hbad := Lib.hid (show okCr x n = false by unfold okCr; rw [HQ1.out, HQ2.out]; simp)
    go_wp2_with fail
    go_returns
    exact ⟨ret_bool hbad.out.symm, HB.out⟩
  obtain ⟨c0, c1, c2, c3, c4, c5, c6⟩ := HC.out
  go_wp2_with fail
  clear c0 c1 c2 c3 c4 c5 c6
  obtain ⟨q3, h3⟩ : ∃ q, inI x.hg 1 2000 = q := ⟨_, rfl⟩
  have HQ3 := Lib.hid h3
  clear h3
  go_at_call 28
  (with_reducible refine (incht_is HQ3.out (within_any _ _ _ _)).mono ?_)
  rintro e w3 ⟨rfl, rfl⟩
  cases q3
  · clear HS; obtain ⟨c0, c1, c2, c3, c4, c5, c6⟩ := HC.out
    have hbad := Lib.hid (show okCr x n = false by unfold okCr; rw [HQ1.out, HQ2.out, HQ3.out]; simp)
    go_wp2_with fail
    go_returns
    exact ⟨ret_bool hbad.out.symm, HB.out⟩
  obtain ⟨c0, c1, c2, c3, c4, c5, c6⟩ := HC.out
  go_wp2_with fail
  clear c0 c1 c2 c3 c4 c5 c6
  obtain ⟨q4, h4⟩ : ∃ q, inI x.jb 1 1000 = q := ⟨_, rfl⟩
  have HQ4 := Lib.hid h4
  clear h4
  go_at_call 28
  (with_reducible refine (incht_is HQ4.out (within_any _ _ _ _)).mono ?_)
  rintro e w4 ⟨rfl, rfl⟩
  cases q4
  · clear HS; obtain ⟨c0, c1, c2, c3, c4, c5, c6⟩ := HC.out
    have hbad := Lib.hid (show okCr x n = false by unfold okCr; rw [HQ1.out, HQ2.out, HQ3.out, HQ4.out]; simp)
    go_wp2_with fail
    go_returns
    exact ⟨ret_bool hbad.out.symm, HB.out⟩
  obtain ⟨c0, c1, c2, c3, c4, c5, c6⟩ := HC.out
  go_wp2_with fail
  clear c0 c1 c2 c3 c4 c5 c6
  obtain ⟨q5, h5⟩ : ∃ q, inI x.bk 0 x.jb = q := ⟨_, rfl⟩
  have HQ5 := Lib.hid h5
  clear h5
  go_at_call 28
  (with_reducible refine (incht_is HQ5.out (within_any _ _ _ _)).mono ?_)
  rintro e w5 ⟨rfl, rfl⟩
  cases q5
  · clear HS; obtain ⟨c0, c1, c2, c3, c4, c5, c6⟩ := HC.out
    have hbad := Lib.hid (show okCr x n = false by unfold okCr; rw [HQ1.out, HQ2.out, HQ3.out, HQ4.out, HQ5.out]; simp)
    go_wp2_with fail
    go_returns
    exact ⟨ret_bool hbad.out.symm, HB.out⟩
  obtain ⟨c0, c1, c2, c3, c4, c5, c6⟩ := HC.out
  go_wp2_with fail
  clear c0 c1 c2 c3 c4 c5 c6
  obtain ⟨q6, h6⟩ : ∃ q, okCh x.zs n = q := ⟨_, rfl⟩
  have HQ6 := Lib.hid h6
  clear h6
  obtain ⟨q7, h7⟩ : ∃ q, decide (rdC x.zs (n - 1) ≤ x.jb) = q := ⟨_, rfl⟩
  have HQ7 := Lib.hid h7
  clear h7
  cases q6
  case false =>
    have hv := Lib.hid (show okCr x n = false by unfold okCr; rw [HQ1.out, HQ2.out, HQ3.out, HQ4.out, HQ5.out, HQ6.out]; simp)
    obtain ⟨c0, c1, c2, c3, c4, c5, c6⟩ := HC.out
    have gw0 : ∀ X, (grw (w2) X).cell? ⟨w.heap.size, 6, none⟩ = some (.slice A n c) := grw_cell (by assumption)
    have gw1 : ∀ X, (grw (w2) X).cell? ⟨w.heap.size, 4, none⟩ = some (.int .i64 x.jb) := grw_cell (by assumption)
    refine wp_region_grow (by kernel_rfl) (by kernel_rfl) ?_
    repeat (go_big_quiet_step (first | (go_at_call 66; exact grow_of (validChart_is HQ6.out _ hn hz (HS.out.later (grw_below _ _)))) | fail))
    refine wpQuiet_nil ?_
    rintro wq ⟨X, hX⟩
    have hQ_wq : Below (w2).heap.size (w2) wq := by rw [hX]; exact grw_below _ _
    clear hX gw0 gw1
    clear c0 c1 c2 c3 c4 c5 c6
    go_wp2_with fail
    go_returns
    exact ⟨ret_bool hv.out.symm, gr_then hQ_wq HB.out⟩
  cases q7
  case false =>
    have hv := Lib.hid (show okCr x n = false by unfold okCr; rw [HQ1.out, HQ2.out, HQ3.out, HQ4.out, HQ5.out, HQ6.out, HQ7.out]; rfl)
    obtain ⟨m, rfl⟩ : ∃ m, n = m + 1 := ⟨n - 1, by have h9 := (okCh_t HQ6.out).2; omega⟩
    have hm1 : (((m + 1 : Nat) : Int)) - 1 = (m : Int) := by omega
    have hle : decide (rdC x.zs m ≤ x.jb) = false := HQ7.out
    obtain ⟨b1, o1, hA1, hB1, p0, _⟩ := si2 HS.out hz (show m < m + 1 by omega)
    subst hA1
    obtain ⟨c0, c1, c2, c3, c4, c5, c6⟩ := HC.out
    have gw0 : ∀ X, (grw (w2) X).cell? ⟨w.heap.size, 6, none⟩ = some (.slice (some ⟨b1, o1, none⟩) (m + 1) c) := grw_cell (by assumption)
    have gw1 : ∀ X, (grw (w2) X).cell? ⟨w.heap.size, 4, none⟩ = some (.int .i64 x.jb) := grw_cell (by assumption)
    have gw2 : ∀ X, (grw (w2) X).cell? ⟨b1, o1 + m * 2, none⟩ = some (.int .i64 (rdC x.zs m)) := grw_cell (by assumption)
    refine wp_region_grow (by kernel_rfl) (by kernel_rfl) ?_
    repeat (go_big_quiet_step (first | (go_at_call 66; exact grow_of (validChart_is HQ6.out _ hn hz (HS.out.later (grw_below _ _)))) | fail))
    refine wpQuiet_nil ?_
    rintro wq ⟨X, hX⟩
    have hQ_wq : Below (w2).heap.size (w2) wq := by rw [hX]; exact grw_below _ _
    clear hX gw0 gw1 gw2
    clear c0 c1 c2 c3 c4 c5 c6 p0
    go_wp2_with fail
    go_returns
    exact ⟨ret_bool hv.out.symm, gr_then hQ_wq HB.out⟩
  have hv := Lib.hid (show okCr x n = true by unfold okCr; rw [HQ1.out, HQ2.out, HQ3.out, HQ4.out, HQ5.out, HQ6.out, HQ7.out]; rfl)
  obtain ⟨m, rfl⟩ : ∃ m, n = m + 1 := ⟨n - 1, by have h9 := (okCh_t HQ6.out).2; omega⟩
  have hm1 : (((m + 1 : Nat) : Int)) - 1 = (m : Int) := by omega
  have hle : decide (rdC x.zs m ≤ x.jb) = true := HQ7.out
  obtain ⟨b1, o1, hA1, hB1, p0, _⟩ := si2 HS.out hz (show m < m + 1 by omega)
  subst hA1
  obtain ⟨c0, c1, c2, c3, c4, c5, c6⟩ := HC.out
  have gw0 : ∀ X, (grw (w2) X).cell? ⟨w.heap.size, 6, none⟩ = some (.slice (some ⟨b1, o1, none⟩) (m + 1) c) := grw_cell (by assumption)
  have gw1 : ∀ X, (grw (w2) X).cell? ⟨w.heap.size, 4, none⟩ = some (.int .i64 x.jb) := grw_cell (by assumption)
  have gw2 : ∀ X, (grw (w2) X).cell? ⟨b1, o1 + m * 2, none⟩ = some (.int .i64 (rdC x.zs m)) := grw_cell (by assumption)
  refine wp_region_grow (by kernel_rfl) (by kernel_rfl) ?_
  repeat (go_big_quiet_step (first | (go_at_call 66; exact grow_of (validChart_is HQ6.out _ hn hz (HS.out.later (grw_below _ _)))) | fail))
  refine wpQuiet_nil ?_
  rintro wq ⟨X, hX⟩
  have hQ_wq : Below (w2).heap.size (w2) wq := by rw [hX]; exact grw_below _ _
  clear hX gw0 gw1 gw2
  clear c0 c1 c2 c3 c4 c5 c6 p0
  go_wp2_with fail
  go_returns
  exact ⟨ret_bool hv.out.symm, gr_then hQ_wq HB.out⟩
set_option maxHeartbeats 8000000 in
set_option maxRecDepth 20000 in
theorem okCr04_any (x : Cr) (A : Option Addr) (n c : Nat) (b : Nat) (w : World) (hn : n ≤ 1048576) (hz : x.zs.length = n * 2) (hk : x.nm.size ≤ 9223372036854775806) (hc : Cc w b x A n c) (h : SI w w.heap.size A x.zs) : Calls Tryd.prog 33 #[.pointer (some ⟨b, 0, none⟩)] w fun e w' => e = .returned (.bool (okCr x n)) ∧ Below w.heap.size w w' := by
  have HC := Lib.hid hc
  have HS := Lib.hid h
  have HB := Lib.hid (gr_refl w)
  clear hc h
  obtain ⟨c0, c1, c2, c3, c4, c5, c6⟩ := HC.out
  go_enter Tryd.func33, Tryd.ntmps33
  go_wp2_with fail
  clear c0 c1 c2 c3 c4 c5 c6
  obtain ⟨q1, h1⟩ : ∃ q, okNm x.nm = q := ⟨_, rfl⟩
  have HQ1 := Lib.hid h1
  clear h1
  go_at_call 54
  (with_reducible refine (specNm_is HQ1.out _ hk).mono ?_)
  rintro e w1 ⟨rfl, rfl⟩
  cases q1
  · clear HS; obtain ⟨c0, c1, c2, c3, c4, c5, c6⟩ := HC.out
    have hbad := Lib.hid (show okCr x n = false by unfold okCr; rw [HQ1.out]; simp)
    go_wp2_with fail
    go_returns
    exact ⟨ret_bool hbad.out.symm, HB.out⟩
  obtain ⟨c0, c1, c2, c3, c4, c5, c6⟩ := HC.out
  go_wp2_with fail
  clear c0 c1 c2 c3 c4 c5 c6
  obtain ⟨q2, h2⟩ : ∃ q, okPl x.px x.py = q := ⟨_, rfl⟩
  have HQ2 := Lib.hid h2
  clear h2
  go_at_call 34
  (with_reducible refine (pl02_is HQ2.out _).mono ?_)
  rintro e w2 ⟨rfl, hb⟩
  replace HC := Lib.hid (HC.out.late hb)
  replace HS := Lib.hid (HS.out.later hb)
  replace HB := Lib.hid (gr_then hb HB.out)
  clear hb
  cases q2
  · clear HS; obtain ⟨c0, c1, c2, c3, c4, c5, c6⟩ := HC.out
    have hbad := Lib.hid (show okCr x n = false by unfold okCr; rw [HQ1.out, HQ2.out]; simp)
    go_wp2_with fail
    go_returns
    exact ⟨ret_bool hbad.out.symm, HB.out⟩
  obtain ⟨c0, c1, c2, c3, c4, c5, c6⟩ := HC.out
  go_wp2_with fail
  clear c0 c1 c2 c3 c4 c5 c6
  obtain ⟨q3, h3⟩ : ∃ q, inI x.hg 1 2000 = q := ⟨_, rfl⟩
  have HQ3 := Lib.hid h3
  clear h3
  go_at_call 25
  (with_reducible refine (incht_is HQ3.out (in_any _ _ _ _)).mono ?_)
  rintro e w3 ⟨rfl, rfl⟩
  cases q3
  · clear HS; obtain ⟨c0, c1, c2, c3, c4, c5, c6⟩ := HC.out
    have hbad := Lib.hid (show okCr x n = false by unfold okCr; rw [HQ1.out, HQ2.out, HQ3.out]; simp)
    go_wp2_with fail
    go_returns
    exact ⟨ret_bool hbad.out.symm, HB.out⟩
  obtain ⟨c0, c1, c2, c3, c4, c5, c6⟩ := HC.out
  go_wp2_with fail
  clear c0 c1 c2 c3 c4 c5 c6
  obtain ⟨q4, h4⟩ : ∃ q, inI x.jb 1 1000 = q := ⟨_, rfl⟩
  have HQ4 := Lib.hid h4
  clear h4
  go_at_call 25
  (with_reducible refine (incht_is HQ4.out (in_any _ _ _ _)).mono ?_)
  rintro e w4 ⟨rfl, rfl⟩
  cases q4
  · clear HS; obtain ⟨c0, c1, c2, c3, c4, c5, c6⟩ := HC.out
    have hbad := Lib.hid (show okCr x n = false by unfold okCr; rw [HQ1.out, HQ2.out, HQ3.out, HQ4.out]; simp)
    go_wp2_with fail
    go_returns
    exact ⟨ret_bool hbad.out.symm, HB.out⟩
  obtain ⟨c0, c1, c2, c3, c4, c5, c6⟩ := HC.out
  go_wp2_with fail
  clear c0 c1 c2 c3 c4 c5 c6
  obtain ⟨q5, h5⟩ : ∃ q, inI x.bk 0 x.jb = q := ⟨_, rfl⟩
  have HQ5 := Lib.hid h5
  clear h5
  obtain ⟨q6, h6⟩ : ∃ q, okCh x.zs n = q := ⟨_, rfl⟩
  have HQ6 := Lib.hid h6
  clear h6
  obtain ⟨q7, h7⟩ : ∃ q, decide (rdC x.zs (n - 1) ≤ x.jb) = q := ⟨_, rfl⟩
  have HQ7 := Lib.hid h7
  clear h7
  cases q5
  case false =>
    have hv := Lib.hid (show okCr x n = false by unfold okCr; rw [HQ1.out, HQ2.out, HQ3.out, HQ4.out, HQ5.out]; simp)
    obtain ⟨c0, c1, c2, c3, c4, c5, c6⟩ := HC.out
    have gw0 : ∀ X, (grw (w2) X).cell? ⟨b, 6, none⟩ = some (.slice A n c) := grw_cell (by assumption)
    have gw1 : ∀ X, (grw (w2) X).cell? ⟨b, 4, none⟩ = some (.int .i64 x.jb) := grw_cell (by assumption)
    have gw2 : ∀ X, (grw (w2) X).cell? ⟨b, 5, none⟩ = some (.int .i64 x.bk) := grw_cell (by assumption)
    refine wp_region_grow (by kernel_rfl) (by kernel_rfl) ?_
    repeat (go_big_quiet_step (first | (go_at_call 55; exact grow_of (l03Ok_is HQ6.out _ hn hz (HS.out.later (grw_below _ _)))) | (go_at_call 25; exact grow_same (incht_is HQ5.out (in_any _ _ _ _))) | (go_at_call 56; exact grow_same (last_any _ hn hz (HS.out.later (grw_below _ _)))) | fail))
    refine wpQuiet_nil ?_
    rintro wq ⟨X, hX⟩
    have hQ_wq : Below (w2).heap.size (w2) wq := by rw [hX]; exact grw_below _ _
    clear hX gw0 gw1 gw2
    clear c0 c1 c2 c3 c4 c5 c6
    go_wp2_with fail
    go_returns
    exact ⟨ret_bool hv.out.symm, gr_then hQ_wq HB.out⟩
  cases q6
  case false =>
    have hv := Lib.hid (show okCr x n = false by unfold okCr; rw [HQ1.out, HQ2.out, HQ3.out, HQ4.out, HQ5.out, HQ6.out]; simp)
    obtain ⟨c0, c1, c2, c3, c4, c5, c6⟩ := HC.out
    have gw0 : ∀ X, (grw (w2) X).cell? ⟨b, 6, none⟩ = some (.slice A n c) := grw_cell (by assumption)
    have gw1 : ∀ X, (grw (w2) X).cell? ⟨b, 4, none⟩ = some (.int .i64 x.jb) := grw_cell (by assumption)
    have gw2 : ∀ X, (grw (w2) X).cell? ⟨b, 5, none⟩ = some (.int .i64 x.bk) := grw_cell (by assumption)
    refine wp_region_grow (by kernel_rfl) (by kernel_rfl) ?_
    repeat (go_big_quiet_step (first | (go_at_call 55; exact grow_of (l03Ok_is HQ6.out _ hn hz (HS.out.later (grw_below _ _)))) | (go_at_call 25; exact grow_same (incht_is HQ5.out (in_any _ _ _ _))) | (go_at_call 56; exact grow_same (last_any _ hn hz (HS.out.later (grw_below _ _)))) | fail))
    refine wpQuiet_nil ?_
    rintro wq ⟨X, hX⟩
    have hQ_wq : Below (w2).heap.size (w2) wq := by rw [hX]; exact grw_below _ _
    clear hX gw0 gw1 gw2
    clear c0 c1 c2 c3 c4 c5 c6
    go_wp2_with fail
    go_returns
    exact ⟨ret_bool hv.out.symm, gr_then hQ_wq HB.out⟩
  cases q7
  case false =>
    have hv := Lib.hid (show okCr x n = false by unfold okCr; rw [HQ1.out, HQ2.out, HQ3.out, HQ4.out, HQ5.out, HQ6.out, HQ7.out]; rfl)
    obtain ⟨m, rfl⟩ : ∃ m, n = m + 1 := ⟨n - 1, by have h9 := (okCh_t HQ6.out).2; omega⟩
    have hm1 : (((m + 1 : Nat) : Int)) - 1 = (m : Int) := by omega
    have hle : decide (rdC x.zs m ≤ x.jb) = false := HQ7.out
    obtain ⟨b1, o1, hA1, hB1, p0, _⟩ := si2 HS.out hz (show m < m + 1 by omega)
    subst hA1
    obtain ⟨c0, c1, c2, c3, c4, c5, c6⟩ := HC.out
    have gw0 : ∀ X, (grw (w2) X).cell? ⟨b, 6, none⟩ = some (.slice (some ⟨b1, o1, none⟩) (m + 1) c) := grw_cell (by assumption)
    have gw1 : ∀ X, (grw (w2) X).cell? ⟨b, 4, none⟩ = some (.int .i64 x.jb) := grw_cell (by assumption)
    have gw2 : ∀ X, (grw (w2) X).cell? ⟨b, 5, none⟩ = some (.int .i64 x.bk) := grw_cell (by assumption)
    have gw3 : ∀ X, (grw (w2) X).cell? ⟨b1, o1 + m * 2, none⟩ = some (.int .i64 (rdC x.zs m)) := grw_cell (by assumption)
    refine wp_region_grow (by kernel_rfl) (by kernel_rfl) ?_
    repeat (go_big_quiet_step (first | (go_at_call 55; exact grow_of (l03Ok_is HQ6.out _ hn hz (HS.out.later (grw_below _ _)))) | (go_at_call 25; exact grow_same (incht_is HQ5.out (in_any _ _ _ _))) | (go_at_call 56; exact grow_same (last_any _ hn hz (HS.out.later (grw_below _ _)))) | fail))
    refine wpQuiet_nil ?_
    rintro wq ⟨X, hX⟩
    have hQ_wq : Below (w2).heap.size (w2) wq := by rw [hX]; exact grw_below _ _
    clear hX gw0 gw1 gw2 gw3
    clear c0 c1 c2 c3 c4 c5 c6 p0
    go_wp2_with fail
    go_returns
    exact ⟨ret_bool hv.out.symm, gr_then hQ_wq HB.out⟩
  have hv := Lib.hid (show okCr x n = true by unfold okCr; rw [HQ1.out, HQ2.out, HQ3.out, HQ4.out, HQ5.out, HQ6.out, HQ7.out]; rfl)
  obtain ⟨m, rfl⟩ : ∃ m, n = m + 1 := ⟨n - 1, by have h9 := (okCh_t HQ6.out).2; omega⟩
  have hm1 : (((m + 1 : Nat) : Int)) - 1 = (m : Int) := by omega
  have hle : decide (rdC x.zs m ≤ x.jb) = true := HQ7.out
  obtain ⟨b1, o1, hA1, hB1, p0, _⟩ := si2 HS.out hz (show m < m + 1 by omega)
  subst hA1
  obtain ⟨c0, c1, c2, c3, c4, c5, c6⟩ := HC.out
  have gw0 : ∀ X, (grw (w2) X).cell? ⟨b, 6, none⟩ = some (.slice (some ⟨b1, o1, none⟩) (m + 1) c) := grw_cell (by assumption)
  have gw1 : ∀ X, (grw (w2) X).cell? ⟨b, 4, none⟩ = some (.int .i64 x.jb) := grw_cell (by assumption)
  have gw2 : ∀ X, (grw (w2) X).cell? ⟨b, 5, none⟩ = some (.int .i64 x.bk) := grw_cell (by assumption)
  have gw3 : ∀ X, (grw (w2) X).cell? ⟨b1, o1 + m * 2, none⟩ = some (.int .i64 (rdC x.zs m)) := grw_cell (by assumption)
  refine wp_region_grow (by kernel_rfl) (by kernel_rfl) ?_
  repeat (go_big_quiet_step (first | (go_at_call 55; exact grow_of (l03Ok_is HQ6.out _ hn hz (HS.out.later (grw_below _ _)))) | (go_at_call 25; exact grow_same (incht_is HQ5.out (in_any _ _ _ _))) | (go_at_call 56; exact grow_same (last_any _ hn hz (HS.out.later (grw_below _ _)))) | fail))
  refine wpQuiet_nil ?_
  rintro wq ⟨X, hX⟩
  have hQ_wq : Below (w2).heap.size (w2) wq := by rw [hX]; exact grw_below _ _
  clear hX gw0 gw1 gw2 gw3
  clear c0 c1 c2 c3 c4 c5 c6 p0
  go_wp2_with fail
  go_returns
  exact ⟨ret_bool hv.out.symm, gr_then hQ_wq HB.out⟩
end Go.Proofs.YtoglmeiffidcbaaDoor
