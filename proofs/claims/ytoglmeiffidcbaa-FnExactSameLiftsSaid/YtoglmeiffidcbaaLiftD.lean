/- SameLifts, both sides. -/
import Derived.Test.YtoglmeiffidcbaaLiftC
import Derived.Test.YtoglmeiffidcbaaEqInt
namespace Go.Proofs.Ytoglmeiffidcbaa
open Go.RowKit Go.Deep
theorem quiet_more {P : Program} {f : FuncId} {args : Array Value} {w : World} {n : Nat} {v : Value} (h : Calls P f args (w.drewN n) fun e w' => e = .returned v ∧ ∃ q, w' = (w.drewN n).drewN q) : Calls P f args (w.drewN n) fun e w'' => e = .returned v ∧ ∃ m, w'' = w.drewN m :=
  h.mono fun _ _ ⟨he, q, hq⟩ => ⟨he, n + q, by rw [hq, World.drewN_drewN]⟩
theorem ba_inj {a b : ByteArray} (h : a.toList = b.toList) : a = b := by
  rw [ByteArray.toList_eq, ByteArray.toList_eq] at h
  exact ByteArray.ext (Array.ext' h)
theorem lf_ne {x y : Lf} (h : ¬ x.nm = y.nm ∨ ¬ x.v0 = y.v0 ∨ ¬ x.v1 = y.v1 ∨ ¬ x.v2 = y.v2 ∨ ¬ x.v3 = y.v3 ∨ ¬ x.v4 = y.v4 ∨ ¬ x.v5 = y.v5 ∨ ¬ x.v6 = y.v6 ∨ ¬ x.xs = y.xs) : decide (x = y) = false := decide_eq_false (by rintro rfl; simp at h)
theorem lf_eq {x y : Lf} (h : x.nm = y.nm) (h0 : x.v0 = y.v0) (h1 : x.v1 = y.v1) (h2 : x.v2 = y.v2) (h3 : x.v3 = y.v3) (h4 : x.v4 = y.v4) (h5 : x.v5 = y.v5) (h6 : x.v6 = y.v6) : decide (x = y) = decide (x.xs = y.xs) := by
  cases x; cases y
  simp_all
theorem ne_of_atL {xs ys : List Lf} {j : Nat} {x y : Lf} (hx : xs[j]? = some x) (hy : ys[j]? = some y) (h : decide (x = y) = false) : ¬ xs = ys := by
  rintro rfl
  rw [hx] at hy
  exact of_decide_eq_false h (Option.some.inj hy)
theorem eq_of_atL {xs ys : List Lf} (hl : xs.length = ys.length) (h : ∀ (j : Nat) x y, xs[j]? = some x → ys[j]? = some y → x = y) : xs = ys := by
  apply List.ext_getElem?
  intro j
  rcases Nat.lt_or_ge j xs.length with hj | hj
  · obtain ⟨x, hx⟩ := at_of_lt hj
    obtain ⟨y, hy⟩ := at_of_lt (xs := ys) (k := j) (by omega)
    rw [hx, hy, h j x y hx hy]
  · rw [List.getElem?_eq_none hj, List.getElem?_eq_none (by omega)]
set_option maxHeartbeats 8000000 in
set_option maxRecDepth 20000 in
theorem l08Lift_any (b o b' o' : Nat) (x y : Lf) (A A' : Option Addr) (c c' : Nat) (w : World) (hn : x.xs.length ≤ 1048576) (hm : y.xs.length ≤ 1048576) (h : SV (.int .i64) w w.heap.size A x.xs) (h' : SV (.int .i64) w w.heap.size A' y.xs) (hc : Cl w b o x A c) (hd : Cl w b' o' y A' c') : Calls Try.prog 67 #[.pointer (some ⟨b, o, none⟩), .pointer (some ⟨b', o', none⟩)] w fun e w' => e = .returned (.bool (decide (x = y))) ∧ ∃ q, w' = w.drewN q := by
  obtain ⟨xn, x0, x1, x2, x3, x4, x5, x6, xs⟩ := x
  obtain ⟨yn, y0, y1, y2, y3, y4, y5, y6, ys⟩ := y
  have H := Lib.hid h
  have H' := Lib.hid h'
  obtain ⟨c0, c1, c2, c3, c4, c5, c6, c7, c8⟩ := hc
  obtain ⟨d0, d1, d2, d3, d4, d5, d6, d7, d8⟩ := hd
  clear h h'
  simp only at c0 d0 c1 d1 c2 d2 c3 d3 c4 d4 c5 d5 c6 d6 c7 d7 c8 d8 H H' hn hm
  by_cases e0 : xn = yn
  case neg =>
    have g0 : ¬ xn.toList = yn.toList := fun h9 => e0 (ba_inj h9)
    have hb0 : (xn.toList == yn.toList) = false := beq_eq_false_iff_ne.2 g0
    rw [lf_ne (by simp [e0])]
    clear e0
    go_enter Try.func67, Try.ntmps67; go_wp2; refine wp_region_quiet_lit (by kernel_rfl) (by kernel_rfl) ?_; simp only [List.append_eq, List.cons_append, List.nil_append]; (repeat (go_big_quiet_step ((fail)))); refine wpQuiet_nil ?_; rintro _ ⟨nq, rfl⟩; go_wp2; go_ret; exact ⟨rfl, _, rfl⟩
  subst e0
  by_cases e1 : x0 = y0
  case neg =>
    have g1 := decide_eq_false e1
    have hb1 : (x0 == y0) = false := beq_eq_false_iff_ne.2 e1
    rw [lf_ne (by simp [e1])]
    clear e1
    go_enter Try.func67, Try.ntmps67; go_wp2; refine wp_region_quiet_lit (by kernel_rfl) (by kernel_rfl) ?_; simp only [List.append_eq, List.cons_append, List.nil_append]; (repeat (go_big_quiet_step ((fail)))); refine wpQuiet_nil ?_; rintro _ ⟨nq, rfl⟩; go_wp2; go_ret; exact ⟨rfl, _, rfl⟩
  subst e1
  by_cases e2 : x1 = y1
  case neg =>
    have g2 := decide_eq_false e2
    have hb2 : (x1 == y1) = false := beq_eq_false_iff_ne.2 e2
    rw [lf_ne (by simp [e2])]
    clear e2
    go_enter Try.func67, Try.ntmps67; go_wp2; refine wp_region_quiet_lit (by kernel_rfl) (by kernel_rfl) ?_; simp only [List.append_eq, List.cons_append, List.nil_append]; (repeat (go_big_quiet_step ((fail)))); refine wpQuiet_nil ?_; rintro _ ⟨nq, rfl⟩; go_wp2; go_ret; exact ⟨rfl, _, rfl⟩
  subst e2
  by_cases e3 : x2 = y2
  case neg =>
    have g3 := decide_eq_false e3
    have hb3 : (x2 == y2) = false := beq_eq_false_iff_ne.2 e3
    rw [lf_ne (by simp [e3])]
    clear e3
    go_enter Try.func67, Try.ntmps67; go_wp2; refine wp_region_quiet_lit (by kernel_rfl) (by kernel_rfl) ?_; simp only [List.append_eq, List.cons_append, List.nil_append]; (repeat (go_big_quiet_step ((fail)))); refine wpQuiet_nil ?_; rintro _ ⟨nq, rfl⟩; go_wp2; go_ret; exact ⟨rfl, _, rfl⟩
  subst e3
  by_cases e4 : x3 = y3
  case neg =>
    have g4 := decide_eq_false e4
    have hb4 : (x3 == y3) = false := beq_eq_false_iff_ne.2 e4
    rw [lf_ne (by simp [e4])]
    clear e4
    go_enter Try.func67, Try.ntmps67; go_wp2; refine wp_region_quiet_lit (by kernel_rfl) (by kernel_rfl) ?_; simp only [List.append_eq, List.cons_append, List.nil_append]; (repeat (go_big_quiet_step ((fail)))); refine wpQuiet_nil ?_; rintro _ ⟨nq, rfl⟩; go_wp2; go_ret; exact ⟨rfl, _, rfl⟩
  subst e4
  by_cases e5 : x4 = y4
  case neg =>
    have g5 := decide_eq_false e5
    have hb5 : (x4 == y4) = false := beq_eq_false_iff_ne.2 e5
    rw [lf_ne (by simp [e5])]
    clear e5
    go_enter Try.func67, Try.ntmps67; go_wp2; refine wp_region_quiet_lit (by kernel_rfl) (by kernel_rfl) ?_; simp only [List.append_eq, List.cons_append, List.nil_append]; (repeat (go_big_quiet_step ((fail)))); refine wpQuiet_nil ?_; rintro _ ⟨nq, rfl⟩; go_wp2; go_ret; exact ⟨rfl, _, rfl⟩
  subst e5
  by_cases e6 : x5 = y5
  case neg =>
    have g6 := decide_eq_false e6
    have hb6 : (x5 == y5) = false := beq_eq_false_iff_ne.2 e6
    rw [lf_ne (by simp [e6])]
    clear e6
    go_enter Try.func67, Try.ntmps67; go_wp2; refine wp_region_quiet_lit (by kernel_rfl) (by kernel_rfl) ?_; simp only [List.append_eq, List.cons_append, List.nil_append]; (repeat (go_big_quiet_step ((fail)))); refine wpQuiet_nil ?_; rintro _ ⟨nq, rfl⟩; go_wp2; go_ret; exact ⟨rfl, _, rfl⟩
  subst e6
  by_cases e7 : x6 = y6
  case neg =>
    have g7 := decide_eq_false e7
    have hb7 : (x6 == y6) = false := beq_eq_false_iff_ne.2 e7
    rw [lf_ne (by simp [e7])]
    clear e7
    go_enter Try.func67, Try.ntmps67; go_wp2; refine wp_region_quiet_lit (by kernel_rfl) (by kernel_rfl) ?_; simp only [List.append_eq, List.cons_append, List.nil_append]; (repeat (go_big_quiet_step ((fail)))); refine wpQuiet_nil ?_; rintro _ ⟨nq, rfl⟩; go_wp2; go_ret; exact ⟨rfl, _, rfl⟩
  subst e7
  rw [lf_eq (x := ⟨xn, x0, x1, x2, x3, x4, x5, x6, xs⟩) (y := ⟨xn, x0, x1, x2, x3, x4, x5, x6, ys⟩) rfl rfl rfl rfl rfl rfl rfl rfl]
  simp only
  have HS : Hid (∀ n : Nat, Calls Try.prog 74 #[.slice A xs.length c, .slice A' ys.length c'] (w.drewN n) fun e w' => e = .returned (.bool (decide (xs = ys))) ∧ ∃ q, w' = (w.drewN n).drewN q) := fun n => same00_any A A' c c' xs ys (w.drewN n) hn hm H.out H'.out
  go_enter Try.func67, Try.ntmps67; go_wp2; refine wp_region_quiet_lit (by kernel_rfl) (by kernel_rfl) ?_; simp only [List.append_eq, List.cons_append, List.nil_append]; (repeat (go_big_quiet_step ((go_at_call 74; (with_reducible refine quiet_more (HS.out _)))))); refine wpQuiet_nil ?_; rintro _ ⟨nq, rfl⟩; go_wp2; go_ret; exact ⟨rfl, _, rfl⟩
end Go.Proofs.Ytoglmeiffidcbaa
