/- sameLift of the program. -/
import Derived.Test.YtoglmeiffidcbaaLiftE
namespace Go.Proofs.Ytoglmeiffidcbaa
open Go.RowKit Go.Deep
set_option maxHeartbeats 8000000 in
set_option maxRecDepth 20000 in
theorem sameLift_any (xn yn : ByteArray) (x0 x1 x2 x3 x4 x5 x6 y0 y1 y2 y3 y4 y5 y6 : Int) (xs ys : List Int) (A A' : Option Addr) (c c' : Nat) (w : World) (hn : xs.length ≤ 1048576) (hm : ys.length ≤ 1048576) (h : SV (.int .i64) w w.heap.size A xs) (h' : SV (.int .i64) w w.heap.size A' ys) : Calls Try.prog 59 #[.agg #[.string xn, .int .i64 x0, .int .i64 x1, .int .i64 x2, .int .i64 x3, .int .i64 x4, .int .i64 x5, .int .i64 x6, .slice A xs.length c], .agg #[.string yn, .int .i64 y0, .int .i64 y1, .int .i64 y2, .int .i64 y3, .int .i64 y4, .int .i64 y5, .int .i64 y6, .slice A' ys.length c']] w fun e w' => e = .returned (.bool (decide ((⟨xn, x0, x1, x2, x3, x4, x5, x6, xs⟩ : Lf) = ⟨yn, y0, y1, y2, y3, y4, y5, y6, ys⟩))) ∧ Below w.heap.size w w' := by
  have hb0 : Below w.heap.size w ((w.alloc (.cells #[.string xn, .int .i64 x0, .int .i64 x1, .int .i64 x2, .int .i64 x3, .int .i64 x4, .int .i64 x5, .int .i64 x6, .slice A xs.length c] 70)).alloc (.cells #[.string yn, .int .i64 y0, .int .i64 y1, .int .i64 y2, .int .i64 y3, .int .i64 y4, .int .i64 y5, .int .i64 y6, .slice A' ys.length c'] 70)) := gr_alloc (gr_alloc (gr_refl w))
  obtain ⟨r, hr⟩ : ∃ r, decide (xs = ys) = r := ⟨_, rfl⟩
  have HT : Hid (Calls Try.prog 70 #[.slice A xs.length c, .slice A' ys.length c'] ((w.alloc (.cells #[.string xn, .int .i64 x0, .int .i64 x1, .int .i64 x2, .int .i64 x3, .int .i64 x4, .int .i64 x5, .int .i64 x6, .slice A xs.length c] 70)).alloc (.cells #[.string yn, .int .i64 y0, .int .i64 y1, .int .i64 y2, .int .i64 y3, .int .i64 y4, .int .i64 y5, .int .i64 y6, .slice A' ys.length c'] 70)) fun e w' => e = .returned (.bool r) ∧ ∃ q, w' = ((w.alloc (.cells #[.string xn, .int .i64 x0, .int .i64 x1, .int .i64 x2, .int .i64 x3, .int .i64 x4, .int .i64 x5, .int .i64 x6, .slice A xs.length c] 70)).alloc (.cells #[.string yn, .int .i64 y0, .int .i64 y1, .int .i64 y2, .int .i64 y3, .int .i64 y4, .int .i64 y5, .int .i64 y6, .slice A' ys.length c'] 70)).drewN q) := by rw [← hr]; exact equal_any A A' c c' xs ys _ hn hm ((h.below hb0).more hb0.size) ((h'.below hb0).more hb0.size)
  clear h h' hb0
  cases r
  · rw [lf_ne (by have h9 := of_decide_eq_false hr; simp [h9])]
    clear hr
    go_enter Try.func59, Try.ntmps59; go_wp2_with (go_at_call 70; (with_reducible refine HT.out.mono ?_); rintro e w1 ⟨rfl, q, rfl⟩); go_returns; exact ⟨rfl, by repeat' first | exact gr_refl _ | with_reducible assumption | with_reducible apply gr_alloc | with_reducible apply gr_set | with_reducible apply gr_drew | with_reducible apply gr_drewN | exact Nat.le_add_right _ _ | exact Nat.le_refl _ | (refine gr_then (by with_reducible assumption) ?_)⟩
  have HXY := Lib.hid (of_decide_eq_true (p := xs = ys) hr)
  clear hr
  by_cases e0 : xn = yn
  case neg =>
    have g0 : ¬ xn.toList = yn.toList := fun h9 => e0 (ba_inj h9)
    have hb0 : (xn.toList == yn.toList) = false := beq_eq_false_iff_ne.2 g0
    rw [lf_ne (by simp [e0])]
    clear e0
    go_enter Try.func59, Try.ntmps59; go_wp2_with (go_at_call 70; (with_reducible refine HT.out.mono ?_); rintro e w1 ⟨rfl, q, rfl⟩); go_returns; exact ⟨rfl, by repeat' first | exact gr_refl _ | with_reducible assumption | with_reducible apply gr_alloc | with_reducible apply gr_set | with_reducible apply gr_drew | with_reducible apply gr_drewN | exact Nat.le_add_right _ _ | exact Nat.le_refl _ | (refine gr_then (by with_reducible assumption) ?_)⟩
  subst e0
  by_cases e1 : x0 = y0
  case neg =>
    have g1 := decide_eq_false e1
    have hb1 : (x0 == y0) = false := beq_eq_false_iff_ne.2 e1
    rw [lf_ne (by simp [e1])]
    clear e1
    go_enter Try.func59, Try.ntmps59; go_wp2_with (go_at_call 70; (with_reducible refine HT.out.mono ?_); rintro e w1 ⟨rfl, q, rfl⟩); go_returns; exact ⟨rfl, by repeat' first | exact gr_refl _ | with_reducible assumption | with_reducible apply gr_alloc | with_reducible apply gr_set | with_reducible apply gr_drew | with_reducible apply gr_drewN | exact Nat.le_add_right _ _ | exact Nat.le_refl _ | (refine gr_then (by with_reducible assumption) ?_)⟩
  subst e1
  by_cases e2 : x1 = y1
  case neg =>
    have g2 := decide_eq_false e2
    have hb2 : (x1 == y1) = false := beq_eq_false_iff_ne.2 e2
    rw [lf_ne (by simp [e2])]
    clear e2
    go_enter Try.func59, Try.ntmps59; go_wp2_with (go_at_call 70; (with_reducible refine HT.out.mono ?_); rintro e w1 ⟨rfl, q, rfl⟩); go_returns; exact ⟨rfl, by repeat' first | exact gr_refl _ | with_reducible assumption | with_reducible apply gr_alloc | with_reducible apply gr_set | with_reducible apply gr_drew | with_reducible apply gr_drewN | exact Nat.le_add_right _ _ | exact Nat.le_refl _ | (refine gr_then (by with_reducible assumption) ?_)⟩
  subst e2
  by_cases e3 : x2 = y2
  case neg =>
    have g3 := decide_eq_false e3
    have hb3 : (x2 == y2) = false := beq_eq_false_iff_ne.2 e3
    rw [lf_ne (by simp [e3])]
    clear e3
    go_enter Try.func59, Try.ntmps59; go_wp2_with (go_at_call 70; (with_reducible refine HT.out.mono ?_); rintro e w1 ⟨rfl, q, rfl⟩); go_returns; exact ⟨rfl, by repeat' first | exact gr_refl _ | with_reducible assumption | with_reducible apply gr_alloc | with_reducible apply gr_set | with_reducible apply gr_drew | with_reducible apply gr_drewN | exact Nat.le_add_right _ _ | exact Nat.le_refl _ | (refine gr_then (by with_reducible assumption) ?_)⟩
  subst e3
  by_cases e4 : x3 = y3
  case neg =>
    have g4 := decide_eq_false e4
    have hb4 : (x3 == y3) = false := beq_eq_false_iff_ne.2 e4
    rw [lf_ne (by simp [e4])]
    clear e4
    go_enter Try.func59, Try.ntmps59; go_wp2_with (go_at_call 70; (with_reducible refine HT.out.mono ?_); rintro e w1 ⟨rfl, q, rfl⟩); go_returns; exact ⟨rfl, by repeat' first | exact gr_refl _ | with_reducible assumption | with_reducible apply gr_alloc | with_reducible apply gr_set | with_reducible apply gr_drew | with_reducible apply gr_drewN | exact Nat.le_add_right _ _ | exact Nat.le_refl _ | (refine gr_then (by with_reducible assumption) ?_)⟩
  subst e4
  by_cases e5 : x4 = y4
  case neg =>
    have g5 := decide_eq_false e5
    have hb5 : (x4 == y4) = false := beq_eq_false_iff_ne.2 e5
    rw [lf_ne (by simp [e5])]
    clear e5
    go_enter Try.func59, Try.ntmps59; go_wp2_with (go_at_call 70; (with_reducible refine HT.out.mono ?_); rintro e w1 ⟨rfl, q, rfl⟩); go_returns; exact ⟨rfl, by repeat' first | exact gr_refl _ | with_reducible assumption | with_reducible apply gr_alloc | with_reducible apply gr_set | with_reducible apply gr_drew | with_reducible apply gr_drewN | exact Nat.le_add_right _ _ | exact Nat.le_refl _ | (refine gr_then (by with_reducible assumption) ?_)⟩
  subst e5
  by_cases e6 : x5 = y5
  case neg =>
    have g6 := decide_eq_false e6
    have hb6 : (x5 == y5) = false := beq_eq_false_iff_ne.2 e6
    rw [lf_ne (by simp [e6])]
    clear e6
    go_enter Try.func59, Try.ntmps59; go_wp2_with (go_at_call 70; (with_reducible refine HT.out.mono ?_); rintro e w1 ⟨rfl, q, rfl⟩); go_returns; exact ⟨rfl, by repeat' first | exact gr_refl _ | with_reducible assumption | with_reducible apply gr_alloc | with_reducible apply gr_set | with_reducible apply gr_drew | with_reducible apply gr_drewN | exact Nat.le_add_right _ _ | exact Nat.le_refl _ | (refine gr_then (by with_reducible assumption) ?_)⟩
  subst e6
  by_cases e7 : x6 = y6
  case neg =>
    have g7 := decide_eq_false e7
    have hb7 : (x6 == y6) = false := beq_eq_false_iff_ne.2 e7
    rw [lf_ne (by simp [e7])]
    clear e7
    go_enter Try.func59, Try.ntmps59; go_wp2_with (go_at_call 70; (with_reducible refine HT.out.mono ?_); rintro e w1 ⟨rfl, q, rfl⟩); go_returns; exact ⟨rfl, by repeat' first | exact gr_refl _ | with_reducible assumption | with_reducible apply gr_alloc | with_reducible apply gr_set | with_reducible apply gr_drew | with_reducible apply gr_drewN | exact Nat.le_add_right _ _ | exact Nat.le_refl _ | (refine gr_then (by with_reducible assumption) ?_)⟩
  subst e7
  have hxy := HXY.out
  clear HXY
  subst hxy
  rw [decide_eq_true rfl]
  go_enter Try.func59, Try.ntmps59; go_wp2_with (go_at_call 70; (with_reducible refine HT.out.mono ?_); rintro e w1 ⟨rfl, q, rfl⟩); go_returns; exact ⟨rfl, by repeat' first | exact gr_refl _ | with_reducible assumption | with_reducible apply gr_alloc | with_reducible apply gr_set | with_reducible apply gr_drew | with_reducible apply gr_drewN | exact Nat.le_add_right _ _ | exact Nat.le_refl _ | (refine gr_then (by with_reducible assumption) ?_)⟩
end Go.Proofs.Ytoglmeiffidcbaa
