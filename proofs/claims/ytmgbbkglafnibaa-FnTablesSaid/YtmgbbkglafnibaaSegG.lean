/- Contracts: comparisons of fractions, both sides. -/
import Derived.Test.YtmgbbkglafnibaaSegF
import Derived.Test.YtmgbbkglafnibaaShelf
import Derived.Test.YtmgbbkglafnibaaSlices
import Derived.Deep.LoopGhost
namespace Go.Proofs.Ytmgbbkglafnibaa
open Go.RowKit
theorem less_eq {an ad bn bd p x y : Int} (ha : an = p * ad + x) (hb : bn = p * bd + y) : (an * bd < bn * ad) ↔ (bd * x < ad * y) := by
  subst ha; subst hb
  have e1 : (p * ad + x) * bd = p * ad * bd + bd * x := by grind
  have e2 : (p * bd + y) * ad = p * ad * bd + ad * y := by grind
  rw [e1, e2]; omega
theorem less_lt {an ad bn bd : Int} (h1 : 1 ≤ ad) (h2 : 1 ≤ bd) (h : an / ad < bn / bd) : an * bd < bn * ad := by
  have e1 := Int.lt_ediv_add_one_mul_self an (show 0 < ad by omega)
  have e2 := Int.ediv_mul_le bn (show bd ≠ 0 by omega)
  have e3 : (an / ad + 1) * ad * bd ≤ bn / bd * ad * bd := Int.mul_le_mul_of_nonneg_right (Int.mul_le_mul_of_nonneg_right (by omega) (by omega)) (by omega)
  have e4 : an * bd < (an / ad + 1) * ad * bd := Int.mul_lt_mul_of_pos_right e1 (by omega)
  have e5 : bn / bd * bd * ad ≤ bn * ad := Int.mul_le_mul_of_nonneg_right e2 (by omega)
  have e6 : bn / bd * ad * bd = bn / bd * bd * ad := by grind
  omega
def lsB (an ad bn bd : Int) : Bool := decide (an * bd < bn * ad)
theorem lsB_lt {an ad bn bd : Int} (h1 : 1 ≤ ad) (h2 : 1 ≤ bd) (h : an / ad < bn / bd) : lsB an ad bn bd = true := decide_eq_true (less_lt h1 h2 h)
theorem lsB_gt {an ad bn bd : Int} (h1 : 1 ≤ ad) (h2 : 1 ≤ bd) (h : bn / bd < an / ad) : lsB an ad bn bd = false := decide_eq_false (by have := less_lt h2 h1 h; omega)
theorem lsB_eq {an ad bn bd : Int} (h : an / ad = bn / bd) : lsB an ad bn bd = lsB bd (bn % bd) ad (an % ad) := by
  unfold lsB
  rw [decide_eq_decide]
  have e1 := Int.mul_ediv_add_emod an ad
  have e2 := Int.mul_ediv_add_emod bn bd
  rw [← h] at e2
  rw [less_eq (p := an / ad) (x := an % ad) (y := bn % bd) (by rw [Int.mul_comm (an / ad)]; omega) (by rw [Int.mul_comm (an / ad)]; omega)]
theorem lsB_x0 {ad bd y : Int} (h1 : 1 ≤ ad) (hy : 0 ≤ y) : lsB bd y ad 0 = decide (0 < y) := by
  unfold lsB
  rw [decide_eq_decide, Int.mul_zero]
  constructor
  · intro h
    rcases Int.lt_or_le 0 y with h0 | h0
    · exact h0
    · obtain rfl : y = 0 := by omega
      simp at h
  · intro h
    exact Int.mul_pos (by omega) h
theorem lsB_y0 {ad bd x : Int} (h1 : 1 ≤ bd) (hx : 0 ≤ x) : lsB bd 0 ad x = false := by
  unfold lsB
  rw [Int.mul_zero]
  exact decide_eq_false (by have := Int.mul_nonneg (show 0 ≤ bd by omega) hx; omega)
theorem sg_hi {P Q : Nat} (h : P / 18446744073709551616 ≠ Q / 18446744073709551616) : sgI (((P / 18446744073709551616 : Nat) : Int) - ((Q / 18446744073709551616 : Nat) : Int)) = sgI ((P : Int) - (Q : Int)) := by
  unfold sgI
  rcases Nat.lt_or_gt_of_ne h with h | h
  · rw [if_neg (by omega), if_pos (by omega), if_neg (by omega), if_pos (by omega)]
  · rw [if_pos (by omega), if_pos (by omega)]
theorem sg_lo {P Q : Nat} (h : P / 18446744073709551616 = Q / 18446744073709551616) : sgI (((P % 18446744073709551616 : Nat) : Int) - ((Q % 18446744073709551616 : Nat) : Int)) = sgI ((P : Int) - (Q : Int)) := by
  congr 1
  omega
set_option maxHeartbeats 4000000 in
theorem less14_any (an ad bn bd : Int) (w : World) (ha : 0 ≤ an ∧ an ≤ 9223372036854775807) (ha2 : 1 ≤ ad ∧ ad ≤ 9223372036854775807) (hb : 0 ≤ bn ∧ bn ≤ 9223372036854775807) (hb2 : 1 ≤ bd ∧ bd ≤ 9223372036854775807) : Calls Try.prog 92 #[.agg #[.int .i64 an, .int .i64 ad], .agg #[.int .i64 bn, .int .i64 bd]] w fun e w' => e = .returned (.bool (lsB an ad bn bd)) ∧ Below w.heap.size w w' := by
  go_enter Try.func92, Try.ntmps92
  go_wp2
  go_loopg [9] (ad + bd).toNat (fun j _ wr => ∃ x y z u : Int, (j : Int) = y + u ∧ 0 ≤ x ∧ x ≤ 9223372036854775807 ∧ 1 ≤ y ∧ y ≤ 9223372036854775807 ∧ 0 ≤ z ∧ z ≤ 9223372036854775807 ∧ 1 ≤ u ∧ u ≤ 9223372036854775807 ∧ BI wr w.heap.size 111 [x, y] ∧ BI wr (w.heap.size + 1) 111 [z, u] ∧ Below w.heap.size w wr ∧ lsB x y z u = lsB an ad bn bd)
  case atStart => exact ⟨an, ad, bn, bd, by omega, by omega, by omega, by omega, by omega, by omega, by omega, by omega, by omega, (show BI (w.alloc _) w.heap.size _ [an, ad] from heap_alloc_new w _).alloc _, (by have h : BI (((w).alloc (.cells #[.int .i64 an, .int .i64 ad] 111)).alloc (.cells #[.int .i64 bn, .int .i64 bd] 111)) ((w).alloc (.cells #[.int .i64 an, .int .i64 ad] 111)).heap.size 111 [bn, bd] := heap_alloc_new _ _; rw [World.size_alloc] at h; exact h), gr_alloc (gr_alloc (gr_refl w)), rfl⟩
  case round =>
    obtain ⟨x, y, z, u, hj, x0, x1, y0, y1, z0, z1, u0, u1, ba, bb, hbe, hl⟩ := hrel
    have c0 := ba.cell 0 (by simp)
    have c1 := ba.cell 1 (by simp)
    have c2 := bb.cell 0 (by simp)
    have c3 := bb.cell 1 (by simp)
    simp only [List.getD_cons_zero, List.getD_cons_succ] at c0 c1 c2 c3
    have f0 := ba.free 0
    have f1 := ba.free 1
    have f2 := bb.free 0
    have f3 := bb.free 1
    have HJ := Lib.hid hj
    have HL := Lib.hid hl
    have HB := Lib.hid hbe
    clear hj hl hbe
    have p0 := Int.ediv_nonneg x0 (show 0 ≤ y by omega)
    have p1 := Int.ediv_le_self y x0
    have q0 := Int.ediv_nonneg z0 (show 0 ≤ u by omega)
    have q1 := Int.ediv_le_self u z0
    have r0 := Int.emod_nonneg x (show y ≠ 0 by omega)
    have r1 := Int.emod_lt_of_pos x (show 0 < y by omega)
    have s0 := Int.emod_nonneg z (show u ≠ 0 by omega)
    have s1 := Int.emod_lt_of_pos z (show 0 < u by omega)
    have hla := ba.lt
    have hlb := bb.lt
    by_cases t0 : x / y = z / u
    case neg =>
      have hb : (x / y != z / u) = true := by rw [bne_iff_ne]; exact t0
      by_cases t1 : x / y < z / u
      · have HC := Lib.hid (lsB_lt y0 u0 t1)
        clear ba bb t0
        go_wp2
        go_returns
        exact ⟨ret_bool (by rw [← HL.out, HC.out]), HB.out⟩
      · have HC := Lib.hid (lsB_gt y0 u0 (show z / u < x / y by omega))
        have hd := decide_eq_false t1
        clear ba bb t0
        go_wp2
        go_returns
        exact ⟨ret_bool (by rw [← HL.out, HC.out]), HB.out⟩
    have hb : (x / y != z / u) = false := by rw [bne_eq_false_iff_eq]; exact t0
    have HQ := Lib.hid (lsB_eq t0)
    clear t0
    by_cases t2 : x % y = 0
    · have hx : (x % y == 0) = true := beq_iff_eq.2 t2
      have HC := Lib.hid (HL.out.symm.trans (HQ.out.trans (show lsB u (z % u) y (x % y) = decide (0 < z % u) from by rw [t2]; exact lsB_x0 y0 s0)))
      clear ba bb t2
      by_cases t3 : 0 < z % u
      · go_wp2
        go_returns
        exact ⟨ret_bool (by rw [HC.out]; exact (decide_eq_true t3).symm), HB.out⟩
      · have hd := decide_eq_false t3
        go_wp2
        go_returns
        exact ⟨ret_bool (by rw [HC.out]; exact hd.symm), HB.out⟩
    have hx : (x % y == 0) = false := beq_eq_false_iff_ne.2 t2
    by_cases t3 : z % u = 0
    · have hy : (z % u == 0) = true := beq_iff_eq.2 t3
      have HC := Lib.hid (HL.out.symm.trans (HQ.out.trans (show lsB u (z % u) y (x % y) = false from by rw [t3]; exact lsB_y0 u0 r0)))
      clear ba bb t2 t3
      go_wp2
      go_returns
      exact ⟨ret_bool HC.out.symm, HB.out⟩
    have hy : (z % u == 0) = false := beq_eq_false_iff_ne.2 t3
    have hn1 : ¬ w.heap.size = wr.heap.size := by omega
    have hn2 : ¬ w.heap.size + 1 = wr.heap.size := by omega
    have hn3 : ¬ wr.heap.size = w.heap.size := by omega
    have hn4 : ¬ wr.heap.size = w.heap.size + 1 := by omega
    have HA := Lib.hid ((((ba.far (p := ⟨w.heap.size + 1, 0, none⟩) (by simp) (.int .i64 y)).far (p := ⟨w.heap.size + 1, 1, none⟩) (by simp) (.int .i64 (x % y))).put 0 u |>.put 1 (z % u)).alloc (.cells #[.int .i64 u, .int .i64 (z % u)] 111))
    have HD := Lib.hid ((((bb.put 0 y).put 1 (x % y)).far (p := ⟨w.heap.size, 0, none⟩) (by simp) (.int .i64 u) |>.far (p := ⟨w.heap.size, 1, none⟩) (by simp) (.int .i64 (z % u))).alloc (.cells #[.int .i64 u, .int .i64 (z % u)] 111))
    clear ba bb
    go_wp2
    go_roundg (z % u + x % y).toNat
    case rel => exact ⟨u, z % u, y, x % y, by omega, by omega, by omega, by omega, by omega, by omega, by omega, by omega, by omega, HA.out, HD.out, by have := HB.out; repeat' first | exact gr_refl _ | with_reducible assumption | with_reducible apply gr_alloc | with_reducible apply gr_set | with_reducible apply gr_drew | with_reducible apply gr_drewN | exact Nat.le_add_right _ _ | exact Nat.le_refl _ | (dsimp only; omega) | (refine gr_then (by with_reducible assumption) ?_), HQ.out.symm.trans HL.out⟩
    case measure => have := HJ.out; omega
end Go.Proofs.Ytmgbbkglafnibaa
