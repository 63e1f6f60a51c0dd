/- The ends of a crane and its boom, both sides. -/
import Derived.Test.YtmgbbkglafnibaaCrn
import Derived.Test.YtmgbbkglafnibaaSrc
import Derived.StillTailTactics
import Derived.Deep.RegionHeld3
namespace Go.Proofs.Ytmgbbkglafnibaa
open Go.RowKit Go.Deep
def opp (k : Nat) : Nat := (k + 12) % 24
def jX (x : Cr) (k : Nat) : Int := atI x.px (vX k) x.jb
def jY (x : Cr) (k : Nat) : Int := atI x.py (vY k) x.jb
def kX (x : Cr) (k : Nat) : Int := atI x.px (vX (opp k : Nat)) x.bk
def kY (x : Cr) (k : Nat) : Int := atI x.py (vY (opp k : Nat)) x.bk
theorem opp_le (k : Nat) : opp k ≤ 23 := by unfold opp; omega
/-- numbers within bounds -/
def Cr.near (x : Cr) : Prop := (-100000 ≤ x.px ∧ x.px ≤ 100000) ∧ (-100000 ≤ x.py ∧ x.py ≤ 100000) ∧ (0 ≤ x.jb ∧ x.jb ≤ 1000) ∧ (0 ≤ x.bk ∧ x.bk ≤ 1000)
theorem near_of {x : Cr} {n : Nat} (h : okCr x n = true) : x.near := by
  obtain ⟨⟨a, b⟩, _, d, e, _⟩ := okCr_t h
  exact ⟨⟨by omega, by omega⟩, ⟨by omega, by omega⟩, ⟨by omega, by omega⟩, ⟨by omega, by omega⟩⟩
theorem mod02_opp (k : Nat) (w : World) (hk : k ≤ 23) : Calls Try.prog 84 #[.int .i64 ((k : Int) + 12)] w fun e w' => e = .returned (.int .i64 ((opp k : Nat) : Int)) ∧ w = w' := by
  have h : ((k : Int) + 12) % 24 = ((opp k : Nat) : Int) := by unfold opp; omega
  rw [← h]
  exact mod02_any _ w (by omega)
set_option maxHeartbeats 8000000 in
set_option maxRecDepth 20000 in
theorem jib04_any (x : Cr) (A : Option Addr) (n c k : Nat) (b : Nat) (w : World) (hk : k ≤ 23) (hnr : x.near) (hc : Cc w b x A n c) : Calls Try.prog 95 #[.pointer (some ⟨b, 0, none⟩), .int .i64 (k : Int)] w fun e w' => e = .returned (.agg #[.int .i64 (jX x k), .int .i64 (jY x k)]) ∧ Below w.heap.size w w' := by
  have HN := Lib.hid hnr
  obtain ⟨hpx, hpy, hjb, hbk⟩ := hnr
  have hb : Below w.heap.size w (w.alloc (.cells #[.int .i64 0, .int .i64 0] 79)) := gr_alloc (gr_refl _)
  have HC := Lib.hid (hc.late hb)
  have HR := Lib.hid (show BI (w.alloc (.cells #[.int .i64 0, .int .i64 0] 79)) w.heap.size 79 [0, 0] from heap_alloc_new _ _)
  have HB := Lib.hid hb
  have hbw := hc.lt
  clear hb hc
  have hz : w.heap.size < (w.alloc (.cells #[.int .i64 0, .int .i64 0] 79)).heap.size := by simp
  obtain ⟨c0, c1, c2, c3, c4, c5, c6⟩ := HC.out
  have d0 := HR.out.cell 0 (by simp)
  have d1 := HR.out.cell 1 (by simp)
  simp only [List.getD_cons_zero, List.getD_cons_succ] at d0 d1
  have m0 := HR.out.free 0
  have m1 := HR.out.free 1
  go_enter Try.func95, Try.ntmps95
  go_wp2_with fail
  generalize w.alloc (.cells #[.int .i64 0, .int .i64 0] 79) = v0 at *
  go_still_tail 9, (by kernel_rfl)
  clear c0 c1 c2 c3 c4 c5 c6 d0 m0 d1 m1
  change wpList _ _ _ _ _ v0.drew
  have hb : Below v0.heap.size v0 v0.drew := gr_drew (gr_refl _)
  generalize v0.drew = v1 at *
  replace HC := Lib.hid (HC.out.late hb)
  replace HR := Lib.hid (HR.out.late hb)
  replace HB := Lib.hid (gr_then hb HB.out)
  replace hz := Nat.lt_of_lt_of_le hz hb.size
  clear hb
  go_wp2_with fail
  go_at_call 80
  (with_reducible refine (at02_any x.px x.py x.jb k _ hpx hpy hk hjb).mono ?_)
  rintro e w1 ⟨rfl, hb⟩
  replace HC := Lib.hid (HC.out.late hb)
  replace HR := Lib.hid (HR.out.late hb)
  replace HB := Lib.hid (gr_then hb HB.out)
  replace hz := Nat.lt_of_lt_of_le hz hb.size
  clear hb
  obtain ⟨c0, c1, c2, c3, c4, c5, c6⟩ := HC.out
  have d0 := HR.out.cell 0 (by simp)
  have d1 := HR.out.cell 1 (by simp)
  simp only [List.getD_cons_zero, List.getD_cons_succ] at d0 d1
  have m0 := HR.out.free 0
  have m1 := HR.out.free 1
  go_wp2_with fail
  refine bodyPost_ret (v := .agg #[.int .i64 (atI x.px (vX k) x.jb), .int .i64 (atI x.py (vY k) x.jb)]) (by simp [results, Try.results95, go_sem, *]) rfl ⟨rfl, by repeat' (first | with_reducible exact HB.out | (with_reducible refine gr_set (by dsimp only; omega) ?_) | (with_reducible refine gr_alloc ?_))⟩
set_option maxHeartbeats 8000000 in
set_option maxRecDepth 20000 in
theorem back04_any (x : Cr) (A : Option Addr) (n c k : Nat) (b : Nat) (w : World) (hk : k ≤ 23) (hnr : x.near) (hc : Cc w b x A n c) : Calls Try.prog 94 #[.pointer (some ⟨b, 0, none⟩), .int .i64 (k : Int)] w fun e w' => e = .returned (.agg #[.int .i64 (kX x k), .int .i64 (kY x k)]) ∧ Below w.heap.size w w' := by
  have HN := Lib.hid hnr
  obtain ⟨hpx, hpy, hjb, hbk⟩ := hnr
  have hb : Below w.heap.size w (w.alloc (.cells #[.int .i64 0, .int .i64 0] 79)) := gr_alloc (gr_refl _)
  have HC := Lib.hid (hc.late hb)
  have HR := Lib.hid (show BI (w.alloc (.cells #[.int .i64 0, .int .i64 0] 79)) w.heap.size 79 [0, 0] from heap_alloc_new _ _)
  have HB := Lib.hid hb
  have hbw := hc.lt
  clear hb hc
  have hz : w.heap.size < (w.alloc (.cells #[.int .i64 0, .int .i64 0] 79)).heap.size := by simp
  obtain ⟨c0, c1, c2, c3, c4, c5, c6⟩ := HC.out
  have d0 := HR.out.cell 0 (by simp)
  have d1 := HR.out.cell 1 (by simp)
  simp only [List.getD_cons_zero, List.getD_cons_succ] at d0 d1
  have m0 := HR.out.free 0
  have m1 := HR.out.free 1
  go_enter Try.func94, Try.ntmps94
  go_wp2_with fail
  generalize w.alloc (.cells #[.int .i64 0, .int .i64 0] 79) = v0 at *
  have hw : IntKind.i64.wrap ((k : Int) + 12) = (k : Int) + 12 := IntWalk.i64_in _ (by omega)
  go_still_tail 11, (by kernel_rfl)
  still_call ((mod02_opp k _ hk).mono fun _ _ h9 => ⟨h9.1, h9.2.symm⟩)
  repeat still_step
  refine wpStill_nil ?_
  clear c0 c1 c2 c3 c4 c5 c6 d0 m0 d1 m1
  change wpList _ _ _ _ _ v0.drew
  have hb : Below v0.heap.size v0 v0.drew := gr_drew (gr_refl _)
  generalize v0.drew = v1 at *
  replace HC := Lib.hid (HC.out.late hb)
  replace HR := Lib.hid (HR.out.late hb)
  replace HB := Lib.hid (gr_then hb HB.out)
  replace hz := Nat.lt_of_lt_of_le hz hb.size
  clear hb
  go_wp2_with fail
  go_at_call 80
  (with_reducible refine (at02_any x.px x.py x.bk (opp k) _ hpx hpy (opp_le k) hbk).mono ?_)
  rintro e w1 ⟨rfl, hb⟩
  replace HC := Lib.hid (HC.out.late hb)
  replace HR := Lib.hid (HR.out.late hb)
  replace HB := Lib.hid (gr_then hb HB.out)
  replace hz := Nat.lt_of_lt_of_le hz hb.size
  clear hb
  obtain ⟨c0, c1, c2, c3, c4, c5, c6⟩ := HC.out
  have d0 := HR.out.cell 0 (by simp)
  have d1 := HR.out.cell 1 (by simp)
  simp only [List.getD_cons_zero, List.getD_cons_succ] at d0 d1
  have m0 := HR.out.free 0
  have m1 := HR.out.free 1
  go_wp2_with fail
  refine bodyPost_ret (v := .agg #[.int .i64 (atI x.px (vX (opp k : Nat)) x.bk), .int .i64 (atI x.py (vY (opp k : Nat)) x.bk)]) (by simp [results, Try.results94, go_sem, *]) rfl ⟨rfl, by repeat' (first | with_reducible exact HB.out | (with_reducible refine gr_set (by dsimp only; omega) ?_) | (with_reducible refine gr_alloc ?_))⟩
set_option maxHeartbeats 8000000 in
set_option maxRecDepth 20000 in
theorem boom15_any (x : Cr) (A : Option Addr) (n c k : Nat) (b : Nat) (w : World) (hk : k ≤ 23) (hnr : x.near) (hc : Cc w b x A n c) : Calls Try.prog 89 #[.pointer (some ⟨b, 0, none⟩), .int .i64 (k : Int)] w fun e w' => e = .returned (.agg #[.int .i64 (kX x k), .int .i64 (kY x k), .int .i64 (jX x k), .int .i64 (jY x k)]) ∧ Below w.heap.size w w' := by
  have HN := Lib.hid hnr
  obtain ⟨hpx, hpy, hjb, hbk⟩ := hnr
  have hb : Below w.heap.size w (w.alloc (.cells #[.int .i64 0, .int .i64 0, .int .i64 0, .int .i64 0] 102)) := gr_alloc (gr_refl _)
  have HC := Lib.hid (hc.late hb)
  have HR := Lib.hid (show BI (w.alloc (.cells #[.int .i64 0, .int .i64 0, .int .i64 0, .int .i64 0] 102)) w.heap.size 102 [0, 0, 0, 0] from heap_alloc_new _ _)
  have HB := Lib.hid hb
  have hbw := hc.lt
  clear hb hc
  have hz : w.heap.size < (w.alloc (.cells #[.int .i64 0, .int .i64 0, .int .i64 0, .int .i64 0] 102)).heap.size := by simp
  obtain ⟨c0, c1, c2, c3, c4, c5, c6⟩ := HC.out
  have d0 := HR.out.cell 0 (by simp)
  have d1 := HR.out.cell 1 (by simp)
  have d2 := HR.out.cell 2 (by simp)
  have d3 := HR.out.cell 3 (by simp)
  simp only [List.getD_cons_zero, List.getD_cons_succ] at d0 d1 d2 d3
  have m0 := HR.out.free 0
  have m1 := HR.out.free 1
  have m2 := HR.out.free 2
  have m3 := HR.out.free 3
  go_enter Try.func89, Try.ntmps89
  go_wp2_with fail
  generalize w.alloc (.cells #[.int .i64 0, .int .i64 0, .int .i64 0, .int .i64 0] 102) = v0 at *
  clear c0 c1 c2 c3 c4 c5 c6 d0 m0 d1 m1 d2 m2 d3 m3
  go_at_call 94
  (with_reducible refine (back04_any x A n c k b _ hk HN.out HC.out).mono ?_)
  rintro e w1 ⟨rfl, hb⟩
  replace HC := Lib.hid (HC.out.late hb)
  replace HR := Lib.hid (HR.out.late hb)
  replace HB := Lib.hid (gr_then hb HB.out)
  replace hz := Nat.lt_of_lt_of_le hz hb.size
  clear hb
  go_wp2_with fail
  go_at_call 95
  (with_reducible refine (jib04_any x A n c k b _ hk HN.out HC.out).mono ?_)
  rintro e w2 ⟨rfl, hb⟩
  replace HC := Lib.hid (HC.out.late hb)
  replace HR := Lib.hid (HR.out.late hb)
  replace HB := Lib.hid (gr_then hb HB.out)
  replace hz := Nat.lt_of_lt_of_le hz hb.size
  clear hb
  obtain ⟨c0, c1, c2, c3, c4, c5, c6⟩ := HC.out
  have d0 := HR.out.cell 0 (by simp)
  have d1 := HR.out.cell 1 (by simp)
  have d2 := HR.out.cell 2 (by simp)
  have d3 := HR.out.cell 3 (by simp)
  simp only [List.getD_cons_zero, List.getD_cons_succ] at d0 d1 d2 d3
  have m0 := HR.out.free 0
  have m1 := HR.out.free 1
  have m2 := HR.out.free 2
  have m3 := HR.out.free 3
  go_wp2_with fail
  refine bodyPost_ret (v := .agg #[.int .i64 (kX x k), .int .i64 (kY x k), .int .i64 (jX x k), .int .i64 (jY x k)]) (by simp [results, Try.results89, go_sem, *]) rfl ⟨rfl, by repeat' (first | with_reducible exact HB.out | (with_reducible refine gr_set (by dsimp only; omega) ?_) | (with_reducible refine gr_alloc ?_))⟩
end Go.Proofs.Ytmgbbkglafnibaa
