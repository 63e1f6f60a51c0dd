/- The ends of a crane and its boom, both sides. -/
import Derived.Test.YtbdhmadgflmhmaaDoorCrn
import Derived.Test.YtbdhmadgflmhmaaDoorSrc
import Derived.StillTailTactics
import Derived.Deep.RegionHeld3
namespace Go.Proofs.YtbdhmadgflmhmaaDoor
open Go.RowKit Go.Deep
def opp (k : Nat) : Nat := (k + 12) % 24
def jX (x : Cr) (k : Nat) : Int := atI x.px (vX k) x.jb
def jY (x : Cr) (k : Nat) : Int := atI x.py (vY k) x.jb
def kX (x : Cr) (k : Nat) : Int := atI x.px (vX (opp k : Nat)) x.bk
def kY (x : Cr) (k : Nat) : Int := atI x.py (vY (opp k : Nat)) x.bk
theorem opp_le (k : Nat) : opp k ≤ 23 := by unfold opp; omega
/-- numbers within bounds -/
def Cr.near (x : Cr) : Prop := (-100000 ≤ x.px ∧ x.px ≤ 100000) ∧ (-100000 ≤ x.py ∧ x.py ≤ 100000) ∧ (0 ≤ x.jb ∧ x.jb ≤ 1000) ∧ (0 ≤ x.bk ∧ x.bk ≤ 1000)
theorem near_of {x : Cr} {n : Nat} (h : okCr x n = true) : x.near := by
  obtain ⟨⟨a, b⟩, _, d, e, _⟩ := okCr_t h
  exact ⟨⟨by omega, by omega⟩, ⟨by omega, by omega⟩, ⟨by omega, by omega⟩, ⟨by omega, by omega⟩⟩
theorem opposite_any (k : Nat) (w : World) (hk : k ≤ 23) : Calls Tryd.prog 52 #[.int .i64 (k : Int)] w fun e w' => e = .returned (.int .i64 ((opp k : Nat) : Int)) ∧ w = w' := by
  have h : ((k : Int) + 12) % 24 = ((opp k : Nat) : Int) := by unfold opp; omega
  go_enter Tryd.func52, Tryd.ntmps52
  go_wp2_with (go_at_call 66; (with_reducible refine (turned_any _ _ _ (by omega) (by omega)).mono ?_); rw [h]; rintro e w1 ⟨rfl, rfl⟩)
  go_returns
  exact ⟨rfl, rfl⟩
theorem mod02_opp (k : Nat) (w : World) (hk : k ≤ 23) : Calls Tryd.prog 60 #[.int .i64 ((k : Int) + 12)] w fun e w' => e = .returned (.int .i64 ((opp k : Nat) : Int)) ∧ w = w' := by
  have h : ((k : Int) + 12) % 24 = ((opp k : Nat) : Int) := by unfold opp; omega
  rw [← h]
  exact mod02_any _ w (by omega)
set_option maxHeartbeats 8000000 in
set_option maxRecDepth 20000 in
theorem jibEnd_any (x : Cr) (A : Option Addr) (n c k : Nat) (w : World) (hk : k ≤ 23) (hnr : x.near) (hQ : Quar w) : Calls Tryd.prog 31 #[.agg #[.string x.nm, .int .i64 x.px, .int .i64 x.py, .int .i64 x.hg, .int .i64 x.jb, .int .i64 x.bk, .slice A n c], .int .i64 (k : Int)] w fun e w' => e = .returned (.agg #[.int .i64 (jX x k), .int .i64 (jY x k)]) ∧ Below w.heap.size w w' := by
  have HN := Lib.hid hnr
  obtain ⟨hpx, hpy, hjb, hbk⟩ := hnr
  have hb : Below (w.alloc (.cells #[.string x.nm, .int .i64 x.px, .int .i64 x.py, .int .i64 x.hg, .int .i64 x.jb, .int .i64 x.bk, .slice A n c] 35)).heap.size (w.alloc (.cells #[.string x.nm, .int .i64 x.px, .int .i64 x.py, .int .i64 x.hg, .int .i64 x.jb, .int .i64 x.bk, .slice A n c] 35)) ((w.alloc (.cells #[.string x.nm, .int .i64 x.px, .int .i64 x.py, .int .i64 x.hg, .int .i64 x.jb, .int .i64 x.bk, .slice A n c] 35)).alloc (.cells #[.int .i64 0, .int .i64 0] 28)) := gr_alloc (gr_refl _)
  have HC := Lib.hid ((Cc.box w 35 x A n c).late hb)
  have HR := Lib.hid (show BI ((w.alloc (.cells #[.string x.nm, .int .i64 x.px, .int .i64 x.py, .int .i64 x.hg, .int .i64 x.jb, .int .i64 x.bk, .slice A n c] 35)).alloc (.cells #[.int .i64 0, .int .i64 0] 28)) (w.heap.size + 1) 28 [0, 0] from by have h := heap_alloc_new (w.alloc (.cells #[.string x.nm, .int .i64 x.px, .int .i64 x.py, .int .i64 x.hg, .int .i64 x.jb, .int .i64 x.bk, .slice A n c] 35)) (.cells #[.int .i64 0, .int .i64 0] 28); simp only [World.size_alloc] at h; exact h)
  clear hb
  have hb : Below w.heap.size w ((w.alloc (.cells #[.string x.nm, .int .i64 x.px, .int .i64 x.py, .int .i64 x.hg, .int .i64 x.jb, .int .i64 x.bk, .slice A n c] 35)).alloc (.cells #[.int .i64 0, .int .i64 0] 28)) := gr_alloc (gr_alloc (gr_refl _))
  have HB := Lib.hid hb
  have HQ := Lib.hid (hQ.late hb)
  clear hb hQ
  have hz : w.heap.size + 1 < ((w.alloc (.cells #[.string x.nm, .int .i64 x.px, .int .i64 x.py, .int .i64 x.hg, .int .i64 x.jb, .int .i64 x.bk, .slice A n c] 35)).alloc (.cells #[.int .i64 0, .int .i64 0] 28)).heap.size := by simp
  obtain ⟨c0, c1, c2, c3, c4, c5, c6⟩ := HC.out
  have d0 := HR.out.cell 0 (by simp)
  have d1 := HR.out.cell 1 (by simp)
  simp only [List.getD_cons_zero, List.getD_cons_succ] at d0 d1
  have m0 := HR.out.free 0
  have m1 := HR.out.free 1
  go_enter Tryd.func31, Tryd.ntmps31
  go_wp2_with fail
  generalize (w.alloc (.cells #[.string x.nm, .int .i64 x.px, .int .i64 x.py, .int .i64 x.hg, .int .i64 x.jb, .int .i64 x.bk, .slice A n c] 35)).alloc (.cells #[.int .i64 0, .int .i64 0] 28) = v0 at *
  clear c0 c1 c2 c3 c4 c5 c6 d0 m0 d1 m1
  go_at_call 51
  (with_reducible refine (placeAt_any x.px x.py x.jb k _ hpx hpy hk hjb HQ.out).mono ?_)
  rintro e w1 ⟨rfl, hb⟩
  replace HQ := Lib.hid (HQ.out.late hb)
  replace HC := Lib.hid (HC.out.late hb)
  replace HR := Lib.hid (HR.out.late hb)
  replace HB := Lib.hid (gr_then hb HB.out)
  replace hz := Nat.lt_of_lt_of_le hz hb.size
  clear hb
  obtain ⟨c0, c1, c2, c3, c4, c5, c6⟩ := HC.out
  have d0 := HR.out.cell 0 (by simp)
  have d1 := HR.out.cell 1 (by simp)
  simp only [List.getD_cons_zero, List.getD_cons_succ] at d0 d1
  have m0 := HR.out.free 0
  have m1 := HR.out.free 1
  go_wp2_with fail
  refine bodyPost_ret (v := .agg #[.int .i64 (atI x.px (vX k) x.jb), .int .i64 (atI x.py (vY k) x.jb)]) (by simp [results, Tryd.results31, go_sem, *]) rfl ⟨rfl, by repeat' (first | with_reducible exact HB.out | (with_reducible refine gr_set (by dsimp only; omega) ?_) | (with_reducible refine gr_alloc ?_))⟩
set_option maxHeartbeats 8000000 in
set_option maxRecDepth 20000 in
theorem backEnd_any (x : Cr) (A : Option Addr) (n c k : Nat) (w : World) (hk : k ≤ 23) (hnr : x.near) (hQ : Quar w) : Calls Tryd.prog 32 #[.agg #[.string x.nm, .int .i64 x.px, .int .i64 x.py, .int .i64 x.hg, .int .i64 x.jb, .int .i64 x.bk, .slice A n c], .int .i64 (k : Int)] w fun e w' => e = .returned (.agg #[.int .i64 (kX x k), .int .i64 (kY x k)]) ∧ Below w.heap.size w w' := by
  have HN := Lib.hid hnr
  obtain ⟨hpx, hpy, hjb, hbk⟩ := hnr
  have hb : Below (w.alloc (.cells #[.string x.nm, .int .i64 x.px, .int .i64 x.py, .int .i64 x.hg, .int .i64 x.jb, .int .i64 x.bk, .slice A n c] 35)).heap.size (w.alloc (.cells #[.string x.nm, .int .i64 x.px, .int .i64 x.py, .int .i64 x.hg, .int .i64 x.jb, .int .i64 x.bk, .slice A n c] 35)) ((w.alloc (.cells #[.string x.nm, .int .i64 x.px, .int .i64 x.py, .int .i64 x.hg, .int .i64 x.jb, .int .i64 x.bk, .slice A n c] 35)).alloc (.cells #[.int .i64 0, .int .i64 0] 28)) := gr_alloc (gr_refl _)
  have HC := Lib.hid ((Cc.box w 35 x A n c).late hb)
  have HR := Lib.hid (show BI ((w.alloc (.cells #[.string x.nm, .int .i64 x.px, .int .i64 x.py, .int .i64 x.hg, .int .i64 x.jb, .int .i64 x.bk, .slice A n c] 35)).alloc (.cells #[.int .i64 0, .int .i64 0] 28)) (w.heap.size + 1) 28 [0, 0] from by have h := heap_alloc_new (w.alloc (.cells #[.string x.nm, .int .i64 x.px, .int .i64 x.py, .int .i64 x.hg, .int .i64 x.jb, .int .i64 x.bk, .slice A n c] 35)) (.cells #[.int .i64 0, .int .i64 0] 28); simp only [World.size_alloc] at h; exact h)
  clear hb
  have hb : Below w.heap.size w ((w.alloc (.cells #[.string x.nm, .int .i64 x.px, .int .i64 x.py, .int .i64 x.hg, .int .i64 x.jb, .int .i64 x.bk, .slice A n c] 35)).alloc (.cells #[.int .i64 0, .int .i64 0] 28)) := gr_alloc (gr_alloc (gr_refl _))
  have HB := Lib.hid hb
  have HQ := Lib.hid (hQ.late hb)
  clear hb hQ
  have hz : w.heap.size + 1 < ((w.alloc (.cells #[.string x.nm, .int .i64 x.px, .int .i64 x.py, .int .i64 x.hg, .int .i64 x.jb, .int .i64 x.bk, .slice A n c] 35)).alloc (.cells #[.int .i64 0, .int .i64 0] 28)).heap.size := by simp
  obtain ⟨c0, c1, c2, c3, c4, c5, c6⟩ := HC.out
  have d0 := HR.out.cell 0 (by simp)
  have d1 := HR.out.cell 1 (by simp)
  simp only [List.getD_cons_zero, List.getD_cons_succ] at d0 d1
  have m0 := HR.out.free 0
  have m1 := HR.out.free 1
  go_enter Tryd.func32, Tryd.ntmps32
  go_wp2_with fail
  generalize (w.alloc (.cells #[.string x.nm, .int .i64 x.px, .int .i64 x.py, .int .i64 x.hg, .int .i64 x.jb, .int .i64 x.bk, .slice A n c] 35)).alloc (.cells #[.int .i64 0, .int .i64 0] 28) = v0 at *
  go_still_tail 6, (by kernel_rfl)
  still_call ((opposite_any k _ hk).mono fun _ _ h9 => ⟨h9.1, h9.2.symm⟩)
  repeat still_step
  refine wpStill_nil ?_
  clear c0 c1 c2 c3 c4 c5 c6 d0 m0 d1 m1
  change wpList _ _ _ _ _ v0.drew
  have hb : Below v0.heap.size v0 v0.drew := gr_drew (gr_refl _)
  generalize v0.drew = v1 at *
  replace HQ := Lib.hid (HQ.out.late hb)
  replace HC := Lib.hid (HC.out.late hb)
  replace HR := Lib.hid (HR.out.late hb)
  replace HB := Lib.hid (gr_then hb HB.out)
  replace hz := Nat.lt_of_lt_of_le hz hb.size
  clear hb
  go_wp2_with fail
  go_at_call 51
  (with_reducible refine (placeAt_any x.px x.py x.bk (opp k) _ hpx hpy (opp_le k) hbk HQ.out).mono ?_)
  rintro e w1 ⟨rfl, hb⟩
  replace HQ := Lib.hid (HQ.out.late hb)
  replace HC := Lib.hid (HC.out.late hb)
  replace HR := Lib.hid (HR.out.late hb)
  replace HB := Lib.hid (gr_then hb HB.out)
  replace hz := Nat.lt_of_lt_of_le hz hb.size
  clear hb
  obtain ⟨c0, c1, c2, c3, c4, c5, c6⟩ := HC.out
  have d0 := HR.out.cell 0 (by simp)
  have d1 := HR.out.cell 1 (by simp)
  simp only [List.getD_cons_zero, List.getD_cons_succ] at d0 d1
  have m0 := HR.out.free 0
  have m1 := HR.out.free 1
  go_wp2_with fail
  refine bodyPost_ret (v := .agg #[.int .i64 (atI x.px (vX (opp k : Nat)) x.bk), .int .i64 (atI x.py (vY (opp k : Nat)) x.bk)]) (by simp [results, Tryd.results32, go_sem, *]) rfl ⟨rfl, by repeat' (first | with_reducible exact HB.out | (with_reducible refine gr_set (by dsimp only; omega) ?_) | (with_reducible refine gr_alloc ?_))⟩
set_option maxHeartbeats 8000000 in
set_option maxRecDepth 20000 in
theorem jib04_any (x : Cr) (A : Option Addr) (n c k : Nat) (b : Nat) (w : World) (hk : k ≤ 23) (hnr : x.near) (hc : Cc w b x A n c) : Calls Tryd.prog 41 #[.pointer (some ⟨b, 0, none⟩), .int .i64 (k : Int)] w fun e w' => e = .returned (.agg #[.int .i64 (jX x k), .int .i64 (jY x k)]) ∧ Below w.heap.size w w' := by
  have HN := Lib.hid hnr
  obtain ⟨hpx, hpy, hjb, hbk⟩ := hnr
  have hb : Below w.heap.size w (w.alloc (.cells #[.int .i64 0, .int .i64 0] 28)) := gr_alloc (gr_refl _)
  have HC := Lib.hid (hc.late hb)
  have HR := Lib.hid (show BI (w.alloc (.cells #[.int .i64 0, .int .i64 0] 28)) w.heap.size 28 [0, 0] from heap_alloc_new _ _)
  have HB := Lib.hid hb
  have hbw := hc.lt
  clear hb hc
  have hz : w.heap.size < (w.alloc (.cells #[.int .i64 0, .int .i64 0] 28)).heap.size := by simp
  obtain ⟨c0, c1, c2, c3, c4, c5, c6⟩ := HC.out
  have d0 := HR.out.cell 0 (by simp)
  have d1 := HR.out.cell 1 (by simp)
  simp only [List.getD_cons_zero, List.getD_cons_succ] at d0 d1
  have m0 := HR.out.free 0
  have m1 := HR.out.free 1
  go_enter Tryd.func41, Tryd.ntmps41
  go_wp2_with fail
  generalize w.alloc (.cells #[.int .i64 0, .int .i64 0] 28) = v0 at *
  go_still_tail 9, (by kernel_rfl)
  clear c0 c1 c2 c3 c4 c5 c6 d0 m0 d1 m1
  change wpList _ _ _ _ _ v0.drew
  have hb : Below v0.heap.size v0 v0.drew := gr_drew (gr_refl _)
  generalize v0.drew = v1 at *
  replace HC := Lib.hid (HC.out.late hb)
  replace HR := Lib.hid (HR.out.late hb)
  replace HB := Lib.hid (gr_then hb HB.out)
  replace hz := Nat.lt_of_lt_of_le hz hb.size
  clear hb
  go_wp2_with fail
  go_at_call 49
  (with_reducible refine (at02_any x.px x.py x.jb k _ hpx hpy hk hjb).mono ?_)
  rintro e w1 ⟨rfl, hb⟩
  replace HC := Lib.hid (HC.out.late hb)
  replace HR := Lib.hid (HR.out.late hb)
  replace HB := Lib.hid (gr_then hb HB.out)
  replace hz := Nat.lt_of_lt_of_le hz hb.size
  clear hb
  obtain ⟨c0, c1, c2, c3, c4, c5, c6⟩ := HC.out
  have d0 := HR.out.cell 0 (by simp)
  have d1 := HR.out.cell 1 (by simp)
  simp only [List.getD_cons_zero, List.getD_cons_succ] at d0 d1
  have m0 := HR.out.free 0
  have m1 := HR.out.free 1
  go_wp2_with fail
  refine bodyPost_ret (v := .agg #[.int .i64 (atI x.px (vX k) x.jb), .int .i64 (atI x.py (vY k) x.jb)]) (by simp [results, Tryd.results41, go_sem, *]) rfl ⟨rfl, by repeat' (first | with_reducible exact HB.out | (with_reducible refine gr_set (by dsimp only; omega) ?_) | (with_reducible refine gr_alloc ?_))⟩
set_option maxHeartbeats 8000000 in
set_option maxRecDepth 20000 in
theorem back04_any (x : Cr) (A : Option Addr) (n c k : Nat) (b : Nat) (w : World) (hk : k ≤ 23) (hnr : x.near) (hc : Cc w b x A n c) : Calls Tryd.prog 40 #[.pointer (some ⟨b, 0, none⟩), .int .i64 (k : Int)] w fun e w' => e = .returned (.agg #[.int .i64 (kX x k), .int .i64 (kY x k)]) ∧ Below w.heap.size w w' := by
  have HN := Lib.hid hnr
  obtain ⟨hpx, hpy, hjb, hbk⟩ := hnr
  have hb : Below w.heap.size w (w.alloc (.cells #[.int .i64 0, .int .i64 0] 28)) := gr_alloc (gr_refl _)
  have HC := Lib.hid (hc.late hb)
  have HR := Lib.hid (show BI (w.alloc (.cells #[.int .i64 0, .int .i64 0] 28)) w.heap.size 28 [0, 0] from heap_alloc_new _ _)
  have HB := Lib.hid hb
  have hbw := hc.lt
  clear hb hc
  have hz : w.heap.size < (w.alloc (.cells #[.int .i64 0, .int .i64 0] 28)).heap.size := by simp
  obtain ⟨c0, c1, c2, c3, c4, c5, c6⟩ := HC.out
  have d0 := HR.out.cell 0 (by simp)
  have d1 := HR.out.cell 1 (by simp)
  simp only [List.getD_cons_zero, List.getD_cons_succ] at d0 d1
  have m0 := HR.out.free 0
  have m1 := HR.out.free 1
  go_enter Tryd.func40, Tryd.ntmps40
  go_wp2_with fail
  generalize w.alloc (.cells #[.int .i64 0, .int .i64 0] 28) = v0 at *
  have hw : IntKind.i64.wrap ((k : Int) + 12) = (k : Int) + 12 := IntWalk.i64_in _ (by omega)
  go_still_tail 11, (by kernel_rfl)
  still_call ((mod02_opp k _ hk).mono fun _ _ h9 => ⟨h9.1, h9.2.symm⟩)
  repeat still_step
  refine wpStill_nil ?_
  clear c0 c1 c2 c3 c4 c5 c6 d0 m0 d1 m1
  change wpList _ _ _ _ _ v0.drew
  have hb : Below v0.heap.size v0 v0.drew := gr_drew (gr_refl _)
  generalize v0.drew = v1 at *
  replace HC := Lib.hid (HC.out.late hb)
  replace HR := Lib.hid (HR.out.late hb)
  replace HB := Lib.hid (gr_then hb HB.out)
  replace hz := Nat.lt_of_lt_of_le hz hb.size
  clear hb
  go_wp2_with fail
  go_at_call 49
  (with_reducible refine (at02_any x.px x.py x.bk (opp k) _ hpx hpy (opp_le k) hbk).mono ?_)
  rintro e w1 ⟨rfl, hb⟩
  replace HC := Lib.hid (HC.out.late hb)
  replace HR := Lib.hid (HR.out.late hb)
  replace HB := Lib.hid (gr_then hb HB.out)
  replace hz := Nat.lt_of_lt_of_le hz hb.size
  clear hb
  obtain ⟨c0, c1, c2, c3, c4, c5, c6⟩ := HC.out
  have d0 := HR.out.cell 0 (by simp)
  have d1 := HR.out.cell 1 (by simp)
  simp only [List.getD_cons_zero, List.getD_cons_succ] at d0 d1
  have m0 := HR.out.free 0
  have m1 := HR.out.free 1
  go_wp2_with fail
  refine bodyPost_ret (v := .agg #[.int .i64 (atI x.px (vX (opp k : Nat)) x.bk), .int .i64 (atI x.py (vY (opp k : Nat)) x.bk)]) (by simp [results, Tryd.results40, go_sem, *]) rfl ⟨rfl, by repeat' (first | with_reducible exact HB.out | (with_reducible refine gr_set (by dsimp only; omega) ?_) | (with_reducible refine gr_alloc ?_))⟩
set_option maxHeartbeats 8000000 in
set_option maxRecDepth 20000 in
theorem boom15_any (x : Cr) (A : Option Addr) (n c k : Nat) (b : Nat) (w : World) (hk : k ≤ 23) (hnr : x.near) (hc : Cc w b x A n c) : Calls Tryd.prog 20 #[.pointer (some ⟨b, 0, none⟩), .int .i64 (k : Int)] w fun e w' => e = .returned (.agg #[.int .i64 (kX x k), .int .i64 (kY x k), .int .i64 (jX x k), .int .i64 (jY x k)]) ∧ Below w.heap.size w w' := by
  have HN := Lib.hid hnr
  obtain ⟨hpx, hpy, hjb, hbk⟩ := hnr
  have hb : Below w.heap.size w (w.alloc (.cells #[.int .i64 0, .int .i64 0, .int .i64 0, .int .i64 0] 30)) := gr_alloc (gr_refl _)
  have HC := Lib.hid (hc.late hb)
  have HR := Lib.hid (show BI (w.alloc (.cells #[.int .i64 0, .int .i64 0, .int .i64 0, .int .i64 0] 30)) w.heap.size 30 [0, 0, 0, 0] from heap_alloc_new _ _)
  have HB := Lib.hid hb
  have hbw := hc.lt
  clear hb hc
  have hz : w.heap.size < (w.alloc (.cells #[.int .i64 0, .int .i64 0, .int .i64 0, .int .i64 0] 30)).heap.size := by simp
  obtain ⟨c0, c1, c2, c3, c4, c5, c6⟩ := HC.out
  have d0 := HR.out.cell 0 (by simp)
  have d1 := HR.out.cell 1 (by simp)
  have d2 := HR.out.cell 2 (by simp)
  have d3 := HR.out.cell 3 (by simp)
  simp only [List.getD_cons_zero, List.getD_cons_succ] at d0 d1 d2 d3
  have m0 := HR.out.free 0
  have m1 := HR.out.free 1
  have m2 := HR.out.free 2
  have m3 := HR.out.free 3
  go_enter Tryd.func20, Tryd.ntmps20
  go_wp2_with fail
  generalize w.alloc (.cells #[.int .i64 0, .int .i64 0, .int .i64 0, .int .i64 0] 30) = v0 at *
  clear c0 c1 c2 c3 c4 c5 c6 d0 m0 d1 m1 d2 m2 d3 m3
  go_at_call 40
  (with_reducible refine (back04_any x A n c k b _ hk HN.out HC.out).mono ?_)
  rintro e w1 ⟨rfl, hb⟩
  replace HC := Lib.hid (HC.out.late hb)
  replace HR := Lib.hid (HR.out.late hb)
  replace HB := Lib.hid (gr_then hb HB.out)
  replace hz := Nat.lt_of_lt_of_le hz hb.size
  clear hb
  go_wp2_with fail
  go_at_call 41
  (with_reducible refine (jib04_any x A n c k b _ hk HN.out HC.out).mono ?_)
  rintro e w2 ⟨rfl, hb⟩
  replace HC := Lib.hid (HC.out.late hb)
  replace HR := Lib.hid (HR.out.late hb)
  replace HB := Lib.hid (gr_then hb HB.out)
  replace hz := Nat.lt_of_lt_of_le hz hb.size
  clear hb
  obtain ⟨c0, c1, c2, c3, c4, c5, c6⟩ := HC.out
  have d0 := HR.out.cell 0 (by simp)
  have d1 := HR.out.cell 1 (by simp)
  have d2 := HR.out.cell 2 (by simp)
  have d3 := HR.out.cell 3 (by simp)
  simp only [List.getD_cons_zero, List.getD_cons_succ] at d0 d1 d2 d3
  have m0 := HR.out.free 0
  have m1 := HR.out.free 1
  have m2 := HR.out.free 2
  have m3 := HR.out.free 3
  go_wp2_with fail
  refine bodyPost_ret (v := .agg #[.int .i64 (kX x k), .int .i64 (kY x k), .int .i64 (jX x k), .int .i64 (jY x k)]) (by simp [results, Tryd.results20, go_sem, *]) rfl ⟨rfl, by repeat' (first | with_reducible exact HB.out | (with_reducible refine gr_set (by dsimp only; omega) ?_) | (with_reducible refine gr_alloc ?_))⟩
set_option maxHeartbeats 8000000 in
set_option maxRecDepth 20000 in
theorem boom_any (x : Cr) (A : Option Addr) (n c k : Nat) (w : World) (hk : k ≤ 23) (hnr : x.near) (hQ : Quar w) : Calls Tryd.prog 25 #[.agg #[.string x.nm, .int .i64 x.px, .int .i64 x.py, .int .i64 x.hg, .int .i64 x.jb, .int .i64 x.bk, .slice A n c], .int .i64 (k : Int)] w fun e w' => e = .returned (.agg #[.int .i64 (kX x k), .int .i64 (kY x k), .int .i64 (jX x k), .int .i64 (jY x k)]) ∧ Below w.heap.size w w' := by
  have HN := Lib.hid hnr
  obtain ⟨hpx, hpy, hjb, hbk⟩ := hnr
  have hb : Below (w.alloc (.cells #[.string x.nm, .int .i64 x.px, .int .i64 x.py, .int .i64 x.hg, .int .i64 x.jb, .int .i64 x.bk, .slice A n c] 35)).heap.size (w.alloc (.cells #[.string x.nm, .int .i64 x.px, .int .i64 x.py, .int .i64 x.hg, .int .i64 x.jb, .int .i64 x.bk, .slice A n c] 35)) ((w.alloc (.cells #[.string x.nm, .int .i64 x.px, .int .i64 x.py, .int .i64 x.hg, .int .i64 x.jb, .int .i64 x.bk, .slice A n c] 35)).alloc (.cells #[.int .i64 0, .int .i64 0, .int .i64 0, .int .i64 0] 30)) := gr_alloc (gr_refl _)
  have HC := Lib.hid ((Cc.box w 35 x A n c).late hb)
  have HR := Lib.hid (show BI ((w.alloc (.cells #[.string x.nm, .int .i64 x.px, .int .i64 x.py, .int .i64 x.hg, .int .i64 x.jb, .int .i64 x.bk, .slice A n c] 35)).alloc (.cells #[.int .i64 0, .int .i64 0, .int .i64 0, .int .i64 0] 30)) (w.heap.size + 1) 30 [0, 0, 0, 0] from by have h := heap_alloc_new (w.alloc (.cells #[.string x.nm, .int .i64 x.px, .int .i64 x.py, .int .i64 x.hg, .int .i64 x.jb, .int .i64 x.bk, .slice A n c] 35)) (.cells #[.int .i64 0, .int .i64 0, .int .i64 0, .int .i64 0] 30); simp only [World.size_alloc] at h; exact h)
  clear hb
  have hb : Below w.heap.size w ((w.alloc (.cells #[.string x.nm, .int .i64 x.px, .int .i64 x.py, .int .i64 x.hg, .int .i64 x.jb, .int .i64 x.bk, .slice A n c] 35)).alloc (.cells #[.int .i64 0, .int .i64 0, .int .i64 0, .int .i64 0] 30)) := gr_alloc (gr_alloc (gr_refl _))
  have HB := Lib.hid hb
  have HQ := Lib.hid (hQ.late hb)
  clear hb hQ
  have hz : w.heap.size + 1 < ((w.alloc (.cells #[.string x.nm, .int .i64 x.px, .int .i64 x.py, .int .i64 x.hg, .int .i64 x.jb, .int .i64 x.bk, .slice A n c] 35)).alloc (.cells #[.int .i64 0, .int .i64 0, .int .i64 0, .int .i64 0] 30)).heap.size := by simp
  obtain ⟨c0, c1, c2, c3, c4, c5, c6⟩ := HC.out
  have d0 := HR.out.cell 0 (by simp)
  have d1 := HR.out.cell 1 (by simp)
  have d2 := HR.out.cell 2 (by simp)
  have d3 := HR.out.cell 3 (by simp)
  simp only [List.getD_cons_zero, List.getD_cons_succ] at d0 d1 d2 d3
  have m0 := HR.out.free 0
  have m1 := HR.out.free 1
  have m2 := HR.out.free 2
  have m3 := HR.out.free 3
  go_enter Tryd.func25, Tryd.ntmps25
  go_wp2_with fail
  generalize (w.alloc (.cells #[.string x.nm, .int .i64 x.px, .int .i64 x.py, .int .i64 x.hg, .int .i64 x.jb, .int .i64 x.bk, .slice A n c] 35)).alloc (.cells #[.int .i64 0, .int .i64 0, .int .i64 0, .int .i64 0] 30) = v0 at *
  have hA : Below v0.heap.size v0 v0 := gr_refl _
  go_region_held3 (fun w' => w'.cell? ⟨w.heap.size, 0, none⟩ = some (.string x.nm) ∧ w'.cell? ⟨w.heap.size, 1, none⟩ = some (.int .i64 x.px) ∧ w'.cell? ⟨w.heap.size, 2, none⟩ = some (.int .i64 x.py) ∧ w'.cell? ⟨w.heap.size, 3, none⟩ = some (.int .i64 x.hg) ∧ w'.cell? ⟨w.heap.size, 4, none⟩ = some (.int .i64 x.jb) ∧ w'.cell? ⟨w.heap.size, 5, none⟩ = some (.int .i64 x.bk) ∧ w'.cell? ⟨w.heap.size, 6, none⟩ = some (.slice A n c)) (first | with_reducible exact ⟨c0, c1, c2, c3, c4, c5, c6⟩ | with_reducible exact ⟨drewc c0, drewc c1, drewc c2, drewc c3, drewc c4, drewc c5, drewc c6⟩ | with_reducible exact ⟨(keepc hA c0), (keepc hA c1), (keepc hA c2), (keepc hA c3), (keepc hA c4), (keepc hA c5), (keepc hA c6)⟩ | with_reducible exact ⟨(setfar (p := ⟨_, 3, none⟩) (setfar (p := ⟨_, 2, none⟩) (setfar (p := ⟨_, 1, none⟩) (setfar (p := ⟨_, 0, none⟩) (keepc hA c0) (by dsimp only; omega)) (by dsimp only; omega)) (by dsimp only; omega)) (by dsimp only; omega)), (setfar (p := ⟨_, 3, none⟩) (setfar (p := ⟨_, 2, none⟩) (setfar (p := ⟨_, 1, none⟩) (setfar (p := ⟨_, 0, none⟩) (keepc hA c1) (by dsimp only; omega)) (by dsimp only; omega)) (by dsimp only; omega)) (by dsimp only; omega)), (setfar (p := ⟨_, 3, none⟩) (setfar (p := ⟨_, 2, none⟩) (setfar (p := ⟨_, 1, none⟩) (setfar (p := ⟨_, 0, none⟩) (keepc hA c2) (by dsimp only; omega)) (by dsimp only; omega)) (by dsimp only; omega)) (by dsimp only; omega)), (setfar (p := ⟨_, 3, none⟩) (setfar (p := ⟨_, 2, none⟩) (setfar (p := ⟨_, 1, none⟩) (setfar (p := ⟨_, 0, none⟩) (keepc hA c3) (by dsimp only; omega)) (by dsimp only; omega)) (by dsimp only; omega)) (by dsimp only; omega)), (setfar (p := ⟨_, 3, none⟩) (setfar (p := ⟨_, 2, none⟩) (setfar (p := ⟨_, 1, none⟩) (setfar (p := ⟨_, 0, none⟩) (keepc hA c4) (by dsimp only; omega)) (by dsimp only; omega)) (by dsimp only; omega)) (by dsimp only; omega)), (setfar (p := ⟨_, 3, none⟩) (setfar (p := ⟨_, 2, none⟩) (setfar (p := ⟨_, 1, none⟩) (setfar (p := ⟨_, 0, none⟩) (keepc hA c5) (by dsimp only; omega)) (by dsimp only; omega)) (by dsimp only; omega)) (by dsimp only; omega)), (setfar (p := ⟨_, 3, none⟩) (setfar (p := ⟨_, 2, none⟩) (setfar (p := ⟨_, 1, none⟩) (setfar (p := ⟨_, 0, none⟩) (keepc hA c6) (by dsimp only; omega)) (by dsimp only; omega)) (by dsimp only; omega)) (by dsimp only; omega))⟩) (first | (go_at_call 32; (with_reducible refine (backEnd_any x A n c k _ hk HN.out (HQ.out.late (by repeat' first | exact gr_refl _ | with_reducible assumption | with_reducible apply gr_alloc | with_reducible apply gr_set | with_reducible apply gr_drew | with_reducible apply gr_drewN | exact Nat.le_add_right _ _ | exact Nat.le_refl _ | (refine gr_then (by with_reducible assumption) ?_)))).mono ?_); rintro e w1 ⟨rfl, hb⟩; replace hA : Below v0.heap.size v0 w1 := gr_then hb (by repeat' first | exact gr_refl _ | with_reducible assumption | with_reducible apply gr_alloc | with_reducible apply gr_set | with_reducible apply gr_drew | with_reducible apply gr_drewN | exact Nat.le_add_right _ _ | exact Nat.le_refl _ | (refine gr_then (by with_reducible assumption) ?_)); clear hb; have hl := hA.size; have e0 := keepc hA d0; have n0 := (HR.out.late hA).free 0; have e1 := keepc hA d1; have n1 := (HR.out.late hA).free 1; have e2 := keepc hA d2; have n2 := (HR.out.late hA).free 2; have e3 := keepc hA d3; have n3 := (HR.out.late hA).free 3) | (go_at_call 31; (with_reducible refine (jibEnd_any x A n c k _ hk HN.out (HQ.out.late (by repeat' first | exact gr_refl _ | with_reducible assumption | with_reducible apply gr_alloc | with_reducible apply gr_set | with_reducible apply gr_drew | with_reducible apply gr_drewN | exact Nat.le_add_right _ _ | exact Nat.le_refl _ | (refine gr_then (by with_reducible assumption) ?_)))).mono ?_); rintro e w1 ⟨rfl, hb⟩; replace hA : Below v0.heap.size v0 w1 := gr_then hb (by repeat' first | exact gr_refl _ | with_reducible assumption | with_reducible apply gr_alloc | with_reducible apply gr_set | with_reducible apply gr_drew | with_reducible apply gr_drewN | exact Nat.le_add_right _ _ | exact Nat.le_refl _ | (refine gr_then (by with_reducible assumption) ?_)); clear hb; have hl := hA.size; have e0 := keepc hA d0; have n0 := (HR.out.late hA).free 0; have e1 := keepc hA d1; have n1 := (HR.out.late hA).free 1; have e2 := keepc hA d2; have n2 := (HR.out.late hA).free 2; have e3 := keepc hA d3; have n3 := (HR.out.late hA).free 3))
  all_goals (go_wp2; refine bodyPost_ret (v := .agg #[.int .i64 (kX x k), .int .i64 (kY x k), .int .i64 (jX x k), .int .i64 (jY x k)]) (by simp [results, Tryd.results25, go_sem, *]) rfl ⟨rfl, by repeat' (first | with_reducible exact gr_then hA HB.out | (with_reducible refine gr_set (by dsimp only; omega) ?_) | (with_reducible refine gr_drew ?_) | (with_reducible refine gr_drewN ?_))⟩)
end Go.Proofs.YtbdhmadgflmhmaaDoor
