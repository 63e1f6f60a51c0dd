/- The ends of a valid crane, and its load at its own place (the program). -/
import Derived.Test.YtbdhmadgflmhmaaDoorBoom
import Derived.Test.YtbdhmadgflmhmaaDoorSq
import Derived.Deep.QuietTactic
namespace Go.Proofs.YtbdhmadgflmhmaaDoor
open Go.RowKit Go.Deep
theorem rt_zero : rt 0 = 0 := rt_eq ⟨Int.le_refl _, by decide, fun s h0 h1 => by omega⟩
theorem sqI_same (a b : Int) : sqI (a - a) (b - b) = 0 := by unfold sqI; simp

set_option maxHeartbeats 8000000 in
set_option maxRecDepth 20000 in
theorem endJ_any (x : Cr) (A : Option Addr) (n c k : Nat) (w : World) (hn : n ≤ 1048576) (hl : x.zs.length = n * 2) (hm : x.nm.size ≤ 9223372036854775806) (hok : okCr x n = true) (hk : k ≤ 23) (h : SI w w.heap.size A x.zs) (hQ : Quar w) : Calls Tryd.prog 30 #[.agg #[.string x.nm, .int .i64 x.px, .int .i64 x.py, .int .i64 x.hg, .int .i64 x.jb, .int .i64 x.bk, .slice A n c], .int .i64 (k : Int), .func (.func 31) #[] #[]] w fun e w' => e = .returned (.tuple #[.agg #[.int .i64 (jX x k), .int .i64 (jY x k)], .int .i64 0]) ∧ Below w.heap.size w w' := by
  have HOK := Lib.hid hok
  clear hok
  have hb : Below (w.alloc (.cells #[.string x.nm, .int .i64 x.px, .int .i64 x.py, .int .i64 x.hg, .int .i64 x.jb, .int .i64 x.bk, .slice A n c] 35)).heap.size (w.alloc (.cells #[.string x.nm, .int .i64 x.px, .int .i64 x.py, .int .i64 x.hg, .int .i64 x.jb, .int .i64 x.bk, .slice A n c] 35)) ((w.alloc (.cells #[.string x.nm, .int .i64 x.px, .int .i64 x.py, .int .i64 x.hg, .int .i64 x.jb, .int .i64 x.bk, .slice A n c] 35)).alloc (.cells #[.int .i64 0, .int .i64 0] 28)) := gr_alloc (gr_refl _)
  have HC := Lib.hid ((Cc.box w 35 x A n c).late hb)
  have HR := Lib.hid (show BI ((w.alloc (.cells #[.string x.nm, .int .i64 x.px, .int .i64 x.py, .int .i64 x.hg, .int .i64 x.jb, .int .i64 x.bk, .slice A n c] 35)).alloc (.cells #[.int .i64 0, .int .i64 0] 28)) (w.heap.size + 1) 28 [0, 0] from by have h := heap_alloc_new (w.alloc (.cells #[.string x.nm, .int .i64 x.px, .int .i64 x.py, .int .i64 x.hg, .int .i64 x.jb, .int .i64 x.bk, .slice A n c] 35)) (.cells #[.int .i64 0, .int .i64 0] 28); simp only [World.size_alloc] at h; exact h)
  clear hb
  have hb : Below w.heap.size w ((w.alloc (.cells #[.string x.nm, .int .i64 x.px, .int .i64 x.py, .int .i64 x.hg, .int .i64 x.jb, .int .i64 x.bk, .slice A n c] 35)).alloc (.cells #[.int .i64 0, .int .i64 0] 28)) := gr_alloc (gr_alloc (gr_refl _))
  have HB := Lib.hid hb
  have HS := Lib.hid (h.later hb)
  have HQ := Lib.hid (hQ.late hb)
  clear hb h hQ
  have hz : w.heap.size + 1 < ((w.alloc (.cells #[.string x.nm, .int .i64 x.px, .int .i64 x.py, .int .i64 x.hg, .int .i64 x.jb, .int .i64 x.bk, .slice A n c] 35)).alloc (.cells #[.int .i64 0, .int .i64 0] 28)).heap.size := by simp
  obtain ⟨c0, c1, c2, c3, c4, c5, c6⟩ := HC.out
  have d0 := HR.out.cell 0 (by simp)
  have d1 := HR.out.cell 1 (by simp)
  simp only [List.getD_cons_zero, List.getD_cons_succ] at d0 d1
  have m0 := HR.out.free 0
  have m1 := HR.out.free 1
  go_enter Tryd.func30, Tryd.ntmps30
  go_wp2_with fail
  generalize (w.alloc (.cells #[.string x.nm, .int .i64 x.px, .int .i64 x.py, .int .i64 x.hg, .int .i64 x.jb, .int .i64 x.bk, .slice A n c] 35)).alloc (.cells #[.int .i64 0, .int .i64 0] 28) = v0 at *
  clear c0 c1 c2 c3 c4 c5 c6 d0 m0 d1 m1
  go_at_call 23
  (with_reducible refine (validCr_is HOK.out hn hl hm HS.out).mono ?_)
  rintro e w1 ⟨rfl, hb⟩
  replace HS := Lib.hid (HS.out.later hb)
  replace HQ := Lib.hid (HQ.out.late hb)
  replace HC := Lib.hid (HC.out.late hb)
  replace HR := Lib.hid (HR.out.late hb)
  replace HB := Lib.hid (gr_then hb HB.out)
  replace hz := Nat.lt_of_lt_of_le hz hb.size
  clear hb
  obtain ⟨c0, c1, c2, c3, c4, c5, c6⟩ := HC.out
  have d0 := HR.out.cell 0 (by simp)
  have d1 := HR.out.cell 1 (by simp)
  simp only [List.getD_cons_zero, List.getD_cons_succ] at d0 d1
  have m0 := HR.out.free 0
  have m1 := HR.out.free 1
  go_wp2_with fail
  clear c0 c1 c2 c3 c4 c5 c6 d0 m0 d1 m1
  go_at_call 24
  (with_reducible refine (isDir_is (inI_y (show (0 : Int) ≤ (k : Int) ∧ (k : Int) ≤ 23 by omega)) _).mono ?_)
  rintro e w2 ⟨rfl, rfl⟩
  obtain ⟨c0, c1, c2, c3, c4, c5, c6⟩ := HC.out
  have d0 := HR.out.cell 0 (by simp)
  have d1 := HR.out.cell 1 (by simp)
  simp only [List.getD_cons_zero, List.getD_cons_succ] at d0 d1
  have m0 := HR.out.free 0
  have m1 := HR.out.free 1
  go_wp2_with fail
  clear c0 c1 c2 c3 c4 c5 c6 d0 m0 d1 m1
  have HNR := Lib.hid (near_of HOK.out)
  go_at_call 31
  (with_reducible refine (jibEnd_any x A n c k _ hk HNR.out HQ.out).mono ?_)
  rintro e w3 ⟨rfl, hb⟩
  replace HS := Lib.hid (HS.out.later hb)
  replace HQ := Lib.hid (HQ.out.late hb)
  replace HC := Lib.hid (HC.out.late hb)
  replace HR := Lib.hid (HR.out.late hb)
  replace HB := Lib.hid (gr_then hb HB.out)
  replace hz := Nat.lt_of_lt_of_le hz hb.size
  clear hb
  obtain ⟨c0, c1, c2, c3, c4, c5, c6⟩ := HC.out
  have d0 := HR.out.cell 0 (by simp)
  have d1 := HR.out.cell 1 (by simp)
  simp only [List.getD_cons_zero, List.getD_cons_succ] at d0 d1
  have m0 := HR.out.free 0
  have m1 := HR.out.free 1
  go_wp2_with fail
  refine bodyPost_ret (v := .tuple #[.agg #[.int .i64 (jX x k), .int .i64 (jY x k)], .int .i64 0]) (by simp [results, Tryd.results30, go_sem, *]) rfl ⟨rfl, by repeat' (first | with_reducible exact HB.out | (with_reducible refine gr_set (by dsimp only; omega) ?_))⟩
set_option maxHeartbeats 8000000 in
set_option maxRecDepth 20000 in
theorem endJ2_any (x : Cr) (A : Option Addr) (n c k : Nat) (w : World) (hn : n ≤ 1048576) (hl : x.zs.length = n * 2) (hm : x.nm.size ≤ 9223372036854775806) (hok : okCr x n = true) (hk : k ≤ 23) (h : SI w w.heap.size A x.zs) (hQ : Quar w) : Calls Tryd.prog 14 #[.agg #[.string x.nm, .int .i64 x.px, .int .i64 x.py, .int .i64 x.hg, .int .i64 x.jb, .int .i64 x.bk, .slice A n c], .int .i64 (k : Int)] w fun e w' => e = .returned (.tuple #[.agg #[.int .i64 (jX x k), .int .i64 (jY x k)], .int .i64 0]) ∧ Below w.heap.size w w' := by
  have HOK := Lib.hid hok
  clear hok
  have hb : Below (w.alloc (.cells #[.string x.nm, .int .i64 x.px, .int .i64 x.py, .int .i64 x.hg, .int .i64 x.jb, .int .i64 x.bk, .slice A n c] 35)).heap.size (w.alloc (.cells #[.string x.nm, .int .i64 x.px, .int .i64 x.py, .int .i64 x.hg, .int .i64 x.jb, .int .i64 x.bk, .slice A n c] 35)) ((w.alloc (.cells #[.string x.nm, .int .i64 x.px, .int .i64 x.py, .int .i64 x.hg, .int .i64 x.jb, .int .i64 x.bk, .slice A n c] 35)).alloc (.cells #[.int .i64 0, .int .i64 0] 28)) := gr_alloc (gr_refl _)
  have HC := Lib.hid ((Cc.box w 35 x A n c).late hb)
  have HR := Lib.hid (show BI ((w.alloc (.cells #[.string x.nm, .int .i64 x.px, .int .i64 x.py, .int .i64 x.hg, .int .i64 x.jb, .int .i64 x.bk, .slice A n c] 35)).alloc (.cells #[.int .i64 0, .int .i64 0] 28)) (w.heap.size + 1) 28 [0, 0] from by have h := heap_alloc_new (w.alloc (.cells #[.string x.nm, .int .i64 x.px, .int .i64 x.py, .int .i64 x.hg, .int .i64 x.jb, .int .i64 x.bk, .slice A n c] 35)) (.cells #[.int .i64 0, .int .i64 0] 28); simp only [World.size_alloc] at h; exact h)
  clear hb
  have hb : Below w.heap.size w ((w.alloc (.cells #[.string x.nm, .int .i64 x.px, .int .i64 x.py, .int .i64 x.hg, .int .i64 x.jb, .int .i64 x.bk, .slice A n c] 35)).alloc (.cells #[.int .i64 0, .int .i64 0] 28)) := gr_alloc (gr_alloc (gr_refl _))
  have HB := Lib.hid hb
  have HS := Lib.hid (h.later hb)
  have HQ := Lib.hid (hQ.late hb)
  clear hb h hQ
  have hz : w.heap.size + 1 < ((w.alloc (.cells #[.string x.nm, .int .i64 x.px, .int .i64 x.py, .int .i64 x.hg, .int .i64 x.jb, .int .i64 x.bk, .slice A n c] 35)).alloc (.cells #[.int .i64 0, .int .i64 0] 28)).heap.size := by simp
  obtain ⟨c0, c1, c2, c3, c4, c5, c6⟩ := HC.out
  have d0 := HR.out.cell 0 (by simp)
  have d1 := HR.out.cell 1 (by simp)
  simp only [List.getD_cons_zero, List.getD_cons_succ] at d0 d1
  have m0 := HR.out.free 0
  have m1 := HR.out.free 1
  go_enter Tryd.func14, Tryd.ntmps14
  go_wp2_with fail
  generalize (w.alloc (.cells #[.string x.nm, .int .i64 x.px, .int .i64 x.py, .int .i64 x.hg, .int .i64 x.jb, .int .i64 x.bk, .slice A n c] 35)).alloc (.cells #[.int .i64 0, .int .i64 0] 28) = v0 at *
  clear c0 c1 c2 c3 c4 c5 c6 d0 m0 d1 m1
  go_at_call 30
  (with_reducible refine (endJ_any x A n c k _ hn hl hm HOK.out hk HS.out HQ.out).mono ?_)
  rintro e w1 ⟨rfl, hb⟩
  replace HS := Lib.hid (HS.out.later hb)
  replace HQ := Lib.hid (HQ.out.late hb)
  replace HC := Lib.hid (HC.out.late hb)
  replace HR := Lib.hid (HR.out.late hb)
  replace HB := Lib.hid (gr_then hb HB.out)
  replace hz := Nat.lt_of_lt_of_le hz hb.size
  clear hb
  obtain ⟨c0, c1, c2, c3, c4, c5, c6⟩ := HC.out
  have d0 := HR.out.cell 0 (by simp)
  have d1 := HR.out.cell 1 (by simp)
  simp only [List.getD_cons_zero, List.getD_cons_succ] at d0 d1
  have m0 := HR.out.free 0
  have m1 := HR.out.free 1
  go_wp2_with fail
  refine bodyPost_ret (v := .tuple #[.agg #[.int .i64 (jX x k), .int .i64 (jY x k)], .int .i64 0]) (by simp [results, Tryd.results14, go_sem, *]) rfl ⟨rfl, by repeat' (first | with_reducible exact HB.out | (with_reducible refine gr_set (by dsimp only; omega) ?_))⟩

set_option maxHeartbeats 8000000 in
set_option maxRecDepth 20000 in
theorem endK_any (x : Cr) (A : Option Addr) (n c k : Nat) (w : World) (hn : n ≤ 1048576) (hl : x.zs.length = n * 2) (hm : x.nm.size ≤ 9223372036854775806) (hok : okCr x n = true) (hk : k ≤ 23) (h : SI w w.heap.size A x.zs) (hQ : Quar w) : Calls Tryd.prog 30 #[.agg #[.string x.nm, .int .i64 x.px, .int .i64 x.py, .int .i64 x.hg, .int .i64 x.jb, .int .i64 x.bk, .slice A n c], .int .i64 (k : Int), .func (.func 32) #[] #[]] w fun e w' => e = .returned (.tuple #[.agg #[.int .i64 (kX x k), .int .i64 (kY x k)], .int .i64 0]) ∧ Below w.heap.size w w' := by
  have HOK := Lib.hid hok
  clear hok
  have hb : Below (w.alloc (.cells #[.string x.nm, .int .i64 x.px, .int .i64 x.py, .int .i64 x.hg, .int .i64 x.jb, .int .i64 x.bk, .slice A n c] 35)).heap.size (w.alloc (.cells #[.string x.nm, .int .i64 x.px, .int .i64 x.py, .int .i64 x.hg, .int .i64 x.jb, .int .i64 x.bk, .slice A n c] 35)) ((w.alloc (.cells #[.string x.nm, .int .i64 x.px, .int .i64 x.py, .int .i64 x.hg, .int .i64 x.jb, .int .i64 x.bk, .slice A n c] 35)).alloc (.cells #[.int .i64 0, .int .i64 0] 28)) := gr_alloc (gr_refl _)
  have HC := Lib.hid ((Cc.box w 35 x A n c).late hb)
  have HR := Lib.hid (show BI ((w.alloc (.cells #[.string x.nm, .int .i64 x.px, .int .i64 x.py, .int .i64 x.hg, .int .i64 x.jb, .int .i64 x.bk, .slice A n c] 35)).alloc (.cells #[.int .i64 0, .int .i64 0] 28)) (w.heap.size + 1) 28 [0, 0] from by have h := heap_alloc_new (w.alloc (.cells #[.string x.nm, .int .i64 x.px, .int .i64 x.py, .int .i64 x.hg, .int .i64 x.jb, .int .i64 x.bk, .slice A n c] 35)) (.cells #[.int .i64 0, .int .i64 0] 28); simp only [World.size_alloc] at h; exact h)
  clear hb
  have hb : Below w.heap.size w ((w.alloc (.cells #[.string x.nm, .int .i64 x.px, .int .i64 x.py, .int .i64 x.hg, .int .i64 x.jb, .int .i64 x.bk, .slice A n c] 35)).alloc (.cells #[.int .i64 0, .int .i64 0] 28)) := gr_alloc (gr_alloc (gr_refl _))
  have HB := Lib.hid hb
  have HS := Lib.hid (h.later hb)
  have HQ := Lib.hid (hQ.late hb)
  clear hb h hQ
  have hz : w.heap.size + 1 < ((w.alloc (.cells #[.string x.nm, .int .i64 x.px, .int .i64 x.py, .int .i64 x.hg, .int .i64 x.jb, .int .i64 x.bk, .slice A n c] 35)).alloc (.cells #[.int .i64 0, .int .i64 0] 28)).heap.size := by simp
  obtain ⟨c0, c1, c2, c3, c4, c5, c6⟩ := HC.out
  have d0 := HR.out.cell 0 (by simp)
  have d1 := HR.out.cell 1 (by simp)
  simp only [List.getD_cons_zero, List.getD_cons_succ] at d0 d1
  have m0 := HR.out.free 0
  have m1 := HR.out.free 1
  go_enter Tryd.func30, Tryd.ntmps30
  go_wp2_with fail
  generalize (w.alloc (.cells #[.string x.nm, .int .i64 x.px, .int .i64 x.py, .int .i64 x.hg, .int .i64 x.jb, .int .i64 x.bk, .slice A n c] 35)).alloc (.cells #[.int .i64 0, .int .i64 0] 28) = v0 at *
  clear c0 c1 c2 c3 c4 c5 c6 d0 m0 d1 m1
  go_at_call 23
  (with_reducible refine (validCr_is HOK.out hn hl hm HS.out).mono ?_)
  rintro e w1 ⟨rfl, hb⟩
  replace HS := Lib.hid (HS.out.later hb)
  replace HQ := Lib.hid (HQ.out.late hb)
  replace HC := Lib.hid (HC.out.late hb)
  replace HR := Lib.hid (HR.out.late hb)
  replace HB := Lib.hid (gr_then hb HB.out)
  replace hz := Nat.lt_of_lt_of_le hz hb.size
  clear hb
  obtain ⟨c0, c1, c2, c3, c4, c5, c6⟩ := HC.out
  have d0 := HR.out.cell 0 (by simp)
  have d1 := HR.out.cell 1 (by simp)
  simp only [List.getD_cons_zero, List.getD_cons_succ] at d0 d1
  have m0 := HR.out.free 0
  have m1 := HR.out.free 1
  go_wp2_with fail
  clear c0 c1 c2 c3 c4 c5 c6 d0 m0 d1 m1
  go_at_call 24
  (with_reducible refine (isDir_is (inI_y (show (0 : Int) ≤ (k : Int) ∧ (k : Int) ≤ 23 by omega)) _).mono ?_)
  rintro e w2 ⟨rfl, rfl⟩
  obtain ⟨c0, c1, c2, c3, c4, c5, c6⟩ := HC.out
  have d0 := HR.out.cell 0 (by simp)
  have d1 := HR.out.cell 1 (by simp)
  simp only [List.getD_cons_zero, List.getD_cons_succ] at d0 d1
  have m0 := HR.out.free 0
  have m1 := HR.out.free 1
  go_wp2_with fail
  clear c0 c1 c2 c3 c4 c5 c6 d0 m0 d1 m1
  have HNR := Lib.hid (near_of HOK.out)
  go_at_call 32
  (with_reducible refine (backEnd_any x A n c k _ hk HNR.out HQ.out).mono ?_)
  rintro e w3 ⟨rfl, hb⟩
  replace HS := Lib.hid (HS.out.later hb)
  replace HQ := Lib.hid (HQ.out.late hb)
  replace HC := Lib.hid (HC.out.late hb)
  replace HR := Lib.hid (HR.out.late hb)
  replace HB := Lib.hid (gr_then hb HB.out)
  replace hz := Nat.lt_of_lt_of_le hz hb.size
  clear hb
  obtain ⟨c0, c1, c2, c3, c4, c5, c6⟩ := HC.out
  have d0 := HR.out.cell 0 (by simp)
  have d1 := HR.out.cell 1 (by simp)
  simp only [List.getD_cons_zero, List.getD_cons_succ] at d0 d1
  have m0 := HR.out.free 0
  have m1 := HR.out.free 1
  go_wp2_with fail
  refine bodyPost_ret (v := .tuple #[.agg #[.int .i64 (kX x k), .int .i64 (kY x k)], .int .i64 0]) (by simp [results, Tryd.results30, go_sem, *]) rfl ⟨rfl, by repeat' (first | with_reducible exact HB.out | (with_reducible refine gr_set (by dsimp only; omega) ?_))⟩
set_option maxHeartbeats 8000000 in
set_option maxRecDepth 20000 in
theorem endK2_any (x : Cr) (A : Option Addr) (n c k : Nat) (w : World) (hn : n ≤ 1048576) (hl : x.zs.length = n * 2) (hm : x.nm.size ≤ 9223372036854775806) (hok : okCr x n = true) (hk : k ≤ 23) (h : SI w w.heap.size A x.zs) (hQ : Quar w) : Calls Tryd.prog 15 #[.agg #[.string x.nm, .int .i64 x.px, .int .i64 x.py, .int .i64 x.hg, .int .i64 x.jb, .int .i64 x.bk, .slice A n c], .int .i64 (k : Int)] w fun e w' => e = .returned (.tuple #[.agg #[.int .i64 (kX x k), .int .i64 (kY x k)], .int .i64 0]) ∧ Below w.heap.size w w' := by
  have HOK := Lib.hid hok
  clear hok
  have hb : Below (w.alloc (.cells #[.string x.nm, .int .i64 x.px, .int .i64 x.py, .int .i64 x.hg, .int .i64 x.jb, .int .i64 x.bk, .slice A n c] 35)).heap.size (w.alloc (.cells #[.string x.nm, .int .i64 x.px, .int .i64 x.py, .int .i64 x.hg, .int .i64 x.jb, .int .i64 x.bk, .slice A n c] 35)) ((w.alloc (.cells #[.string x.nm, .int .i64 x.px, .int .i64 x.py, .int .i64 x.hg, .int .i64 x.jb, .int .i64 x.bk, .slice A n c] 35)).alloc (.cells #[.int .i64 0, .int .i64 0] 28)) := gr_alloc (gr_refl _)
  have HC := Lib.hid ((Cc.box w 35 x A n c).late hb)
  have HR := Lib.hid (show BI ((w.alloc (.cells #[.string x.nm, .int .i64 x.px, .int .i64 x.py, .int .i64 x.hg, .int .i64 x.jb, .int .i64 x.bk, .slice A n c] 35)).alloc (.cells #[.int .i64 0, .int .i64 0] 28)) (w.heap.size + 1) 28 [0, 0] from by have h := heap_alloc_new (w.alloc (.cells #[.string x.nm, .int .i64 x.px, .int .i64 x.py, .int .i64 x.hg, .int .i64 x.jb, .int .i64 x.bk, .slice A n c] 35)) (.cells #[.int .i64 0, .int .i64 0] 28); simp only [World.size_alloc] at h; exact h)
  clear hb
  have hb : Below w.heap.size w ((w.alloc (.cells #[.string x.nm, .int .i64 x.px, .int .i64 x.py, .int .i64 x.hg, .int .i64 x.jb, .int .i64 x.bk, .slice A n c] 35)).alloc (.cells #[.int .i64 0, .int .i64 0] 28)) := gr_alloc (gr_alloc (gr_refl _))
  have HB := Lib.hid hb
  have HS := Lib.hid (h.later hb)
  have HQ := Lib.hid (hQ.late hb)
  clear hb h hQ
  have hz : w.heap.size + 1 < ((w.alloc (.cells #[.string x.nm, .int .i64 x.px, .int .i64 x.py, .int .i64 x.hg, .int .i64 x.jb, .int .i64 x.bk, .slice A n c] 35)).alloc (.cells #[.int .i64 0, .int .i64 0] 28)).heap.size := by simp
  obtain ⟨c0, c1, c2, c3, c4, c5, c6⟩ := HC.out
  have d0 := HR.out.cell 0 (by simp)
  have d1 := HR.out.cell 1 (by simp)
  simp only [List.getD_cons_zero, List.getD_cons_succ] at d0 d1
  have m0 := HR.out.free 0
  have m1 := HR.out.free 1
  go_enter Tryd.func15, Tryd.ntmps15
  go_wp2_with fail
  generalize (w.alloc (.cells #[.string x.nm, .int .i64 x.px, .int .i64 x.py, .int .i64 x.hg, .int .i64 x.jb, .int .i64 x.bk, .slice A n c] 35)).alloc (.cells #[.int .i64 0, .int .i64 0] 28) = v0 at *
  clear c0 c1 c2 c3 c4 c5 c6 d0 m0 d1 m1
  go_at_call 30
  (with_reducible refine (endK_any x A n c k _ hn hl hm HOK.out hk HS.out HQ.out).mono ?_)
  rintro e w1 ⟨rfl, hb⟩
  replace HS := Lib.hid (HS.out.later hb)
  replace HQ := Lib.hid (HQ.out.late hb)
  replace HC := Lib.hid (HC.out.late hb)
  replace HR := Lib.hid (HR.out.late hb)
  replace HB := Lib.hid (gr_then hb HB.out)
  replace hz := Nat.lt_of_lt_of_le hz hb.size
  clear hb
  obtain ⟨c0, c1, c2, c3, c4, c5, c6⟩ := HC.out
  have d0 := HR.out.cell 0 (by simp)
  have d1 := HR.out.cell 1 (by simp)
  simp only [List.getD_cons_zero, List.getD_cons_succ] at d0 d1
  have m0 := HR.out.free 0
  have m1 := HR.out.free 1
  go_wp2_with fail
  refine bodyPost_ret (v := .tuple #[.agg #[.int .i64 (kX x k), .int .i64 (kY x k)], .int .i64 0]) (by simp [results, Tryd.results15, go_sem, *]) rfl ⟨rfl, by repeat' (first | with_reducible exact HB.out | (with_reducible refine gr_set (by dsimp only; omega) ?_))⟩
set_option maxHeartbeats 1000000 in
theorem step0_any (r ld : Int) (g : Nat) (w : World) (h : w.cell? ⟨g, 0, none⟩ = some (.int .i64 0)) (hr : 1 ≤ r) : Calls Tryd.prog 74 #[.agg #[.int .i64 r, .int .i64 ld], .pointer (some ⟨g, 0, none⟩)] w fun e w' => e = .returned (.bool true) ∧ Below w.heap.size w w' := by
  have hg := lt_of_cell h
  dsimp only at hg
  have hd : decide (0 ≤ r) = true := decide_eq_true (by omega)
  go_enter Tryd.func74, Tryd.ntmps74
  go_wp2
  go_returns
  exact ⟨rfl, by repeat' first | exact gr_refl _ | with_reducible apply gr_drewN | with_reducible apply gr_alloc⟩
set_option maxHeartbeats 2000000 in
set_option maxRecDepth 20000 in
theorem idx0_any (b o n c g : Nat) (r ld : Int) (w : World) (hn : 1 ≤ n) (hn2 : n ≤ 1048576) (h : w.cell? ⟨g, 0, none⟩ = some (.int .i64 0)) (hr : 1 ≤ r) (h0 : w.cell? ⟨b, o, none⟩ = some (.int .i64 r)) (h1 : w.cell? ⟨b, o + 1, none⟩ = some (.int .i64 ld)) : Calls Tryd.prog 73 #[.slice (some ⟨b, o, none⟩) n c, .func (.func 74) #[] #[.pointer (some ⟨g, 0, none⟩)]] w fun e w' => e = .returned (.int .i64 0) ∧ Below w.heap.size w w' := by
  have hd : decide ((0 : Int) < (n : Int)) = true := decide_eq_true (by omega)
  go_enter Tryd.func73, Tryd.ntmps73
  go_wp2_with fail
  refine wp_loop_rounds 1 ?_
  rw [rounds_succ]
  go_wp2_with (go_at_call 74; (with_reducible refine (step0_any r ld g _ h hr).mono ?_); rintro e w1 ⟨rfl, hb⟩)
  go_returns
  exact ⟨rfl, hb⟩
set_option maxHeartbeats 2000000 in
set_option maxRecDepth 20000 in
theorem stepFor0_any (b o n c : Nat) (r ld : Int) (w : World) (hn : 1 ≤ n) (hn2 : n ≤ 1048576) (hr : 1 ≤ r) (h0 : w.cell? ⟨b, o, none⟩ = some (.int .i64 r)) (h1 : w.cell? ⟨b, o + 1, none⟩ = some (.int .i64 ld)) : Calls Tryd.prog 67 #[.slice (some ⟨b, o, none⟩) n c, .int .i64 0] w fun e w' => e = .returned (.int .i64 0) ∧ Below w.heap.size w w' := by
  have hmf : ∀ (fn : Fn) (first cap : Array Value) (w : World), (Instr.makeFunc fn first cap).run Tryd.prog w = .ok (.func fn first cap) w := fun _ _ _ _ => rfl
  have hb0 : Below w.heap.size w (w.alloc (.cells #[.int .i64 0] 2)) := gr_alloc (gr_refl _)
  have HB := Lib.hid hb0
  have HC := Lib.hid (show (w.alloc (.cells #[.int .i64 0] 2)).cell? ⟨w.heap.size, 0, none⟩ = some (.int .i64 0) by simp [go_sem])
  have k0 := Lib.hid (keepc hb0 h0)
  have k1 := Lib.hid (keepc hb0 h1)
  clear hb0 h0 h1
  go_enter Tryd.func67, Tryd.ntmps67
  go_wp2_with fail
  go_at_call 73
  (with_reducible refine (idx0_any b o n c w.heap.size r ld _ hn hn2 HC.out hr k0.out k1.out).mono ?_)
  rintro e w1 ⟨rfl, hb⟩
  have HB1 := Lib.hid (gr_then hb HB.out)
  clear hb
  go_wp2
  go_returns
  exact ⟨rfl, HB1.out⟩
set_option maxHeartbeats 2000000 in
set_option maxRecDepth 20000 in
theorem loadAt0_any (A : Option Addr) (n c : Nat) (zs : List Int) (w : World) (hok : okCh zs n = true) (hl : zs.length = n * 2) (h : SI w w.heap.size A zs) : Calls Tryd.prog 54 #[.slice A n c, .int .i64 0] w fun e w' => e = .returned (.tuple #[.int .i64 (ldC zs 0), .bool true]) ∧ Below w.heap.size w w' := by
  obtain ⟨t1, t2, t3⟩ := okCh_t hok
  have hr := (stepOk_t (t1 0 (by omega))).1.1
  obtain ⟨b, o, rfl, hB, p0, p1⟩ := si2 h hl (show 0 < n by omega)
  rw [Nat.zero_mul, Nat.add_zero] at p0 p1
  obtain ⟨r, er⟩ : ∃ q, rdC zs 0 = q := ⟨_, rfl⟩
  obtain ⟨ld, el⟩ : ∃ q, ldC zs 0 = q := ⟨_, rfl⟩
  rw [er] at hr p0
  rw [el] at p1 ⊢
  clear hok h t1 er el hl
  have hd : decide ((0 : Int) < (n : Int)) = true := decide_eq_true (by omega)
  go_enter Tryd.func54, Tryd.ntmps54
  go_wp2_with fail
  go_at_call 67
  (with_reducible refine (stepFor0_any b o n c r ld _ t2 (by omega) hr p0 p1).mono ?_)
  rintro e w1 ⟨rfl, hb⟩
  have e1 := keepc hb p1
  have HB := Lib.hid hb
  clear hb p0 p1
  go_wp2
  go_returns
  exact ⟨rfl, HB.out⟩
theorem square0_any (a b : Int) (w : World) : Calls Tryd.prog 56 #[.agg #[.int .i64 a, .int .i64 b], .agg #[.int .i64 a, .int .i64 b]] w fun e w' => e = .returned (.int .i64 0) ∧ Below w.heap.size w w' := by
  have h9 := square_any a b a b w (by omega) (by omega)
  rw [sqI_same] at h9
  exact h9
theorem rootUp0_any (w : World) : Calls Tryd.prog 55 #[.int .i64 0] w fun e w' => e = .returned (.int .i64 0) ∧ w = w' := by
  have h9 := rootUp_any 0 w (by omega) (by omega)
  rw [rt_zero] at h9
  exact h9
set_option maxHeartbeats 4000000 in
set_option maxRecDepth 20000 in
theorem loadPl0_any (x : Cr) (A : Option Addr) (n c : Nat) (w : World) (hl : x.zs.length = n * 2) (hok : okCr x n = true) (h : SI w w.heap.size A x.zs) : Calls Tryd.prog 37 #[.agg #[.string x.nm, .int .i64 x.px, .int .i64 x.py, .int .i64 x.hg, .int .i64 x.jb, .int .i64 x.bk, .slice A n c], .agg #[.int .i64 x.px, .int .i64 x.py]] w fun e w' => e = .returned (.tuple #[.int .i64 (ldC x.zs 0), .bool true]) ∧ Below w.heap.size w w' := by
  have HOK := Lib.hid hok
  clear hok
  have hb : Below (w.alloc (.cells #[.string x.nm, .int .i64 x.px, .int .i64 x.py, .int .i64 x.hg, .int .i64 x.jb, .int .i64 x.bk, .slice A n c] 35)).heap.size (w.alloc (.cells #[.string x.nm, .int .i64 x.px, .int .i64 x.py, .int .i64 x.hg, .int .i64 x.jb, .int .i64 x.bk, .slice A n c] 35)) ((w.alloc (.cells #[.string x.nm, .int .i64 x.px, .int .i64 x.py, .int .i64 x.hg, .int .i64 x.jb, .int .i64 x.bk, .slice A n c] 35)).alloc (.cells #[.int .i64 x.px, .int .i64 x.py] 28)) := gr_alloc (gr_refl _)
  have HC := Lib.hid ((Cc.box w 35 x A n c).late hb)
  have HR := Lib.hid (show BI ((w.alloc (.cells #[.string x.nm, .int .i64 x.px, .int .i64 x.py, .int .i64 x.hg, .int .i64 x.jb, .int .i64 x.bk, .slice A n c] 35)).alloc (.cells #[.int .i64 x.px, .int .i64 x.py] 28)) (w.heap.size + 1) 28 [x.px, x.py] from by have h := heap_alloc_new (w.alloc (.cells #[.string x.nm, .int .i64 x.px, .int .i64 x.py, .int .i64 x.hg, .int .i64 x.jb, .int .i64 x.bk, .slice A n c] 35)) (.cells #[.int .i64 x.px, .int .i64 x.py] 28); simp only [World.size_alloc] at h; exact h)
  clear hb
  have hb : Below w.heap.size w ((w.alloc (.cells #[.string x.nm, .int .i64 x.px, .int .i64 x.py, .int .i64 x.hg, .int .i64 x.jb, .int .i64 x.bk, .slice A n c] 35)).alloc (.cells #[.int .i64 x.px, .int .i64 x.py] 28)) := gr_alloc (gr_alloc (gr_refl _))
  have HB := Lib.hid hb
  have HS := Lib.hid (h.later hb)
  clear hb h
  obtain ⟨c0, c1, c2, c3, c4, c5, c6⟩ := HC.out
  have r0 := HR.out.cell 0 (by simp)
  have r1 := HR.out.cell 1 (by simp)
  simp only [List.getD_cons_zero, List.getD_cons_succ] at r0 r1
  go_enter Tryd.func37, Tryd.ntmps37
  go_wp2_with fail
  generalize (w.alloc (.cells #[.string x.nm, .int .i64 x.px, .int .i64 x.py, .int .i64 x.hg, .int .i64 x.jb, .int .i64 x.bk, .slice A n c] 35)).alloc (.cells #[.int .i64 x.px, .int .i64 x.py] 28) = v0 at *
  have HCH := Lib.hid (okCr_t HOK.out).2.2.2.2.1
  have gw0 : ∀ X, (grw (v0) X).cell? ⟨w.heap.size, 6, none⟩ = some (.slice A n c) := grw_cell (by assumption)
  have gw1 : ∀ X, (grw (v0) X).cell? ⟨w.heap.size, 1, none⟩ = some (.int .i64 x.px) := grw_cell (by assumption)
  have gw2 : ∀ X, (grw (v0) X).cell? ⟨w.heap.size, 2, none⟩ = some (.int .i64 x.py) := grw_cell (by assumption)
  have gw3 : ∀ X, (grw (v0) X).cell? ⟨w.heap.size + 1, 0, none⟩ = some (.int .i64 x.px) := grw_cell (by assumption)
  have gw4 : ∀ X, (grw (v0) X).cell? ⟨w.heap.size + 1, 1, none⟩ = some (.int .i64 x.py) := grw_cell (by assumption)
  refine wp_region_grow (by kernel_rfl) (by kernel_rfl) ?_
  repeat (go_big_quiet_step (first | (go_at_call 56; exact grow_of (square0_any _ _ _)) | (go_at_call 55; exact grow_same (rootUp0_any _)) | (go_at_call 54; exact grow_of (loadAt0_any A n c x.zs _ HCH.out hl (HS.out.later (grw_below _ _)))) | fail))
  refine wpQuiet_nil ?_
  rintro wq ⟨X, hX⟩
  have hQ_wq : Below (v0).heap.size (v0) wq := by rw [hX]; exact grw_below _ _
  clear hX gw0 gw1 gw2 gw3 gw4
  clear c0 c1 c2 c3 c4 c5 c6 r0 r1
  go_wp2
  go_returns
  exact ⟨rfl, gr_then hQ_wq HB.out⟩
set_option maxHeartbeats 4000000 in
set_option maxRecDepth 20000 in
theorem loadP0_any (x : Cr) (A : Option Addr) (n c : Nat) (w : World) (hn : n ≤ 1048576) (hl : x.zs.length = n * 2) (hm : x.nm.size ≤ 9223372036854775806) (hok : okCr x n = true) (h : SI w w.heap.size A x.zs) : Calls Tryd.prog 17 #[.agg #[.string x.nm, .int .i64 x.px, .int .i64 x.py, .int .i64 x.hg, .int .i64 x.jb, .int .i64 x.bk, .slice A n c], .agg #[.int .i64 x.px, .int .i64 x.py]] w fun e w' => e = .returned (.tuple #[.int .i64 (ldC x.zs 0), .int .i64 0]) ∧ Below w.heap.size w w' := by
  have HOK := Lib.hid hok
  clear hok
  have hb : Below (w.alloc (.cells #[.string x.nm, .int .i64 x.px, .int .i64 x.py, .int .i64 x.hg, .int .i64 x.jb, .int .i64 x.bk, .slice A n c] 35)).heap.size (w.alloc (.cells #[.string x.nm, .int .i64 x.px, .int .i64 x.py, .int .i64 x.hg, .int .i64 x.jb, .int .i64 x.bk, .slice A n c] 35)) ((w.alloc (.cells #[.string x.nm, .int .i64 x.px, .int .i64 x.py, .int .i64 x.hg, .int .i64 x.jb, .int .i64 x.bk, .slice A n c] 35)).alloc (.cells #[.int .i64 x.px, .int .i64 x.py] 28)) := gr_alloc (gr_refl _)
  have HC := Lib.hid ((Cc.box w 35 x A n c).late hb)
  have HR := Lib.hid (show BI ((w.alloc (.cells #[.string x.nm, .int .i64 x.px, .int .i64 x.py, .int .i64 x.hg, .int .i64 x.jb, .int .i64 x.bk, .slice A n c] 35)).alloc (.cells #[.int .i64 x.px, .int .i64 x.py] 28)) (w.heap.size + 1) 28 [x.px, x.py] from by have h := heap_alloc_new (w.alloc (.cells #[.string x.nm, .int .i64 x.px, .int .i64 x.py, .int .i64 x.hg, .int .i64 x.jb, .int .i64 x.bk, .slice A n c] 35)) (.cells #[.int .i64 x.px, .int .i64 x.py] 28); simp only [World.size_alloc] at h; exact h)
  clear hb
  have hb : Below w.heap.size w ((w.alloc (.cells #[.string x.nm, .int .i64 x.px, .int .i64 x.py, .int .i64 x.hg, .int .i64 x.jb, .int .i64 x.bk, .slice A n c] 35)).alloc (.cells #[.int .i64 x.px, .int .i64 x.py] 28)) := gr_alloc (gr_alloc (gr_refl _))
  have HB := Lib.hid hb
  have HS := Lib.hid (h.later hb)
  clear hb h
  obtain ⟨c0, c1, c2, c3, c4, c5, c6⟩ := HC.out
  have r0 := HR.out.cell 0 (by simp)
  have r1 := HR.out.cell 1 (by simp)
  simp only [List.getD_cons_zero, List.getD_cons_succ] at r0 r1
  go_enter Tryd.func17, Tryd.ntmps17
  go_wp2_with fail
  generalize (w.alloc (.cells #[.string x.nm, .int .i64 x.px, .int .i64 x.py, .int .i64 x.hg, .int .i64 x.jb, .int .i64 x.bk, .slice A n c] 35)).alloc (.cells #[.int .i64 x.px, .int .i64 x.py] 28) = v0 at *
  have HPL := Lib.hid (show okPl x.px x.py = true by have h9 := (okCr_t HOK.out).1; unfold okPl; rw [inI_y h9.1, inI_y h9.2]; rfl)
  clear c0 c1 c2 c3 c4 c5 c6 r0 r1
  go_at_call 23
  (with_reducible refine (validCr_is HOK.out hn hl hm HS.out).mono ?_)
  rintro e w1 ⟨rfl, hb⟩
  replace HC := Lib.hid (HC.out.late hb)
  replace HR := Lib.hid (HR.out.late hb)
  replace HS := Lib.hid (HS.out.later hb)
  replace HB := Lib.hid (gr_then hb HB.out)
  clear hb
  obtain ⟨c0, c1, c2, c3, c4, c5, c6⟩ := HC.out
  have r0 := HR.out.cell 0 (by simp)
  have r1 := HR.out.cell 1 (by simp)
  simp only [List.getD_cons_zero, List.getD_cons_succ] at r0 r1
  go_wp2_with fail
  clear c0 c1 c2 c3 c4 c5 c6 r0 r1
  go_at_call 36
  (with_reducible refine (validPl_is HPL.out _).mono ?_)
  rintro e w2 ⟨rfl, hb⟩
  replace HC := Lib.hid (HC.out.late hb)
  replace HR := Lib.hid (HR.out.late hb)
  replace HS := Lib.hid (HS.out.later hb)
  replace HB := Lib.hid (gr_then hb HB.out)
  clear hb
  obtain ⟨c0, c1, c2, c3, c4, c5, c6⟩ := HC.out
  have r0 := HR.out.cell 0 (by simp)
  have r1 := HR.out.cell 1 (by simp)
  simp only [List.getD_cons_zero, List.getD_cons_succ] at r0 r1
  go_wp2_with fail
  clear c0 c1 c2 c3 c4 c5 c6 r0 r1
  go_at_call 37
  (with_reducible refine (loadPl0_any x A n c _ hl HOK.out HS.out).mono ?_)
  rintro e w3 ⟨rfl, hb⟩
  replace HC := Lib.hid (HC.out.late hb)
  replace HR := Lib.hid (HR.out.late hb)
  replace HS := Lib.hid (HS.out.later hb)
  replace HB := Lib.hid (gr_then hb HB.out)
  clear hb
  obtain ⟨c0, c1, c2, c3, c4, c5, c6⟩ := HC.out
  have r0 := HR.out.cell 0 (by simp)
  have r1 := HR.out.cell 1 (by simp)
  simp only [List.getD_cons_zero, List.getD_cons_succ] at r0 r1
  go_wp2_with fail
  go_returns
  exact ⟨rfl, HB.out⟩
end Go.Proofs.YtbdhmadgflmhmaaDoor
