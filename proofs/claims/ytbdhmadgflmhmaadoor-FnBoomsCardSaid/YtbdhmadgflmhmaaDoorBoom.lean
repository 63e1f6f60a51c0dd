/- The boom of a crane in a direction, both sides. -/
import Derived.Test.YtbdhmadgflmhmaaDoorEnds
namespace Go.Proofs.YtbdhmadgflmhmaaDoor
open Go.RowKit Go.Deep
/-- the code of a crane and a direction -/
def cdE (x : Cr) (n : Nat) (d : Int) : Int := if okCr x n = true then (if inI d 0 23 = true then 0 else 2) else 1
theorem cdE_n {x : Cr} {n : Nat} {d : Int} (h : okCr x n = false) : cdE x n d = 1 := if_neg (by rw [h]; decide)
theorem cdE_r {x : Cr} {n : Nat} {d : Int} (h : okCr x n = true) (h2 : inI d 0 23 = false) : cdE x n d = 2 := by unfold cdE; rw [if_pos h, if_neg (by rw [h2]; decide)]
theorem cdE_y {x : Cr} {n : Nat} {d : Int} (h : okCr x n = true) (h2 : inI d 0 23 = true) : cdE x n d = 0 := by unfold cdE; rw [if_pos h, if_pos h2]
def zE (c v : Int) : Int := if c = 0 then v else 0
theorem zE_y (v : Int) : zE 0 v = v := if_pos rfl
theorem zE_1 (v : Int) : zE 1 v = 0 := rfl
theorem zE_2 (v : Int) : zE 2 v = 0 := rfl
theorem validCr_is {x : Cr} {A : Option Addr} {n c : Nat} {r : Bool} (hr : okCr x n = r) {w : World} (hn : n ≤ 1048576) (hz : x.zs.length = n * 2) (hk : x.nm.size ≤ 9223372036854775806) (h : SI w w.heap.size A x.zs) : Calls Tryd.prog 23 #[.agg #[.string x.nm, .int .i64 x.px, .int .i64 x.py, .int .i64 x.hg, .int .i64 x.jb, .int .i64 x.bk, .slice A n c]] w fun e w' => e = .returned (.bool r) ∧ Below w.heap.size w w' := by rw [← hr]; exact validCr_any x A n c w hn hz hk h
theorem okCr04_is {x : Cr} {A : Option Addr} {n c : Nat} {r : Bool} (hr : okCr x n = r) {w : World} {b : Nat} (hc : Cc w b x A n c) (hn : n ≤ 1048576) (hz : x.zs.length = n * 2) (hk : x.nm.size ≤ 9223372036854775806) (h : SI w w.heap.size A x.zs) : Calls Tryd.prog 38 #[.pointer (some ⟨b, 0, none⟩)] w fun e w' => e = .returned (.bool r) ∧ Below w.heap.size w w' := by rw [← hr]; exact okCr04_any x A n c b w hn hz hk hc h
theorem isDir_is {d : Int} {r : Bool} (hr : inI d 0 23 = r) (w : World) : Calls Tryd.prog 24 #[.int .i64 d] w fun e w' => e = .returned (.bool r) ∧ w = w' := by rw [← hr]; exact isDir_any d w
theorem dir02_is {d : Int} {r : Bool} (hr : inI d 0 23 = r) (w : World) : Calls Tryd.prog 39 #[.int .i64 d] w fun e w' => e = .returned (.bool r) ∧ w = w' := by rw [← hr]; exact dir02_any d w
set_option maxHeartbeats 2000000 in
theorem dir04_any (x : Cr) (A : Option Addr) (n c : Nat) (b : Nat) (d : Int) (w : World) (hn : n ≤ 1048576) (hl : x.zs.length = n * 2) (hm : x.nm.size ≤ 9223372036854775806) (h : SI w w.heap.size A x.zs) (hc : Cc w b x A n c) : Calls Tryd.prog 19 #[.pointer (some ⟨b, 0, none⟩), .int .i64 d] w fun e w' => e = .returned (.int .i64 (cdE x n d)) ∧ Below w.heap.size w w' := by
  have HC := Lib.hid hc
  have HS := Lib.hid h
  clear hc h
  obtain ⟨q1, h1⟩ : ∃ q, okCr x n = q := ⟨_, rfl⟩
  obtain ⟨q2, h2⟩ : ∃ q, inI d 0 23 = q := ⟨_, rfl⟩
  have HQ1 := Lib.hid h1
  have HQ2 := Lib.hid h2
  clear h1 h2
  cases q1
  · rw [cdE_n HQ1.out]; go_enter Tryd.func19, Tryd.ntmps19; go_wp2_with (first | (go_at_call 38; (with_reducible refine (okCr04_is HQ1.out HC.out hn hl hm HS.out).mono ?_); rintro e w1 ⟨rfl, hb⟩) | (go_at_call 39; (with_reducible refine (dir02_is HQ2.out _).mono ?_); rintro e w2 ⟨rfl, rfl⟩)); go_returns; exact ⟨rfl, hb⟩
  cases q2
  · rw [cdE_r HQ1.out HQ2.out]; go_enter Tryd.func19, Tryd.ntmps19; go_wp2_with (first | (go_at_call 38; (with_reducible refine (okCr04_is HQ1.out HC.out hn hl hm HS.out).mono ?_); rintro e w1 ⟨rfl, hb⟩) | (go_at_call 39; (with_reducible refine (dir02_is HQ2.out _).mono ?_); rintro e w2 ⟨rfl, rfl⟩)); go_returns; exact ⟨rfl, hb⟩
  · rw [cdE_y HQ1.out HQ2.out]; go_enter Tryd.func19, Tryd.ntmps19; go_wp2_with (first | (go_at_call 38; (with_reducible refine (okCr04_is HQ1.out HC.out hn hl hm HS.out).mono ?_); rintro e w1 ⟨rfl, hb⟩) | (go_at_call 39; (with_reducible refine (dir02_is HQ2.out _).mono ?_); rintro e w2 ⟨rfl, rfl⟩)); go_returns; exact ⟨rfl, hb⟩
set_option maxHeartbeats 8000000 in
set_option maxRecDepth 20000 in
theorem implBoom_any (x : Cr) (A : Option Addr) (n c : Nat) (d : Int) (w : World) (hn : n ≤ 1048576) (hl : x.zs.length = n * 2) (hm : x.nm.size ≤ 9223372036854775806) (h : SI w w.heap.size A x.zs) (hQ : Quar w) : Calls Tryd.prog 8 #[.agg #[.string x.nm, .int .i64 x.px, .int .i64 x.py, .int .i64 x.hg, .int .i64 x.jb, .int .i64 x.bk, .slice A n c], .int .i64 d] w fun e w' => e = .returned (.tuple #[.agg #[.int .i64 (zE (cdE x n d) (kX x d.toNat)), .int .i64 (zE (cdE x n d) (kY x d.toNat)), .int .i64 (zE (cdE x n d) (jX x d.toNat)), .int .i64 (zE (cdE x n d) (jY x d.toNat))], .int .i64 (cdE x n d)]) ∧ Below w.heap.size w w' := by
  obtain ⟨q1, h1⟩ : ∃ q, okCr x n = q := ⟨_, rfl⟩
  obtain ⟨q2, h2⟩ : ∃ q, inI d 0 23 = q := ⟨_, rfl⟩
  have HQ1 := Lib.hid h1
  have HQ2 := Lib.hid h2
  clear h1 h2
  cases q1
  case false =>
    rw [cdE_n HQ1.out]
    have hb : Below (w.alloc (.cells #[.string x.nm, .int .i64 x.px, .int .i64 x.py, .int .i64 x.hg, .int .i64 x.jb, .int .i64 x.bk, .slice A n c] 35)).heap.size (w.alloc (.cells #[.string x.nm, .int .i64 x.px, .int .i64 x.py, .int .i64 x.hg, .int .i64 x.jb, .int .i64 x.bk, .slice A n c] 35)) ((w.alloc (.cells #[.string x.nm, .int .i64 x.px, .int .i64 x.py, .int .i64 x.hg, .int .i64 x.jb, .int .i64 x.bk, .slice A n c] 35)).alloc (.cells #[.int .i64 0, .int .i64 0, .int .i64 0, .int .i64 0] 30)) := gr_alloc (gr_refl _)
    have HC := Lib.hid ((Cc.box w 35 x A n c).late hb)
    have HR := Lib.hid (show BI ((w.alloc (.cells #[.string x.nm, .int .i64 x.px, .int .i64 x.py, .int .i64 x.hg, .int .i64 x.jb, .int .i64 x.bk, .slice A n c] 35)).alloc (.cells #[.int .i64 0, .int .i64 0, .int .i64 0, .int .i64 0] 30)) (w.heap.size + 1) 30 [0, 0, 0, 0] from by have h := heap_alloc_new (w.alloc (.cells #[.string x.nm, .int .i64 x.px, .int .i64 x.py, .int .i64 x.hg, .int .i64 x.jb, .int .i64 x.bk, .slice A n c] 35)) (.cells #[.int .i64 0, .int .i64 0, .int .i64 0, .int .i64 0] 30); simp only [World.size_alloc] at h; exact h)
    clear hb
    have hb : Below w.heap.size w ((w.alloc (.cells #[.string x.nm, .int .i64 x.px, .int .i64 x.py, .int .i64 x.hg, .int .i64 x.jb, .int .i64 x.bk, .slice A n c] 35)).alloc (.cells #[.int .i64 0, .int .i64 0, .int .i64 0, .int .i64 0] 30)) := gr_alloc (gr_alloc (gr_refl _))
    have HB := Lib.hid hb
    have HS := Lib.hid (h.later hb)
    have HQ := Lib.hid (hQ.late hb)
    clear hb h hQ
    have hz : w.heap.size + 1 < ((w.alloc (.cells #[.string x.nm, .int .i64 x.px, .int .i64 x.py, .int .i64 x.hg, .int .i64 x.jb, .int .i64 x.bk, .slice A n c] 35)).alloc (.cells #[.int .i64 0, .int .i64 0, .int .i64 0, .int .i64 0] 30)).heap.size := by simp
    obtain ⟨c0, c1, c2, c3, c4, c5, c6⟩ := HC.out
    have d0 := HR.out.cell 0 (by simp)
    have d1 := HR.out.cell 1 (by simp)
    have d2 := HR.out.cell 2 (by simp)
    have d3 := HR.out.cell 3 (by simp)
    simp only [List.getD_cons_zero, List.getD_cons_succ] at d0 d1 d2 d3
    have m0 := HR.out.free 0
    have m1 := HR.out.free 1
    have m2 := HR.out.free 2
    have m3 := HR.out.free 3
    go_enter Tryd.func8, Tryd.ntmps8
    go_wp2_with fail
    generalize (w.alloc (.cells #[.string x.nm, .int .i64 x.px, .int .i64 x.py, .int .i64 x.hg, .int .i64 x.jb, .int .i64 x.bk, .slice A n c] 35)).alloc (.cells #[.int .i64 0, .int .i64 0, .int .i64 0, .int .i64 0] 30) = v0 at *
    clear c0 c1 c2 c3 c4 c5 c6 d0 m0 d1 m1 d2 m2 d3 m3
    go_at_call 23
    (with_reducible refine (validCr_is HQ1.out hn hl hm HS.out).mono ?_)
    rintro e w1 ⟨rfl, hb⟩
    replace HS := Lib.hid (HS.out.later hb)
    replace HQ := Lib.hid (HQ.out.late hb)
    replace HC := Lib.hid (HC.out.late hb)
    replace HR := Lib.hid (HR.out.late hb)
    replace HB := Lib.hid (gr_then hb HB.out)
    replace hz := Nat.lt_of_lt_of_le hz hb.size
    clear hb
    obtain ⟨c0, c1, c2, c3, c4, c5, c6⟩ := HC.out
    have d0 := HR.out.cell 0 (by simp)
    have d1 := HR.out.cell 1 (by simp)
    have d2 := HR.out.cell 2 (by simp)
    have d3 := HR.out.cell 3 (by simp)
    simp only [List.getD_cons_zero, List.getD_cons_succ] at d0 d1 d2 d3
    have m0 := HR.out.free 0
    have m1 := HR.out.free 1
    have m2 := HR.out.free 2
    have m3 := HR.out.free 3
    go_wp2_with fail
    refine bodyPost_ret (v := .tuple #[.agg #[.int .i64 (0), .int .i64 (0), .int .i64 (0), .int .i64 (0)], .int .i64 1]) (by simp [results, Tryd.results8, go_sem, *]) rfl ⟨rfl, by repeat' (first | with_reducible exact HB.out | (with_reducible refine gr_set (by dsimp only; omega) ?_))⟩
  cases q2
  case false =>
    rw [cdE_r HQ1.out HQ2.out]
    have hb : Below (w.alloc (.cells #[.string x.nm, .int .i64 x.px, .int .i64 x.py, .int .i64 x.hg, .int .i64 x.jb, .int .i64 x.bk, .slice A n c] 35)).heap.size (w.alloc (.cells #[.string x.nm, .int .i64 x.px, .int .i64 x.py, .int .i64 x.hg, .int .i64 x.jb, .int .i64 x.bk, .slice A n c] 35)) ((w.alloc (.cells #[.string x.nm, .int .i64 x.px, .int .i64 x.py, .int .i64 x.hg, .int .i64 x.jb, .int .i64 x.bk, .slice A n c] 35)).alloc (.cells #[.int .i64 0, .int .i64 0, .int .i64 0, .int .i64 0] 30)) := gr_alloc (gr_refl _)
    have HC := Lib.hid ((Cc.box w 35 x A n c).late hb)
    have HR := Lib.hid (show BI ((w.alloc (.cells #[.string x.nm, .int .i64 x.px, .int .i64 x.py, .int .i64 x.hg, .int .i64 x.jb, .int .i64 x.bk, .slice A n c] 35)).alloc (.cells #[.int .i64 0, .int .i64 0, .int .i64 0, .int .i64 0] 30)) (w.heap.size + 1) 30 [0, 0, 0, 0] from by have h := heap_alloc_new (w.alloc (.cells #[.string x.nm, .int .i64 x.px, .int .i64 x.py, .int .i64 x.hg, .int .i64 x.jb, .int .i64 x.bk, .slice A n c] 35)) (.cells #[.int .i64 0, .int .i64 0, .int .i64 0, .int .i64 0] 30); simp only [World.size_alloc] at h; exact h)
    clear hb
    have hb : Below w.heap.size w ((w.alloc (.cells #[.string x.nm, .int .i64 x.px, .int .i64 x.py, .int .i64 x.hg, .int .i64 x.jb, .int .i64 x.bk, .slice A n c] 35)).alloc (.cells #[.int .i64 0, .int .i64 0, .int .i64 0, .int .i64 0] 30)) := gr_alloc (gr_alloc (gr_refl _))
    have HB := Lib.hid hb
    have HS := Lib.hid (h.later hb)
    have HQ := Lib.hid (hQ.late hb)
    clear hb h hQ
    have hz : w.heap.size + 1 < ((w.alloc (.cells #[.string x.nm, .int .i64 x.px, .int .i64 x.py, .int .i64 x.hg, .int .i64 x.jb, .int .i64 x.bk, .slice A n c] 35)).alloc (.cells #[.int .i64 0, .int .i64 0, .int .i64 0, .int .i64 0] 30)).heap.size := by simp
    obtain ⟨c0, c1, c2, c3, c4, c5, c6⟩ := HC.out
    have d0 := HR.out.cell 0 (by simp)
    have d1 := HR.out.cell 1 (by simp)
    have d2 := HR.out.cell 2 (by simp)
    have d3 := HR.out.cell 3 (by simp)
    simp only [List.getD_cons_zero, List.getD_cons_succ] at d0 d1 d2 d3
    have m0 := HR.out.free 0
    have m1 := HR.out.free 1
    have m2 := HR.out.free 2
    have m3 := HR.out.free 3
    go_enter Tryd.func8, Tryd.ntmps8
    go_wp2_with fail
    generalize (w.alloc (.cells #[.string x.nm, .int .i64 x.px, .int .i64 x.py, .int .i64 x.hg, .int .i64 x.jb, .int .i64 x.bk, .slice A n c] 35)).alloc (.cells #[.int .i64 0, .int .i64 0, .int .i64 0, .int .i64 0] 30) = v0 at *
    clear c0 c1 c2 c3 c4 c5 c6 d0 m0 d1 m1 d2 m2 d3 m3
    go_at_call 23
    (with_reducible refine (validCr_is HQ1.out hn hl hm HS.out).mono ?_)
    rintro e w1 ⟨rfl, hb⟩
    replace HS := Lib.hid (HS.out.later hb)
    replace HQ := Lib.hid (HQ.out.late hb)
    replace HC := Lib.hid (HC.out.late hb)
    replace HR := Lib.hid (HR.out.late hb)
    replace HB := Lib.hid (gr_then hb HB.out)
    replace hz := Nat.lt_of_lt_of_le hz hb.size
    clear hb
    obtain ⟨c0, c1, c2, c3, c4, c5, c6⟩ := HC.out
    have d0 := HR.out.cell 0 (by simp)
    have d1 := HR.out.cell 1 (by simp)
    have d2 := HR.out.cell 2 (by simp)
    have d3 := HR.out.cell 3 (by simp)
    simp only [List.getD_cons_zero, List.getD_cons_succ] at d0 d1 d2 d3
    have m0 := HR.out.free 0
    have m1 := HR.out.free 1
    have m2 := HR.out.free 2
    have m3 := HR.out.free 3
    go_wp2_with fail
    clear c0 c1 c2 c3 c4 c5 c6 d0 m0 d1 m1 d2 m2 d3 m3
    go_at_call 24
    (with_reducible refine (isDir_is HQ2.out _).mono ?_)
    rintro e w2 ⟨rfl, rfl⟩
    obtain ⟨c0, c1, c2, c3, c4, c5, c6⟩ := HC.out
    have d0 := HR.out.cell 0 (by simp)
    have d1 := HR.out.cell 1 (by simp)
    have d2 := HR.out.cell 2 (by simp)
    have d3 := HR.out.cell 3 (by simp)
    simp only [List.getD_cons_zero, List.getD_cons_succ] at d0 d1 d2 d3
    have m0 := HR.out.free 0
    have m1 := HR.out.free 1
    have m2 := HR.out.free 2
    have m3 := HR.out.free 3
    go_wp2_with fail
    refine bodyPost_ret (v := .tuple #[.agg #[.int .i64 (0), .int .i64 (0), .int .i64 (0), .int .i64 (0)], .int .i64 2]) (by simp [results, Tryd.results8, go_sem, *]) rfl ⟨rfl, by repeat' (first | with_reducible exact HB.out | (with_reducible refine gr_set (by dsimp only; omega) ?_))⟩
  rw [cdE_y HQ1.out HQ2.out]
  have hb : Below (w.alloc (.cells #[.string x.nm, .int .i64 x.px, .int .i64 x.py, .int .i64 x.hg, .int .i64 x.jb, .int .i64 x.bk, .slice A n c] 35)).heap.size (w.alloc (.cells #[.string x.nm, .int .i64 x.px, .int .i64 x.py, .int .i64 x.hg, .int .i64 x.jb, .int .i64 x.bk, .slice A n c] 35)) ((w.alloc (.cells #[.string x.nm, .int .i64 x.px, .int .i64 x.py, .int .i64 x.hg, .int .i64 x.jb, .int .i64 x.bk, .slice A n c] 35)).alloc (.cells #[.int .i64 0, .int .i64 0, .int .i64 0, .int .i64 0] 30)) := gr_alloc (gr_refl _)
  have HC := Lib.hid ((Cc.box w 35 x A n c).late hb)
  have HR := Lib.hid (show BI ((w.alloc (.cells #[.string x.nm, .int .i64 x.px, .int .i64 x.py, .int .i64 x.hg, .int .i64 x.jb, .int .i64 x.bk, .slice A n c] 35)).alloc (.cells #[.int .i64 0, .int .i64 0, .int .i64 0, .int .i64 0] 30)) (w.heap.size + 1) 30 [0, 0, 0, 0] from by have h := heap_alloc_new (w.alloc (.cells #[.string x.nm, .int .i64 x.px, .int .i64 x.py, .int .i64 x.hg, .int .i64 x.jb, .int .i64 x.bk, .slice A n c] 35)) (.cells #[.int .i64 0, .int .i64 0, .int .i64 0, .int .i64 0] 30); simp only [World.size_alloc] at h; exact h)
  clear hb
  have hb : Below w.heap.size w ((w.alloc (.cells #[.string x.nm, .int .i64 x.px, .int .i64 x.py, .int .i64 x.hg, .int .i64 x.jb, .int .i64 x.bk, .slice A n c] 35)).alloc (.cells #[.int .i64 0, .int .i64 0, .int .i64 0, .int .i64 0] 30)) := gr_alloc (gr_alloc (gr_refl _))
  have HB := Lib.hid hb
  have HS := Lib.hid (h.later hb)
  have HQ := Lib.hid (hQ.late hb)
  clear hb h hQ
  have hz : w.heap.size + 1 < ((w.alloc (.cells #[.string x.nm, .int .i64 x.px, .int .i64 x.py, .int .i64 x.hg, .int .i64 x.jb, .int .i64 x.bk, .slice A n c] 35)).alloc (.cells #[.int .i64 0, .int .i64 0, .int .i64 0, .int .i64 0] 30)).heap.size := by simp
  obtain ⟨c0, c1, c2, c3, c4, c5, c6⟩ := HC.out
  have d0 := HR.out.cell 0 (by simp)
  have d1 := HR.out.cell 1 (by simp)
  have d2 := HR.out.cell 2 (by simp)
  have d3 := HR.out.cell 3 (by simp)
  simp only [List.getD_cons_zero, List.getD_cons_succ] at d0 d1 d2 d3
  have m0 := HR.out.free 0
  have m1 := HR.out.free 1
  have m2 := HR.out.free 2
  have m3 := HR.out.free 3
  go_enter Tryd.func8, Tryd.ntmps8
  go_wp2_with fail
  generalize (w.alloc (.cells #[.string x.nm, .int .i64 x.px, .int .i64 x.py, .int .i64 x.hg, .int .i64 x.jb, .int .i64 x.bk, .slice A n c] 35)).alloc (.cells #[.int .i64 0, .int .i64 0, .int .i64 0, .int .i64 0] 30) = v0 at *
  clear c0 c1 c2 c3 c4 c5 c6 d0 m0 d1 m1 d2 m2 d3 m3
  go_at_call 23
  (with_reducible refine (validCr_is HQ1.out hn hl hm HS.out).mono ?_)
  rintro e w1 ⟨rfl, hb⟩
  replace HS := Lib.hid (HS.out.later hb)
  replace HQ := Lib.hid (HQ.out.late hb)
  replace HC := Lib.hid (HC.out.late hb)
  replace HR := Lib.hid (HR.out.late hb)
  replace HB := Lib.hid (gr_then hb HB.out)
  replace hz := Nat.lt_of_lt_of_le hz hb.size
  clear hb
  obtain ⟨c0, c1, c2, c3, c4, c5, c6⟩ := HC.out
  have d0 := HR.out.cell 0 (by simp)
  have d1 := HR.out.cell 1 (by simp)
  have d2 := HR.out.cell 2 (by simp)
  have d3 := HR.out.cell 3 (by simp)
  simp only [List.getD_cons_zero, List.getD_cons_succ] at d0 d1 d2 d3
  have m0 := HR.out.free 0
  have m1 := HR.out.free 1
  have m2 := HR.out.free 2
  have m3 := HR.out.free 3
  go_wp2_with fail
  clear c0 c1 c2 c3 c4 c5 c6 d0 m0 d1 m1 d2 m2 d3 m3
  go_at_call 24
  (with_reducible refine (isDir_is HQ2.out _).mono ?_)
  rintro e w2 ⟨rfl, rfl⟩
  obtain ⟨k, rfl⟩ : ∃ k : Nat, d = (k : Int) := ⟨d.toNat, by have h9 := inI_t HQ2.out; omega⟩
  have hk : k ≤ 23 := by have h9 := inI_t HQ2.out; omega
  have HNR := Lib.hid (near_of HQ1.out)
  obtain ⟨c0, c1, c2, c3, c4, c5, c6⟩ := HC.out
  have d0 := HR.out.cell 0 (by simp)
  have d1 := HR.out.cell 1 (by simp)
  have d2 := HR.out.cell 2 (by simp)
  have d3 := HR.out.cell 3 (by simp)
  simp only [List.getD_cons_zero, List.getD_cons_succ] at d0 d1 d2 d3
  have m0 := HR.out.free 0
  have m1 := HR.out.free 1
  have m2 := HR.out.free 2
  have m3 := HR.out.free 3
  go_wp2_with fail
  clear c0 c1 c2 c3 c4 c5 c6 d0 m0 d1 m1 d2 m2 d3 m3
  go_at_call 25
  (with_reducible refine (boom_any x A n c k _ hk HNR.out HQ.out).mono ?_)
  rintro e w3 ⟨rfl, hb⟩
  replace HS := Lib.hid (HS.out.later hb)
  replace HQ := Lib.hid (HQ.out.late hb)
  replace HC := Lib.hid (HC.out.late hb)
  replace HR := Lib.hid (HR.out.late hb)
  replace HB := Lib.hid (gr_then hb HB.out)
  replace hz := Nat.lt_of_lt_of_le hz hb.size
  clear hb
  obtain ⟨c0, c1, c2, c3, c4, c5, c6⟩ := HC.out
  have d0 := HR.out.cell 0 (by simp)
  have d1 := HR.out.cell 1 (by simp)
  have d2 := HR.out.cell 2 (by simp)
  have d3 := HR.out.cell 3 (by simp)
  simp only [List.getD_cons_zero, List.getD_cons_succ] at d0 d1 d2 d3
  have m0 := HR.out.free 0
  have m1 := HR.out.free 1
  have m2 := HR.out.free 2
  have m3 := HR.out.free 3
  go_wp2_with fail
  refine bodyPost_ret (v := .tuple #[.agg #[.int .i64 (kX x k), .int .i64 (kY x k), .int .i64 (jX x k), .int .i64 (jY x k)], .int .i64 0]) (by simp [results, Tryd.results8, go_sem, *]) rfl ⟨rfl, by repeat' (first | with_reducible exact HB.out | (with_reducible refine gr_set (by dsimp only; omega) ?_))⟩
set_option maxHeartbeats 8000000 in
set_option maxRecDepth 20000 in
theorem specBoom_any (x : Cr) (A : Option Addr) (n c : Nat) (d : Int) (w : World) (hn : n ≤ 1048576) (hl : x.zs.length = n * 2) (hm : x.nm.size ≤ 9223372036854775806) (h : SI w w.heap.size A x.zs) : Calls Tryd.prog 6 #[.agg #[.string x.nm, .int .i64 x.px, .int .i64 x.py, .int .i64 x.hg, .int .i64 x.jb, .int .i64 x.bk, .slice A n c], .int .i64 d] w fun e w' => e = .returned (.tuple #[.agg #[.int .i64 (zE (cdE x n d) (kX x d.toNat)), .int .i64 (zE (cdE x n d) (kY x d.toNat)), .int .i64 (zE (cdE x n d) (jX x d.toNat)), .int .i64 (zE (cdE x n d) (jY x d.toNat))], .int .i64 (cdE x n d)]) ∧ Below w.heap.size w w' := by
  obtain ⟨q1, h1⟩ : ∃ q, okCr x n = q := ⟨_, rfl⟩
  obtain ⟨q2, h2⟩ : ∃ q, inI d 0 23 = q := ⟨_, rfl⟩
  have HQ1 := Lib.hid h1
  have HQ2 := Lib.hid h2
  clear h1 h2
  cases q1
  case false =>
    rw [cdE_n HQ1.out]
    have hb : Below (w.alloc (.cells #[.string x.nm, .int .i64 x.px, .int .i64 x.py, .int .i64 x.hg, .int .i64 x.jb, .int .i64 x.bk, .slice A n c] 35)).heap.size (w.alloc (.cells #[.string x.nm, .int .i64 x.px, .int .i64 x.py, .int .i64 x.hg, .int .i64 x.jb, .int .i64 x.bk, .slice A n c] 35)) ((w.alloc (.cells #[.string x.nm, .int .i64 x.px, .int .i64 x.py, .int .i64 x.hg, .int .i64 x.jb, .int .i64 x.bk, .slice A n c] 35)).alloc (.cells #[.int .i64 0, .int .i64 0, .int .i64 0, .int .i64 0] 30)) := gr_alloc (gr_refl _)
    have HC := Lib.hid ((Cc.box w 35 x A n c).late hb)
    have HR := Lib.hid (show BI ((w.alloc (.cells #[.string x.nm, .int .i64 x.px, .int .i64 x.py, .int .i64 x.hg, .int .i64 x.jb, .int .i64 x.bk, .slice A n c] 35)).alloc (.cells #[.int .i64 0, .int .i64 0, .int .i64 0, .int .i64 0] 30)) (w.heap.size + 1) 30 [0, 0, 0, 0] from by have h := heap_alloc_new (w.alloc (.cells #[.string x.nm, .int .i64 x.px, .int .i64 x.py, .int .i64 x.hg, .int .i64 x.jb, .int .i64 x.bk, .slice A n c] 35)) (.cells #[.int .i64 0, .int .i64 0, .int .i64 0, .int .i64 0] 30); simp only [World.size_alloc] at h; exact h)
    clear hb
    have hb : Below w.heap.size w ((w.alloc (.cells #[.string x.nm, .int .i64 x.px, .int .i64 x.py, .int .i64 x.hg, .int .i64 x.jb, .int .i64 x.bk, .slice A n c] 35)).alloc (.cells #[.int .i64 0, .int .i64 0, .int .i64 0, .int .i64 0] 30)) := gr_alloc (gr_alloc (gr_refl _))
    have HB := Lib.hid hb
    have HS := Lib.hid (h.later hb)
    clear hb h
    have hz : w.heap.size + 1 < ((w.alloc (.cells #[.string x.nm, .int .i64 x.px, .int .i64 x.py, .int .i64 x.hg, .int .i64 x.jb, .int .i64 x.bk, .slice A n c] 35)).alloc (.cells #[.int .i64 0, .int .i64 0, .int .i64 0, .int .i64 0] 30)).heap.size := by simp
    obtain ⟨c0, c1, c2, c3, c4, c5, c6⟩ := HC.out
    have d0 := HR.out.cell 0 (by simp)
    have d1 := HR.out.cell 1 (by simp)
    have d2 := HR.out.cell 2 (by simp)
    have d3 := HR.out.cell 3 (by simp)
    simp only [List.getD_cons_zero, List.getD_cons_succ] at d0 d1 d2 d3
    have m0 := HR.out.free 0
    have m1 := HR.out.free 1
    have m2 := HR.out.free 2
    have m3 := HR.out.free 3
    go_enter Tryd.func6, Tryd.ntmps6
    go_wp2_with fail
    generalize (w.alloc (.cells #[.string x.nm, .int .i64 x.px, .int .i64 x.py, .int .i64 x.hg, .int .i64 x.jb, .int .i64 x.bk, .slice A n c] 35)).alloc (.cells #[.int .i64 0, .int .i64 0, .int .i64 0, .int .i64 0] 30) = v0 at *
    clear c0 c1 c2 c3 c4 c5 c6 d0 m0 d1 m1 d2 m2 d3 m3
    go_at_call 19
    (with_reducible refine (dir04_any x A n c (w.heap.size) d _ hn hl hm HS.out HC.out).mono ?_)
    rw [cdE_n HQ1.out]
    rintro e w1 ⟨rfl, hb⟩
    replace HS := Lib.hid (HS.out.later hb)
    replace HC := Lib.hid (HC.out.late hb)
    replace HR := Lib.hid (HR.out.late hb)
    replace HB := Lib.hid (gr_then hb HB.out)
    replace hz := Nat.lt_of_lt_of_le hz hb.size
    clear hb
    obtain ⟨c0, c1, c2, c3, c4, c5, c6⟩ := HC.out
    have d0 := HR.out.cell 0 (by simp)
    have d1 := HR.out.cell 1 (by simp)
    have d2 := HR.out.cell 2 (by simp)
    have d3 := HR.out.cell 3 (by simp)
    simp only [List.getD_cons_zero, List.getD_cons_succ] at d0 d1 d2 d3
    have m0 := HR.out.free 0
    have m1 := HR.out.free 1
    have m2 := HR.out.free 2
    have m3 := HR.out.free 3
    go_wp2_with fail
    refine bodyPost_ret (v := .tuple #[.agg #[.int .i64 (0), .int .i64 (0), .int .i64 (0), .int .i64 (0)], .int .i64 1]) (by simp [results, Tryd.results6, go_sem, *]) rfl ⟨rfl, by repeat' (first | with_reducible exact HB.out | (with_reducible refine gr_set (by dsimp only; omega) ?_))⟩
  cases q2
  case false =>
    rw [cdE_r HQ1.out HQ2.out]
    have hb : Below (w.alloc (.cells #[.string x.nm, .int .i64 x.px, .int .i64 x.py, .int .i64 x.hg, .int .i64 x.jb, .int .i64 x.bk, .slice A n c] 35)).heap.size (w.alloc (.cells #[.string x.nm, .int .i64 x.px, .int .i64 x.py, .int .i64 x.hg, .int .i64 x.jb, .int .i64 x.bk, .slice A n c] 35)) ((w.alloc (.cells #[.string x.nm, .int .i64 x.px, .int .i64 x.py, .int .i64 x.hg, .int .i64 x.jb, .int .i64 x.bk, .slice A n c] 35)).alloc (.cells #[.int .i64 0, .int .i64 0, .int .i64 0, .int .i64 0] 30)) := gr_alloc (gr_refl _)
    have HC := Lib.hid ((Cc.box w 35 x A n c).late hb)
    have HR := Lib.hid (show BI ((w.alloc (.cells #[.string x.nm, .int .i64 x.px, .int .i64 x.py, .int .i64 x.hg, .int .i64 x.jb, .int .i64 x.bk, .slice A n c] 35)).alloc (.cells #[.int .i64 0, .int .i64 0, .int .i64 0, .int .i64 0] 30)) (w.heap.size + 1) 30 [0, 0, 0, 0] from by have h := heap_alloc_new (w.alloc (.cells #[.string x.nm, .int .i64 x.px, .int .i64 x.py, .int .i64 x.hg, .int .i64 x.jb, .int .i64 x.bk, .slice A n c] 35)) (.cells #[.int .i64 0, .int .i64 0, .int .i64 0, .int .i64 0] 30); simp only [World.size_alloc] at h; exact h)
    clear hb
    have hb : Below w.heap.size w ((w.alloc (.cells #[.string x.nm, .int .i64 x.px, .int .i64 x.py, .int .i64 x.hg, .int .i64 x.jb, .int .i64 x.bk, .slice A n c] 35)).alloc (.cells #[.int .i64 0, .int .i64 0, .int .i64 0, .int .i64 0] 30)) := gr_alloc (gr_alloc (gr_refl _))
    have HB := Lib.hid hb
    have HS := Lib.hid (h.later hb)
    clear hb h
    have hz : w.heap.size + 1 < ((w.alloc (.cells #[.string x.nm, .int .i64 x.px, .int .i64 x.py, .int .i64 x.hg, .int .i64 x.jb, .int .i64 x.bk, .slice A n c] 35)).alloc (.cells #[.int .i64 0, .int .i64 0, .int .i64 0, .int .i64 0] 30)).heap.size := by simp
    obtain ⟨c0, c1, c2, c3, c4, c5, c6⟩ := HC.out
    have d0 := HR.out.cell 0 (by simp)
    have d1 := HR.out.cell 1 (by simp)
    have d2 := HR.out.cell 2 (by simp)
    have d3 := HR.out.cell 3 (by simp)
    simp only [List.getD_cons_zero, List.getD_cons_succ] at d0 d1 d2 d3
    have m0 := HR.out.free 0
    have m1 := HR.out.free 1
    have m2 := HR.out.free 2
    have m3 := HR.out.free 3
    go_enter Tryd.func6, Tryd.ntmps6
    go_wp2_with fail
    generalize (w.alloc (.cells #[.string x.nm, .int .i64 x.px, .int .i64 x.py, .int .i64 x.hg, .int .i64 x.jb, .int .i64 x.bk, .slice A n c] 35)).alloc (.cells #[.int .i64 0, .int .i64 0, .int .i64 0, .int .i64 0] 30) = v0 at *
    clear c0 c1 c2 c3 c4 c5 c6 d0 m0 d1 m1 d2 m2 d3 m3
    go_at_call 19
    (with_reducible refine (dir04_any x A n c (w.heap.size) d _ hn hl hm HS.out HC.out).mono ?_)
    rw [cdE_r HQ1.out HQ2.out]
    rintro e w1 ⟨rfl, hb⟩
    replace HS := Lib.hid (HS.out.later hb)
    replace HC := Lib.hid (HC.out.late hb)
    replace HR := Lib.hid (HR.out.late hb)
    replace HB := Lib.hid (gr_then hb HB.out)
    replace hz := Nat.lt_of_lt_of_le hz hb.size
    clear hb
    obtain ⟨c0, c1, c2, c3, c4, c5, c6⟩ := HC.out
    have d0 := HR.out.cell 0 (by simp)
    have d1 := HR.out.cell 1 (by simp)
    have d2 := HR.out.cell 2 (by simp)
    have d3 := HR.out.cell 3 (by simp)
    simp only [List.getD_cons_zero, List.getD_cons_succ] at d0 d1 d2 d3
    have m0 := HR.out.free 0
    have m1 := HR.out.free 1
    have m2 := HR.out.free 2
    have m3 := HR.out.free 3
    go_wp2_with fail
    refine bodyPost_ret (v := .tuple #[.agg #[.int .i64 (0), .int .i64 (0), .int .i64 (0), .int .i64 (0)], .int .i64 2]) (by simp [results, Tryd.results6, go_sem, *]) rfl ⟨rfl, by repeat' (first | with_reducible exact HB.out | (with_reducible refine gr_set (by dsimp only; omega) ?_))⟩
  rw [cdE_y HQ1.out HQ2.out]
  have hb : Below (w.alloc (.cells #[.string x.nm, .int .i64 x.px, .int .i64 x.py, .int .i64 x.hg, .int .i64 x.jb, .int .i64 x.bk, .slice A n c] 35)).heap.size (w.alloc (.cells #[.string x.nm, .int .i64 x.px, .int .i64 x.py, .int .i64 x.hg, .int .i64 x.jb, .int .i64 x.bk, .slice A n c] 35)) ((w.alloc (.cells #[.string x.nm, .int .i64 x.px, .int .i64 x.py, .int .i64 x.hg, .int .i64 x.jb, .int .i64 x.bk, .slice A n c] 35)).alloc (.cells #[.int .i64 0, .int .i64 0, .int .i64 0, .int .i64 0] 30)) := gr_alloc (gr_refl _)
  have HC := Lib.hid ((Cc.box w 35 x A n c).late hb)
  have HR := Lib.hid (show BI ((w.alloc (.cells #[.string x.nm, .int .i64 x.px, .int .i64 x.py, .int .i64 x.hg, .int .i64 x.jb, .int .i64 x.bk, .slice A n c] 35)).alloc (.cells #[.int .i64 0, .int .i64 0, .int .i64 0, .int .i64 0] 30)) (w.heap.size + 1) 30 [0, 0, 0, 0] from by have h := heap_alloc_new (w.alloc (.cells #[.string x.nm, .int .i64 x.px, .int .i64 x.py, .int .i64 x.hg, .int .i64 x.jb, .int .i64 x.bk, .slice A n c] 35)) (.cells #[.int .i64 0, .int .i64 0, .int .i64 0, .int .i64 0] 30); simp only [World.size_alloc] at h; exact h)
  clear hb
  have hb : Below w.heap.size w ((w.alloc (.cells #[.string x.nm, .int .i64 x.px, .int .i64 x.py, .int .i64 x.hg, .int .i64 x.jb, .int .i64 x.bk, .slice A n c] 35)).alloc (.cells #[.int .i64 0, .int .i64 0, .int .i64 0, .int .i64 0] 30)) := gr_alloc (gr_alloc (gr_refl _))
  have HB := Lib.hid hb
  have HS := Lib.hid (h.later hb)
  clear hb h
  have hz : w.heap.size + 1 < ((w.alloc (.cells #[.string x.nm, .int .i64 x.px, .int .i64 x.py, .int .i64 x.hg, .int .i64 x.jb, .int .i64 x.bk, .slice A n c] 35)).alloc (.cells #[.int .i64 0, .int .i64 0, .int .i64 0, .int .i64 0] 30)).heap.size := by simp
  obtain ⟨c0, c1, c2, c3, c4, c5, c6⟩ := HC.out
  have d0 := HR.out.cell 0 (by simp)
  have d1 := HR.out.cell 1 (by simp)
  have d2 := HR.out.cell 2 (by simp)
  have d3 := HR.out.cell 3 (by simp)
  simp only [List.getD_cons_zero, List.getD_cons_succ] at d0 d1 d2 d3
  have m0 := HR.out.free 0
  have m1 := HR.out.free 1
  have m2 := HR.out.free 2
  have m3 := HR.out.free 3
  go_enter Tryd.func6, Tryd.ntmps6
  go_wp2_with fail
  generalize (w.alloc (.cells #[.string x.nm, .int .i64 x.px, .int .i64 x.py, .int .i64 x.hg, .int .i64 x.jb, .int .i64 x.bk, .slice A n c] 35)).alloc (.cells #[.int .i64 0, .int .i64 0, .int .i64 0, .int .i64 0] 30) = v0 at *
  clear c0 c1 c2 c3 c4 c5 c6 d0 m0 d1 m1 d2 m2 d3 m3
  go_at_call 19
  (with_reducible refine (dir04_any x A n c (w.heap.size) d _ hn hl hm HS.out HC.out).mono ?_)
  rw [cdE_y HQ1.out HQ2.out]
  rintro e w1 ⟨rfl, hb⟩
  replace HS := Lib.hid (HS.out.later hb)
  replace HC := Lib.hid (HC.out.late hb)
  replace HR := Lib.hid (HR.out.late hb)
  replace HB := Lib.hid (gr_then hb HB.out)
  replace hz := Nat.lt_of_lt_of_le hz hb.size
  clear hb
  obtain ⟨k, rfl⟩ : ∃ k : Nat, d = (k : Int) := ⟨d.toNat, by have h9 := inI_t HQ2.out; omega⟩
  have hk : k ≤ 23 := by have h9 := inI_t HQ2.out; omega
  have HNR := Lib.hid (near_of HQ1.out)
  obtain ⟨c0, c1, c2, c3, c4, c5, c6⟩ := HC.out
  have d0 := HR.out.cell 0 (by simp)
  have d1 := HR.out.cell 1 (by simp)
  have d2 := HR.out.cell 2 (by simp)
  have d3 := HR.out.cell 3 (by simp)
  simp only [List.getD_cons_zero, List.getD_cons_succ] at d0 d1 d2 d3
  have m0 := HR.out.free 0
  have m1 := HR.out.free 1
  have m2 := HR.out.free 2
  have m3 := HR.out.free 3
  go_wp2_with fail
  clear c0 c1 c2 c3 c4 c5 c6 d0 m0 d1 m1 d2 m2 d3 m3
  go_at_call 20
  (with_reducible refine (boom15_any x A n c k w.heap.size _ hk HNR.out HC.out).mono ?_)
  rintro e w3 ⟨rfl, hb⟩
  replace HS := Lib.hid (HS.out.later hb)
  replace HC := Lib.hid (HC.out.late hb)
  replace HR := Lib.hid (HR.out.late hb)
  replace HB := Lib.hid (gr_then hb HB.out)
  replace hz := Nat.lt_of_lt_of_le hz hb.size
  clear hb
  obtain ⟨c0, c1, c2, c3, c4, c5, c6⟩ := HC.out
  have d0 := HR.out.cell 0 (by simp)
  have d1 := HR.out.cell 1 (by simp)
  have d2 := HR.out.cell 2 (by simp)
  have d3 := HR.out.cell 3 (by simp)
  simp only [List.getD_cons_zero, List.getD_cons_succ] at d0 d1 d2 d3
  have m0 := HR.out.free 0
  have m1 := HR.out.free 1
  have m2 := HR.out.free 2
  have m3 := HR.out.free 3
  go_wp2_with fail
  refine bodyPost_ret (v := .tuple #[.agg #[.int .i64 (kX x k), .int .i64 (kY x k), .int .i64 (jX x k), .int .i64 (jY x k)], .int .i64 0]) (by simp [results, Tryd.results6, go_sem, *]) rfl ⟨rfl, by repeat' (first | with_reducible exact HB.out | (with_reducible refine gr_set (by dsimp only; omega) ?_))⟩
end Go.Proofs.YtbdhmadgflmhmaaDoor
