/- The walk of the law FnExactMoveTime: whatever crane, speeds and places came in, it returns true. No condition but that the table of vectors holds what the text lays. -/
import Derived.Test.YtoglmeiffidcbaaDoorCrL
import Derived.Test.YtoglmeiffidcbaaDoorMt
import Derived.BigQuiet
namespace Go.Proofs.YtoglmeiffidcbaaDoor.fnExactMoveTime
open Go.RowKit Go.Deep
theorem szC_t {a n : Nat} (h : ¬ szC 1048576 a n < 0) : n ≤ 1048576 ∧ a ≤ 1048576 := by
  unfold szC at h
  by_cases h1 : (1048576 : Int) < a
  · rw [if_pos h1] at h; omega
  · rw [if_neg h1] at h; by_cases h2 : (1048576 : Int) - a < n
    · rw [if_pos h2] at h; omega
    · omega
theorem implMv_is (x : Cr) (A : Option Addr) (n c : Nat) (s t o g a b d e : Int) (w : World) (hn : n ≤ 1048576) (hz : x.zs.length = n * 2) (hk : x.nm.size ≤ 9223372036854775806) (h : SI w w.heap.size A x.zs) (hT : Quar w) {V C : Int} (hV : tV (mvOk x n s t o g a b d e) (mvI s t (a - x.px) (b - x.py) (d - x.px) (e - x.py)) = V) (hC : tC (mvOk x n s t o g a b d e) = C) : Calls Tryd.prog 13 #[.agg #[.string x.nm, .int .i64 x.px, .int .i64 x.py, .int .i64 x.hg, .int .i64 x.jb, .int .i64 x.bk, .slice A n c], .agg #[.int .i64 s, .int .i64 t, .int .i64 o, .int .i64 g], .agg #[.int .i64 a, .int .i64 b], .agg #[.int .i64 d, .int .i64 e]] w fun r w' => r = .returned (.tuple #[.int .i64 V, .int .i64 C]) ∧ Below w.heap.size w w' := by rw [← hV, ← hC]; exact implMv_any x A n c s t o g a b d e w hn hz hk h hT
theorem specMv_is (x : Cr) (A : Option Addr) (n c : Nat) (s t o g a b d e : Int) (w : World) (hn : n ≤ 1048576) (hz : x.zs.length = n * 2) (hk : x.nm.size ≤ 9223372036854775806) (h : SI w w.heap.size A x.zs) {V C : Int} (hV : tV (mvOk x n s t o g a b d e) (mvI s t (a - x.px) (b - x.py) (d - x.px) (e - x.py)) = V) (hC : tC (mvOk x n s t o g a b d e) = C) : Calls Tryd.prog 9 #[.agg #[.string x.nm, .int .i64 x.px, .int .i64 x.py, .int .i64 x.hg, .int .i64 x.jb, .int .i64 x.bk, .slice A n c], .agg #[.int .i64 s, .int .i64 t, .int .i64 o, .int .i64 g], .agg #[.int .i64 a, .int .i64 b], .agg #[.int .i64 d, .int .i64 e]] w fun r w' => r = .returned (.tuple #[.int .i64 V, .int .i64 C]) ∧ Below w.heap.size w w' := by rw [← hV, ← hC]; exact specMv_any x A n c s t o g a b d e w hn hz hk h
set_option maxHeartbeats 32000000 in
set_option maxRecDepth 20000 in
theorem walk (x : Cr) (A : Option Addr) (n c : Nat) (s t o g : Int) (a b : Int) (d e : Int) (w : World) (hx : x.ok) (hn : n ≤ 9223372036854775807) (hz : x.zs.length = n * 2) (h : SI w w.heap.size A x.zs) (_ : -9223372036854775808 ≤ s ∧ s ≤ 9223372036854775807) (_ : -9223372036854775808 ≤ t ∧ t ≤ 9223372036854775807) (_ : -9223372036854775808 ≤ o ∧ o ≤ 9223372036854775807) (_ : -9223372036854775808 ≤ g ∧ g ≤ 9223372036854775807) (_ : -9223372036854775808 ≤ a ∧ a ≤ 9223372036854775807) (_ : -9223372036854775808 ≤ b ∧ b ≤ 9223372036854775807) (_ : -9223372036854775808 ≤ d ∧ d ≤ 9223372036854775807) (_ : -9223372036854775808 ≤ e ∧ e ≤ 9223372036854775807) (hQ : Quar w) :
    Calls Tryd.prog 4 #[.agg #[.string x.nm, .int .i64 x.px, .int .i64 x.py, .int .i64 x.hg, .int .i64 x.jb, .int .i64 x.bk, .slice A n c], .agg #[.int .i64 s, .int .i64 t, .int .i64 o, .int .i64 g], .agg #[.int .i64 a, .int .i64 b], .agg #[.int .i64 d, .int .i64 e]] w fun e w' => e = .returned (.bool true) ∧ Below w.heap.size w w' := by
  obtain ⟨hnm, _⟩ := hx
  have hm8 : x.nm.size ≤ 9223372036854775807 := by unfold maxLen at hnm; omega
  obtain ⟨V, hV⟩ : ∃ q, tV (mvOk x n s t o g a b d e) (mvI s t (a - x.px) (b - x.py) (d - x.px) (e - x.py)) = q := ⟨_, rfl⟩
  obtain ⟨C, hC⟩ : ∃ q, tC (mvOk x n s t o g a b d e) = q := ⟨_, rfl⟩
  have HV := Lib.hid hV
  have HC := Lib.hid hC
  clear hV hC
  have HL := Lib.hid ((Cc.box w 29 x A n c).late (show Below (w.alloc (.cells #[.string x.nm, .int .i64 x.px, .int .i64 x.py, .int .i64 x.hg, .int .i64 x.jb, .int .i64 x.bk, .slice A n c] 29)).heap.size (w.alloc (.cells #[.string x.nm, .int .i64 x.px, .int .i64 x.py, .int .i64 x.hg, .int .i64 x.jb, .int .i64 x.bk, .slice A n c] 29)) ((((w.alloc (.cells #[.string x.nm, .int .i64 x.px, .int .i64 x.py, .int .i64 x.hg, .int .i64 x.jb, .int .i64 x.bk, .slice A n c] 29)).alloc (.cells #[.int .i64 s, .int .i64 t, .int .i64 o, .int .i64 g] 31)).alloc (.cells #[.int .i64 a, .int .i64 b] 26)).alloc (.cells #[.int .i64 d, .int .i64 e] 26)) from gr_alloc (gr_alloc (gr_alloc (gr_refl _)))))
  have BV := Lib.hid (BI.late (show BI ((w.alloc (.cells #[.string x.nm, .int .i64 x.px, .int .i64 x.py, .int .i64 x.hg, .int .i64 x.jb, .int .i64 x.bk, .slice A n c] 29)).alloc (.cells #[.int .i64 s, .int .i64 t, .int .i64 o, .int .i64 g] 31)) (w.heap.size + 1) 31 [s, t, o, g] from by have h := heap_alloc_new (w.alloc (.cells #[.string x.nm, .int .i64 x.px, .int .i64 x.py, .int .i64 x.hg, .int .i64 x.jb, .int .i64 x.bk, .slice A n c] 29)) (.cells #[.int .i64 s, .int .i64 t, .int .i64 o, .int .i64 g] 31); simp only [World.size_alloc] at h; exact h) (show Below ((w.alloc (.cells #[.string x.nm, .int .i64 x.px, .int .i64 x.py, .int .i64 x.hg, .int .i64 x.jb, .int .i64 x.bk, .slice A n c] 29)).alloc (.cells #[.int .i64 s, .int .i64 t, .int .i64 o, .int .i64 g] 31)).heap.size ((w.alloc (.cells #[.string x.nm, .int .i64 x.px, .int .i64 x.py, .int .i64 x.hg, .int .i64 x.jb, .int .i64 x.bk, .slice A n c] 29)).alloc (.cells #[.int .i64 s, .int .i64 t, .int .i64 o, .int .i64 g] 31)) ((((w.alloc (.cells #[.string x.nm, .int .i64 x.px, .int .i64 x.py, .int .i64 x.hg, .int .i64 x.jb, .int .i64 x.bk, .slice A n c] 29)).alloc (.cells #[.int .i64 s, .int .i64 t, .int .i64 o, .int .i64 g] 31)).alloc (.cells #[.int .i64 a, .int .i64 b] 26)).alloc (.cells #[.int .i64 d, .int .i64 e] 26)) from gr_alloc (gr_alloc (gr_refl _))))
  have BP := Lib.hid (BI.late (show BI (((w.alloc (.cells #[.string x.nm, .int .i64 x.px, .int .i64 x.py, .int .i64 x.hg, .int .i64 x.jb, .int .i64 x.bk, .slice A n c] 29)).alloc (.cells #[.int .i64 s, .int .i64 t, .int .i64 o, .int .i64 g] 31)).alloc (.cells #[.int .i64 a, .int .i64 b] 26)) (w.heap.size + 1 + 1) 26 [a, b] from by have h := heap_alloc_new ((w.alloc (.cells #[.string x.nm, .int .i64 x.px, .int .i64 x.py, .int .i64 x.hg, .int .i64 x.jb, .int .i64 x.bk, .slice A n c] 29)).alloc (.cells #[.int .i64 s, .int .i64 t, .int .i64 o, .int .i64 g] 31)) (.cells #[.int .i64 a, .int .i64 b] 26); simp only [World.size_alloc] at h; exact h) (show Below (((w.alloc (.cells #[.string x.nm, .int .i64 x.px, .int .i64 x.py, .int .i64 x.hg, .int .i64 x.jb, .int .i64 x.bk, .slice A n c] 29)).alloc (.cells #[.int .i64 s, .int .i64 t, .int .i64 o, .int .i64 g] 31)).alloc (.cells #[.int .i64 a, .int .i64 b] 26)).heap.size (((w.alloc (.cells #[.string x.nm, .int .i64 x.px, .int .i64 x.py, .int .i64 x.hg, .int .i64 x.jb, .int .i64 x.bk, .slice A n c] 29)).alloc (.cells #[.int .i64 s, .int .i64 t, .int .i64 o, .int .i64 g] 31)).alloc (.cells #[.int .i64 a, .int .i64 b] 26)) ((((w.alloc (.cells #[.string x.nm, .int .i64 x.px, .int .i64 x.py, .int .i64 x.hg, .int .i64 x.jb, .int .i64 x.bk, .slice A n c] 29)).alloc (.cells #[.int .i64 s, .int .i64 t, .int .i64 o, .int .i64 g] 31)).alloc (.cells #[.int .i64 a, .int .i64 b] 26)).alloc (.cells #[.int .i64 d, .int .i64 e] 26)) from gr_alloc (gr_refl _)))
  have BQ := Lib.hid (BI.late (show BI ((((w.alloc (.cells #[.string x.nm, .int .i64 x.px, .int .i64 x.py, .int .i64 x.hg, .int .i64 x.jb, .int .i64 x.bk, .slice A n c] 29)).alloc (.cells #[.int .i64 s, .int .i64 t, .int .i64 o, .int .i64 g] 31)).alloc (.cells #[.int .i64 a, .int .i64 b] 26)).alloc (.cells #[.int .i64 d, .int .i64 e] 26)) (w.heap.size + 1 + 1 + 1) 26 [d, e] from by have h := heap_alloc_new (((w.alloc (.cells #[.string x.nm, .int .i64 x.px, .int .i64 x.py, .int .i64 x.hg, .int .i64 x.jb, .int .i64 x.bk, .slice A n c] 29)).alloc (.cells #[.int .i64 s, .int .i64 t, .int .i64 o, .int .i64 g] 31)).alloc (.cells #[.int .i64 a, .int .i64 b] 26)) (.cells #[.int .i64 d, .int .i64 e] 26); simp only [World.size_alloc] at h; exact h) (show Below ((((w.alloc (.cells #[.string x.nm, .int .i64 x.px, .int .i64 x.py, .int .i64 x.hg, .int .i64 x.jb, .int .i64 x.bk, .slice A n c] 29)).alloc (.cells #[.int .i64 s, .int .i64 t, .int .i64 o, .int .i64 g] 31)).alloc (.cells #[.int .i64 a, .int .i64 b] 26)).alloc (.cells #[.int .i64 d, .int .i64 e] 26)).heap.size ((((w.alloc (.cells #[.string x.nm, .int .i64 x.px, .int .i64 x.py, .int .i64 x.hg, .int .i64 x.jb, .int .i64 x.bk, .slice A n c] 29)).alloc (.cells #[.int .i64 s, .int .i64 t, .int .i64 o, .int .i64 g] 31)).alloc (.cells #[.int .i64 a, .int .i64 b] 26)).alloc (.cells #[.int .i64 d, .int .i64 e] 26)) ((((w.alloc (.cells #[.string x.nm, .int .i64 x.px, .int .i64 x.py, .int .i64 x.hg, .int .i64 x.jb, .int .i64 x.bk, .slice A n c] 29)).alloc (.cells #[.int .i64 s, .int .i64 t, .int .i64 o, .int .i64 g] 31)).alloc (.cells #[.int .i64 a, .int .i64 b] 26)).alloc (.cells #[.int .i64 d, .int .i64 e] 26)) from gr_refl _))
  have hb : Below w.heap.size w ((((w.alloc (.cells #[.string x.nm, .int .i64 x.px, .int .i64 x.py, .int .i64 x.hg, .int .i64 x.jb, .int .i64 x.bk, .slice A n c] 29)).alloc (.cells #[.int .i64 s, .int .i64 t, .int .i64 o, .int .i64 g] 31)).alloc (.cells #[.int .i64 a, .int .i64 b] 26)).alloc (.cells #[.int .i64 d, .int .i64 e] 26)) := gr_alloc (gr_alloc (gr_alloc (gr_alloc (gr_refl _))))
  have HS := Lib.hid (h.later hb)
  replace hQ := hQ.late hb
  have HQ := Lib.hid hQ
  have HB := Lib.hid hb
  clear hb h hQ
  obtain ⟨cHL_0, cHL_1, cHL_2, cHL_3, cHL_4, cHL_5, cHL_6⟩ := HL.out
  have cBV_0 := BV.out.cell 0 (by simp)
  have cBV_1 := BV.out.cell 1 (by simp)
  have cBV_2 := BV.out.cell 2 (by simp)
  have cBV_3 := BV.out.cell 3 (by simp)
  simp only [List.getD_cons_zero, List.getD_cons_succ] at cBV_0 cBV_1 cBV_2 cBV_3
  have cBP_0 := BP.out.cell 0 (by simp)
  have cBP_1 := BP.out.cell 1 (by simp)
  simp only [List.getD_cons_zero, List.getD_cons_succ] at cBP_0 cBP_1
  have cBQ_0 := BQ.out.cell 0 (by simp)
  have cBQ_1 := BQ.out.cell 1 (by simp)
  simp only [List.getD_cons_zero, List.getD_cons_succ] at cBQ_0 cBQ_1
  go_enter Tryd.func4, Tryd.ntmps4
  go_wp2_with fail
  clear cHL_0 cHL_1 cHL_2 cHL_3 cHL_4 cHL_5 cHL_6
  clear cBV_0 cBV_1 cBV_2 cBV_3
  clear cBP_0 cBP_1
  clear cBQ_0 cBQ_1
  generalize (((w.alloc (.cells #[.string x.nm, .int .i64 x.px, .int .i64 x.py, .int .i64 x.hg, .int .i64 x.jb, .int .i64 x.bk, .slice A n c] 29)).alloc (.cells #[.int .i64 s, .int .i64 t, .int .i64 o, .int .i64 g] 31)).alloc (.cells #[.int .i64 a, .int .i64 b] 26)).alloc (.cells #[.int .i64 d, .int .i64 e] 26) = w0 at *
  obtain ⟨Z, hZ⟩ : ∃ z, szC 1048576 x.nm.size n = z := ⟨_, rfl⟩
  go_at_call 8
  (with_reducible refine (szCrane_any x A n c 1048576 _ hn hm8 (by omega) (by omega)).mono ?_)
  rintro r w1 ⟨he, hb⟩
  rw [hZ] at he
  subst he
  replace HS := Lib.hid (HS.out.later hb)
  replace HQ := Lib.hid (HQ.out.late hb)
  replace HB := Lib.hid (gr_then hb HB.out)
  replace HL := Lib.hid (HL.out.late hb)
  replace BV := Lib.hid (BV.out.late hb)
  replace BP := Lib.hid (BP.out.late hb)
  replace BQ := Lib.hid (BQ.out.late hb)
  clear hb
  by_cases hneg : Z < 0
  · have hd0 := decide_eq_true hneg
    go_wp2
    go_returns
    exact ⟨rfl, HB.out⟩
  have hd0 := decide_eq_false hneg
  have hn2 : n ≤ 1048576 := (szC_t (by rw [hZ]; exact hneg)).1
  have hm9 : x.nm.size ≤ 9223372036854775806 := by have h9 := (szC_t (a := x.nm.size) (n := n) (by rw [hZ]; exact hneg)).2; omega
  clear hn
  obtain ⟨cHL_0, cHL_1, cHL_2, cHL_3, cHL_4, cHL_5, cHL_6⟩ := HL.out
  have cBV_0 := BV.out.cell 0 (by simp)
  have cBV_1 := BV.out.cell 1 (by simp)
  have cBV_2 := BV.out.cell 2 (by simp)
  have cBV_3 := BV.out.cell 3 (by simp)
  simp only [List.getD_cons_zero, List.getD_cons_succ] at cBV_0 cBV_1 cBV_2 cBV_3
  have cBP_0 := BP.out.cell 0 (by simp)
  have cBP_1 := BP.out.cell 1 (by simp)
  simp only [List.getD_cons_zero, List.getD_cons_succ] at cBP_0 cBP_1
  have cBQ_0 := BQ.out.cell 0 (by simp)
  have cBQ_1 := BQ.out.cell 1 (by simp)
  simp only [List.getD_cons_zero, List.getD_cons_succ] at cBQ_0 cBQ_1
  go_wp2_with fail
  have hA : Below w1.heap.size w1 w1 := gr_refl _
  go_region_held3 (fun w' => w'.cell? ⟨w.heap.size, 0, none⟩ = some (.string x.nm) ∧ w'.cell? ⟨w.heap.size, 1, none⟩ = some (.int .i64 x.px) ∧ w'.cell? ⟨w.heap.size, 2, none⟩ = some (.int .i64 x.py) ∧ w'.cell? ⟨w.heap.size, 3, none⟩ = some (.int .i64 x.hg) ∧ w'.cell? ⟨w.heap.size, 4, none⟩ = some (.int .i64 x.jb) ∧ w'.cell? ⟨w.heap.size, 5, none⟩ = some (.int .i64 x.bk) ∧ w'.cell? ⟨w.heap.size, 6, none⟩ = some (.slice A n c) ∧ w'.cell? ⟨w.heap.size + 1, 0, none⟩ = some (.int .i64 s) ∧ w'.cell? ⟨w.heap.size + 1, 1, none⟩ = some (.int .i64 t) ∧ w'.cell? ⟨w.heap.size + 1, 2, none⟩ = some (.int .i64 o) ∧ w'.cell? ⟨w.heap.size + 1, 3, none⟩ = some (.int .i64 g) ∧ w'.cell? ⟨w.heap.size + 1 + 1, 0, none⟩ = some (.int .i64 a) ∧ w'.cell? ⟨w.heap.size + 1 + 1, 1, none⟩ = some (.int .i64 b) ∧ w'.cell? ⟨w.heap.size + 1 + 1 + 1, 0, none⟩ = some (.int .i64 d) ∧ w'.cell? ⟨w.heap.size + 1 + 1 + 1, 1, none⟩ = some (.int .i64 e)) (first | with_reducible exact ⟨cHL_0, cHL_1, cHL_2, cHL_3, cHL_4, cHL_5, cHL_6, cBV_0, cBV_1, cBV_2, cBV_3, cBP_0, cBP_1, cBQ_0, cBQ_1⟩ | with_reducible exact ⟨drewc cHL_0, drewc cHL_1, drewc cHL_2, drewc cHL_3, drewc cHL_4, drewc cHL_5, drewc cHL_6, drewc cBV_0, drewc cBV_1, drewc cBV_2, drewc cBV_3, drewc cBP_0, drewc cBP_1, drewc cBQ_0, drewc cBQ_1⟩ | with_reducible exact ⟨keepc hA cHL_0, keepc hA cHL_1, keepc hA cHL_2, keepc hA cHL_3, keepc hA cHL_4, keepc hA cHL_5, keepc hA cHL_6, keepc hA cBV_0, keepc hA cBV_1, keepc hA cBV_2, keepc hA cBV_3, keepc hA cBP_0, keepc hA cBP_1, keepc hA cBQ_0, keepc hA cBQ_1⟩) (first | (go_at_call 10; (with_reducible refine (toCrane_any x A n c _ hn2 hz (HS.out.later (by repeat' first | exact gr_refl _ | with_reducible assumption | with_reducible apply gr_alloc | with_reducible apply gr_set | with_reducible apply gr_drew | with_reducible apply gr_drewN | exact Nat.le_add_right _ _ | exact Nat.le_refl _ | (refine gr_then (by with_reducible assumption) ?_)))).mono ?_); rintro r y0 ⟨g1, rfl, _, hbi, hb⟩; have HG1 := Lib.hid hbi; clear hbi; replace hA : Below w1.heap.size w1 y0 := gr_then hb (by repeat' first | exact gr_refl _ | with_reducible assumption | with_reducible apply gr_alloc | with_reducible apply gr_set | with_reducible apply gr_drew | with_reducible apply gr_drewN | exact Nat.le_add_right _ _ | exact Nat.le_refl _ | (refine gr_then (by with_reducible assumption) ?_)); clear hb) | (go_at_call 11; (with_reducible refine (toSpeeds_any s t o g _).mono ?_); rintro r y1 ⟨rfl, hb⟩; replace HG1 := Lib.hid (HG1.out.late hb); replace hA : Below w1.heap.size w1 y1 := gr_then hb (by repeat' first | exact gr_refl _ | with_reducible assumption | with_reducible apply gr_alloc | with_reducible apply gr_set | with_reducible apply gr_drew | with_reducible apply gr_drewN | exact Nat.le_add_right _ _ | exact Nat.le_refl _ | (refine gr_then (by with_reducible assumption) ?_)); clear hb) | (go_at_call 12; (with_reducible refine (toPt_any a b _).mono ?_); rintro r y2 ⟨rfl, hb⟩; replace HG1 := Lib.hid (HG1.out.late hb); replace hA : Below w1.heap.size w1 y2 := gr_then hb (by repeat' first | exact gr_refl _ | with_reducible assumption | with_reducible apply gr_alloc | with_reducible apply gr_set | with_reducible apply gr_drew | with_reducible apply gr_drewN | exact Nat.le_add_right _ _ | exact Nat.le_refl _ | (refine gr_then (by with_reducible assumption) ?_)); clear hb) | (go_at_call 12; (with_reducible refine (toPt_any d e _).mono ?_); rintro r y3 ⟨rfl, hb⟩; replace HG1 := Lib.hid (HG1.out.late hb); replace hA : Below w1.heap.size w1 y3 := gr_then hb (by repeat' first | exact gr_refl _ | with_reducible assumption | with_reducible apply gr_alloc | with_reducible apply gr_set | with_reducible apply gr_drew | with_reducible apply gr_drewN | exact Nat.le_add_right _ _ | exact Nat.le_refl _ | (refine gr_then (by with_reducible assumption) ?_)); clear hb) | (go_at_call 9; (with_reducible refine (specMv_is x (some ⟨g1, 0, none⟩) n n s t o g a b d e _ hn2 hz hm9 ((HG1.out.si).more (Nat.succ_le_of_lt HG1.out.lt)) HV.out HC.out).mono ?_); rintro r y4 ⟨rfl, hb⟩; replace hA : Below w1.heap.size w1 y4 := gr_then hb (by repeat' first | exact gr_refl _ | with_reducible assumption | with_reducible apply gr_alloc | with_reducible apply gr_set | with_reducible apply gr_drew | with_reducible apply gr_drewN | exact Nat.le_add_right _ _ | exact Nat.le_refl _ | (refine gr_then (by with_reducible assumption) ?_)); clear hb HG1))
  clear cHL_0 cHL_1 cHL_2 cHL_3 cHL_4 cHL_5 cHL_6
  clear cBV_0 cBV_1 cBV_2 cBV_3
  clear cBP_0 cBP_1
  clear cBQ_0 cBQ_1
  replace HS := Lib.hid (HS.out.later hA)
  replace HQ := Lib.hid (HQ.out.late hA)
  replace HB := Lib.hid (gr_then hA HB.out)
  replace HL := Lib.hid (HL.out.late hA)
  replace BV := Lib.hid (BV.out.late hA)
  replace BP := Lib.hid (BP.out.late hA)
  replace BQ := Lib.hid (BQ.out.late hA)
  clear hA
  obtain ⟨cHL_0, cHL_1, cHL_2, cHL_3, cHL_4, cHL_5, cHL_6⟩ := HL.out
  have cBV_0 := BV.out.cell 0 (by simp)
  have cBV_1 := BV.out.cell 1 (by simp)
  have cBV_2 := BV.out.cell 2 (by simp)
  have cBV_3 := BV.out.cell 3 (by simp)
  simp only [List.getD_cons_zero, List.getD_cons_succ] at cBV_0 cBV_1 cBV_2 cBV_3
  have cBP_0 := BP.out.cell 0 (by simp)
  have cBP_1 := BP.out.cell 1 (by simp)
  simp only [List.getD_cons_zero, List.getD_cons_succ] at cBP_0 cBP_1
  have cBQ_0 := BQ.out.cell 0 (by simp)
  have cBQ_1 := BQ.out.cell 1 (by simp)
  simp only [List.getD_cons_zero, List.getD_cons_succ] at cBQ_0 cBQ_1
  go_wp2_with fail
  clear cHL_0 cHL_1 cHL_2 cHL_3 cHL_4 cHL_5 cHL_6
  clear cBV_0 cBV_1 cBV_2 cBV_3
  clear cBP_0 cBP_1
  clear cBQ_0 cBQ_1
  go_at_call 10
  (with_reducible refine (toCrane_any x A n c _ hn2 hz HS.out).mono ?_)
  rintro r w2 ⟨g2, rfl, _, hbi, hb⟩
  have HG2 := Lib.hid hbi
  clear hbi
  replace HS := Lib.hid (HS.out.later hb)
  replace HQ := Lib.hid (HQ.out.late hb)
  replace HB := Lib.hid (gr_then hb HB.out)
  replace HL := Lib.hid (HL.out.late hb)
  replace BV := Lib.hid (BV.out.late hb)
  replace BP := Lib.hid (BP.out.late hb)
  replace BQ := Lib.hid (BQ.out.late hb)
  clear hb
  have hb : Below w2.heap.size w2 (w2.alloc (.cells #[.string x.nm, .int .i64 x.px, .int .i64 x.py, .int .i64 x.hg, .int .i64 x.jb, .int .i64 x.bk, .slice (some ⟨g2, 0, none⟩) n n] 38)) := gr_alloc (gr_refl _)
  have BC := Lib.hid (Cc.box w2 38 x (some ⟨g2, 0, none⟩) n n)
  replace HS := Lib.hid (HS.out.later hb)
  replace HQ := Lib.hid (HQ.out.late hb)
  replace HB := Lib.hid (gr_then hb HB.out)
  replace HL := Lib.hid (HL.out.late hb)
  replace BV := Lib.hid (BV.out.late hb)
  replace BP := Lib.hid (BP.out.late hb)
  replace BQ := Lib.hid (BQ.out.late hb)
  replace HG2 := Lib.hid (HG2.out.late hb)
  clear hb
  obtain ⟨cHL_0, cHL_1, cHL_2, cHL_3, cHL_4, cHL_5, cHL_6⟩ := HL.out
  have cBV_0 := BV.out.cell 0 (by simp)
  have cBV_1 := BV.out.cell 1 (by simp)
  have cBV_2 := BV.out.cell 2 (by simp)
  have cBV_3 := BV.out.cell 3 (by simp)
  simp only [List.getD_cons_zero, List.getD_cons_succ] at cBV_0 cBV_1 cBV_2 cBV_3
  have cBP_0 := BP.out.cell 0 (by simp)
  have cBP_1 := BP.out.cell 1 (by simp)
  simp only [List.getD_cons_zero, List.getD_cons_succ] at cBP_0 cBP_1
  have cBQ_0 := BQ.out.cell 0 (by simp)
  have cBQ_1 := BQ.out.cell 1 (by simp)
  simp only [List.getD_cons_zero, List.getD_cons_succ] at cBQ_0 cBQ_1
  go_wp2_with fail
  clear cHL_0 cHL_1 cHL_2 cHL_3 cHL_4 cHL_5 cHL_6
  clear cBV_0 cBV_1 cBV_2 cBV_3
  clear cBP_0 cBP_1
  clear cBQ_0 cBQ_1
  generalize w2.alloc (.cells #[.string x.nm, .int .i64 x.px, .int .i64 x.py, .int .i64 x.hg, .int .i64 x.jb, .int .i64 x.bk, .slice (some ⟨g2, 0, none⟩) n n] 38) = w3 at *
  obtain ⟨gBC, hgBC⟩ : ∃ g, w2.heap.size = g := ⟨_, rfl⟩
  rw [hgBC] at BC ⊢
  clear hgBC
  obtain ⟨cHL_0, cHL_1, cHL_2, cHL_3, cHL_4, cHL_5, cHL_6⟩ := HL.out
  obtain ⟨cBC_0, cBC_1, cBC_2, cBC_3, cBC_4, cBC_5, cBC_6⟩ := BC.out
  have cBV_0 := BV.out.cell 0 (by simp)
  have cBV_1 := BV.out.cell 1 (by simp)
  have cBV_2 := BV.out.cell 2 (by simp)
  have cBV_3 := BV.out.cell 3 (by simp)
  simp only [List.getD_cons_zero, List.getD_cons_succ] at cBV_0 cBV_1 cBV_2 cBV_3
  have cBP_0 := BP.out.cell 0 (by simp)
  have cBP_1 := BP.out.cell 1 (by simp)
  simp only [List.getD_cons_zero, List.getD_cons_succ] at cBP_0 cBP_1
  have cBQ_0 := BQ.out.cell 0 (by simp)
  have cBQ_1 := BQ.out.cell 1 (by simp)
  simp only [List.getD_cons_zero, List.getD_cons_succ] at cBQ_0 cBQ_1
  go_wp2_with fail
  have hA : Below w3.heap.size w3 w3 := gr_refl _
  go_region_held3 (fun w' => w'.cell? ⟨w.heap.size, 0, none⟩ = some (.string x.nm) ∧ w'.cell? ⟨w.heap.size, 1, none⟩ = some (.int .i64 x.px) ∧ w'.cell? ⟨w.heap.size, 2, none⟩ = some (.int .i64 x.py) ∧ w'.cell? ⟨w.heap.size, 3, none⟩ = some (.int .i64 x.hg) ∧ w'.cell? ⟨w.heap.size, 4, none⟩ = some (.int .i64 x.jb) ∧ w'.cell? ⟨w.heap.size, 5, none⟩ = some (.int .i64 x.bk) ∧ w'.cell? ⟨w.heap.size, 6, none⟩ = some (.slice A n c) ∧ w'.cell? ⟨gBC, 0, none⟩ = some (.string x.nm) ∧ w'.cell? ⟨gBC, 1, none⟩ = some (.int .i64 x.px) ∧ w'.cell? ⟨gBC, 2, none⟩ = some (.int .i64 x.py) ∧ w'.cell? ⟨gBC, 3, none⟩ = some (.int .i64 x.hg) ∧ w'.cell? ⟨gBC, 4, none⟩ = some (.int .i64 x.jb) ∧ w'.cell? ⟨gBC, 5, none⟩ = some (.int .i64 x.bk) ∧ w'.cell? ⟨gBC, 6, none⟩ = some (.slice (some ⟨g2, 0, none⟩) n n) ∧ w'.cell? ⟨w.heap.size + 1, 0, none⟩ = some (.int .i64 s) ∧ w'.cell? ⟨w.heap.size + 1, 1, none⟩ = some (.int .i64 t) ∧ w'.cell? ⟨w.heap.size + 1, 2, none⟩ = some (.int .i64 o) ∧ w'.cell? ⟨w.heap.size + 1, 3, none⟩ = some (.int .i64 g) ∧ w'.cell? ⟨w.heap.size + 1 + 1, 0, none⟩ = some (.int .i64 a) ∧ w'.cell? ⟨w.heap.size + 1 + 1, 1, none⟩ = some (.int .i64 b) ∧ w'.cell? ⟨w.heap.size + 1 + 1 + 1, 0, none⟩ = some (.int .i64 d) ∧ w'.cell? ⟨w.heap.size + 1 + 1 + 1, 1, none⟩ = some (.int .i64 e)) (first | with_reducible exact ⟨cHL_0, cHL_1, cHL_2, cHL_3, cHL_4, cHL_5, cHL_6, cBC_0, cBC_1, cBC_2, cBC_3, cBC_4, cBC_5, cBC_6, cBV_0, cBV_1, cBV_2, cBV_3, cBP_0, cBP_1, cBQ_0, cBQ_1⟩ | with_reducible exact ⟨drewc cHL_0, drewc cHL_1, drewc cHL_2, drewc cHL_3, drewc cHL_4, drewc cHL_5, drewc cHL_6, drewc cBC_0, drewc cBC_1, drewc cBC_2, drewc cBC_3, drewc cBC_4, drewc cBC_5, drewc cBC_6, drewc cBV_0, drewc cBV_1, drewc cBV_2, drewc cBV_3, drewc cBP_0, drewc cBP_1, drewc cBQ_0, drewc cBQ_1⟩ | with_reducible exact ⟨keepc hA cHL_0, keepc hA cHL_1, keepc hA cHL_2, keepc hA cHL_3, keepc hA cHL_4, keepc hA cHL_5, keepc hA cHL_6, keepc hA cBC_0, keepc hA cBC_1, keepc hA cBC_2, keepc hA cBC_3, keepc hA cBC_4, keepc hA cBC_5, keepc hA cBC_6, keepc hA cBV_0, keepc hA cBV_1, keepc hA cBV_2, keepc hA cBV_3, keepc hA cBP_0, keepc hA cBP_1, keepc hA cBQ_0, keepc hA cBQ_1⟩) (first | (go_at_call 11; (with_reducible refine (toSpeeds_any s t o g _).mono ?_); rintro r z1 ⟨rfl, hb⟩; replace hA : Below w3.heap.size w3 z1 := gr_then hb (by repeat' first | exact gr_refl _ | with_reducible assumption | with_reducible apply gr_alloc | with_reducible apply gr_set | with_reducible apply gr_drew | with_reducible apply gr_drewN | exact Nat.le_add_right _ _ | exact Nat.le_refl _ | (refine gr_then (by with_reducible assumption) ?_)); clear hb) | (go_at_call 12; (with_reducible refine (toPt_any a b _).mono ?_); rintro r z2 ⟨rfl, hb⟩; replace hA : Below w3.heap.size w3 z2 := gr_then hb (by repeat' first | exact gr_refl _ | with_reducible assumption | with_reducible apply gr_alloc | with_reducible apply gr_set | with_reducible apply gr_drew | with_reducible apply gr_drewN | exact Nat.le_add_right _ _ | exact Nat.le_refl _ | (refine gr_then (by with_reducible assumption) ?_)); clear hb) | (go_at_call 12; (with_reducible refine (toPt_any d e _).mono ?_); rintro r z3 ⟨rfl, hb⟩; replace hA : Below w3.heap.size w3 z3 := gr_then hb (by repeat' first | exact gr_refl _ | with_reducible assumption | with_reducible apply gr_alloc | with_reducible apply gr_set | with_reducible apply gr_drew | with_reducible apply gr_drewN | exact Nat.le_add_right _ _ | exact Nat.le_refl _ | (refine gr_then (by with_reducible assumption) ?_)); clear hb) | (go_at_call 13; (with_reducible refine (implMv_is x (some ⟨g2, 0, none⟩) n n s t o g a b d e _ hn2 hz hm9 (((HG2.out.late (by repeat' first | exact gr_refl _ | with_reducible assumption | with_reducible apply gr_alloc | with_reducible apply gr_set | with_reducible apply gr_drew | with_reducible apply gr_drewN | exact Nat.le_add_right _ _ | exact Nat.le_refl _ | (refine gr_then (by with_reducible assumption) ?_))).si).more (Nat.succ_le_of_lt (HG2.out.late (by repeat' first | exact gr_refl _ | with_reducible assumption | with_reducible apply gr_alloc | with_reducible apply gr_set | with_reducible apply gr_drew | with_reducible apply gr_drewN | exact Nat.le_add_right _ _ | exact Nat.le_refl _ | (refine gr_then (by with_reducible assumption) ?_))).lt)) (HQ.out.late (by repeat' first | exact gr_refl _ | with_reducible assumption | with_reducible apply gr_alloc | with_reducible apply gr_set | with_reducible apply gr_drew | with_reducible apply gr_drewN | exact Nat.le_add_right _ _ | exact Nat.le_refl _ | (refine gr_then (by with_reducible assumption) ?_))) HV.out HC.out).mono ?_); rintro r z4 ⟨rfl, hb⟩; replace hA : Below w3.heap.size w3 z4 := gr_then hb (by repeat' first | exact gr_refl _ | with_reducible assumption | with_reducible apply gr_alloc | with_reducible apply gr_set | with_reducible apply gr_drew | with_reducible apply gr_drewN | exact Nat.le_add_right _ _ | exact Nat.le_refl _ | (refine gr_then (by with_reducible assumption) ?_)); clear hb))
  clear cHL_0 cHL_1 cHL_2 cHL_3 cHL_4 cHL_5 cHL_6
  clear cBC_0 cBC_1 cBC_2 cBC_3 cBC_4 cBC_5 cBC_6
  clear cBV_0 cBV_1 cBV_2 cBV_3
  clear cBP_0 cBP_1
  clear cBQ_0 cBQ_1
  replace HS := Lib.hid (HS.out.later hA)
  replace HQ := Lib.hid (HQ.out.late hA)
  replace HB := Lib.hid (gr_then hA HB.out)
  replace HL := Lib.hid (HL.out.late hA)
  replace BC := Lib.hid (BC.out.late hA)
  replace BV := Lib.hid (BV.out.late hA)
  replace BP := Lib.hid (BP.out.late hA)
  replace BQ := Lib.hid (BQ.out.late hA)
  replace HG2 := Lib.hid (HG2.out.late hA)
  clear hA
  obtain ⟨cHL_0, cHL_1, cHL_2, cHL_3, cHL_4, cHL_5, cHL_6⟩ := HL.out
  obtain ⟨cBC_0, cBC_1, cBC_2, cBC_3, cBC_4, cBC_5, cBC_6⟩ := BC.out
  have cBV_0 := BV.out.cell 0 (by simp)
  have cBV_1 := BV.out.cell 1 (by simp)
  have cBV_2 := BV.out.cell 2 (by simp)
  have cBV_3 := BV.out.cell 3 (by simp)
  simp only [List.getD_cons_zero, List.getD_cons_succ] at cBV_0 cBV_1 cBV_2 cBV_3
  have cBP_0 := BP.out.cell 0 (by simp)
  have cBP_1 := BP.out.cell 1 (by simp)
  simp only [List.getD_cons_zero, List.getD_cons_succ] at cBP_0 cBP_1
  have cBQ_0 := BQ.out.cell 0 (by simp)
  have cBQ_1 := BQ.out.cell 1 (by simp)
  simp only [List.getD_cons_zero, List.getD_cons_succ] at cBQ_0 cBQ_1
  go_wp2_with fail
  have hA : Below z4.heap.size z4 z4 := gr_refl _
  go_region_held3 (fun w' => w'.cell? ⟨w.heap.size, 0, none⟩ = some (.string x.nm) ∧ w'.cell? ⟨w.heap.size, 1, none⟩ = some (.int .i64 x.px) ∧ w'.cell? ⟨w.heap.size, 2, none⟩ = some (.int .i64 x.py) ∧ w'.cell? ⟨w.heap.size, 3, none⟩ = some (.int .i64 x.hg) ∧ w'.cell? ⟨w.heap.size, 4, none⟩ = some (.int .i64 x.jb) ∧ w'.cell? ⟨w.heap.size, 5, none⟩ = some (.int .i64 x.bk) ∧ w'.cell? ⟨w.heap.size, 6, none⟩ = some (.slice A n c) ∧ w'.cell? ⟨gBC, 0, none⟩ = some (.string x.nm) ∧ w'.cell? ⟨gBC, 1, none⟩ = some (.int .i64 x.px) ∧ w'.cell? ⟨gBC, 2, none⟩ = some (.int .i64 x.py) ∧ w'.cell? ⟨gBC, 3, none⟩ = some (.int .i64 x.hg) ∧ w'.cell? ⟨gBC, 4, none⟩ = some (.int .i64 x.jb) ∧ w'.cell? ⟨gBC, 5, none⟩ = some (.int .i64 x.bk) ∧ w'.cell? ⟨gBC, 6, none⟩ = some (.slice (some ⟨g2, 0, none⟩) n n) ∧ w'.cell? ⟨w.heap.size + 1, 0, none⟩ = some (.int .i64 s) ∧ w'.cell? ⟨w.heap.size + 1, 1, none⟩ = some (.int .i64 t) ∧ w'.cell? ⟨w.heap.size + 1, 2, none⟩ = some (.int .i64 o) ∧ w'.cell? ⟨w.heap.size + 1, 3, none⟩ = some (.int .i64 g) ∧ w'.cell? ⟨w.heap.size + 1 + 1, 0, none⟩ = some (.int .i64 a) ∧ w'.cell? ⟨w.heap.size + 1 + 1, 1, none⟩ = some (.int .i64 b) ∧ w'.cell? ⟨w.heap.size + 1 + 1 + 1, 0, none⟩ = some (.int .i64 d) ∧ w'.cell? ⟨w.heap.size + 1 + 1 + 1, 1, none⟩ = some (.int .i64 e)) (first | with_reducible exact ⟨cHL_0, cHL_1, cHL_2, cHL_3, cHL_4, cHL_5, cHL_6, cBC_0, cBC_1, cBC_2, cBC_3, cBC_4, cBC_5, cBC_6, cBV_0, cBV_1, cBV_2, cBV_3, cBP_0, cBP_1, cBQ_0, cBQ_1⟩ | with_reducible exact ⟨drewc cHL_0, drewc cHL_1, drewc cHL_2, drewc cHL_3, drewc cHL_4, drewc cHL_5, drewc cHL_6, drewc cBC_0, drewc cBC_1, drewc cBC_2, drewc cBC_3, drewc cBC_4, drewc cBC_5, drewc cBC_6, drewc cBV_0, drewc cBV_1, drewc cBV_2, drewc cBV_3, drewc cBP_0, drewc cBP_1, drewc cBQ_0, drewc cBQ_1⟩ | with_reducible exact ⟨keepc hA cHL_0, keepc hA cHL_1, keepc hA cHL_2, keepc hA cHL_3, keepc hA cHL_4, keepc hA cHL_5, keepc hA cHL_6, keepc hA cBC_0, keepc hA cBC_1, keepc hA cBC_2, keepc hA cBC_3, keepc hA cBC_4, keepc hA cBC_5, keepc hA cBC_6, keepc hA cBV_0, keepc hA cBV_1, keepc hA cBV_2, keepc hA cBV_3, keepc hA cBP_0, keepc hA cBP_1, keepc hA cBQ_0, keepc hA cBQ_1⟩) (first | (go_at_call 10; (with_reducible refine (toCrane_any x A n c _ hn2 hz (HS.out.later (by repeat' first | exact gr_refl _ | with_reducible assumption | with_reducible apply gr_alloc | with_reducible apply gr_set | with_reducible apply gr_drew | with_reducible apply gr_drewN | exact Nat.le_add_right _ _ | exact Nat.le_refl _ | (refine gr_then (by with_reducible assumption) ?_)))).mono ?_); rintro r u1 ⟨g3, rfl, _, hbi, hb⟩; have HG3 := Lib.hid hbi; clear hbi; replace hA : Below z4.heap.size z4 u1 := gr_then hb (by repeat' first | exact gr_refl _ | with_reducible assumption | with_reducible apply gr_alloc | with_reducible apply gr_set | with_reducible apply gr_drew | with_reducible apply gr_drewN | exact Nat.le_add_right _ _ | exact Nat.le_refl _ | (refine gr_then (by with_reducible assumption) ?_)); clear hb; have HG4 := Lib.hid (HG2.out.late hA)) | (go_at_call 14; (with_reducible refine (eqCrane_same x (some ⟨g2, 0, none⟩) (some ⟨g3, 0, none⟩) n n n _ hn2 hz ((HG4.out.si).more (Nat.succ_le_of_lt HG4.out.lt)) ((HG3.out.si).more (Nat.succ_le_of_lt HG3.out.lt))).mono ?_); rintro r u2 ⟨rfl, hb⟩; replace hA : Below z4.heap.size z4 u2 := gr_then hb (by repeat' first | exact gr_refl _ | with_reducible assumption | with_reducible apply gr_alloc | with_reducible apply gr_set | with_reducible apply gr_drew | with_reducible apply gr_drewN | exact Nat.le_add_right _ _ | exact Nat.le_refl _ | (refine gr_then (by with_reducible assumption) ?_)); clear hb))
  clear cHL_0 cHL_1 cHL_2 cHL_3 cHL_4 cHL_5 cHL_6
  clear cBC_0 cBC_1 cBC_2 cBC_3 cBC_4 cBC_5 cBC_6
  clear cBV_0 cBV_1 cBV_2 cBV_3
  clear cBP_0 cBP_1
  clear cBQ_0 cBQ_1
  go_wp2
  go_returns
  exact ⟨rfl, gr_then hA HB.out⟩
end Go.Proofs.YtoglmeiffidcbaaDoor.fnExactMoveTime
