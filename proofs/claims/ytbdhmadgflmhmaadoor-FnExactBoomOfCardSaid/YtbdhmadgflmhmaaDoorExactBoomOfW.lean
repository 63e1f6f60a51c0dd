/- The walk of the law FnExactBoomOf: whatever crane and number came in, it returns true. No condition but that the table of vectors holds what the text lays. -/
import Derived.Test.YtbdhmadgflmhmaaDoorCrL
import Derived.BigQuiet
namespace Go.Proofs.YtbdhmadgflmhmaaDoor.fnExactBoomOf
open Go.RowKit Go.Deep
theorem szC_t {a n : Nat} (h : ¬ szC 1048576 a n < 0) : n ≤ 1048576 ∧ a ≤ 1048576 := by
  unfold szC at h
  by_cases h1 : (1048576 : Int) < a
  · rw [if_pos h1] at h; omega
  · rw [if_neg h1] at h; by_cases h2 : (1048576 : Int) - a < n
    · rw [if_pos h2] at h; omega
    · omega
set_option maxHeartbeats 32000000 in
set_option maxRecDepth 20000 in
theorem walk (x : Cr) (A : Option Addr) (n c : Nat) (d : Int) (w : World) (hx : x.ok) (hn : n ≤ 9223372036854775807) (hz : x.zs.length = n * 2) (h : SI w w.heap.size A x.zs) (_ : -9223372036854775808 ≤ d ∧ d ≤ 9223372036854775807) (hQ : Quar w) :
    Calls Tryd.prog 3 #[.agg #[.string x.nm, .int .i64 x.px, .int .i64 x.py, .int .i64 x.hg, .int .i64 x.jb, .int .i64 x.bk, .slice A n c], .int .i64 d] w fun e w' => e = .returned (.bool true) ∧ Below w.heap.size w w' := by
  obtain ⟨hnm, _⟩ := hx
  have hm8 : x.nm.size ≤ 9223372036854775807 := by unfold maxLen at hnm; omega
  have hb : Below w.heap.size w (w.alloc (.cells #[.string x.nm, .int .i64 x.px, .int .i64 x.py, .int .i64 x.hg, .int .i64 x.jb, .int .i64 x.bk, .slice A n c] 26)) := gr_alloc (gr_refl _)
  have HC := Lib.hid (Cc.box w 26 x A n c)
  have HS := Lib.hid (h.later hb)
  have HQ := Lib.hid (hQ.late hb)
  have HB := Lib.hid hb
  clear hb h hQ
  obtain ⟨cHC_0, cHC_1, cHC_2, cHC_3, cHC_4, cHC_5, cHC_6⟩ := HC.out
  go_enter Tryd.func3, Tryd.ntmps3
  go_wp2_with fail
  clear cHC_0 cHC_1 cHC_2 cHC_3 cHC_4 cHC_5 cHC_6
  generalize w.alloc (.cells #[.string x.nm, .int .i64 x.px, .int .i64 x.py, .int .i64 x.hg, .int .i64 x.jb, .int .i64 x.bk, .slice A n c] 26) = w0 at *
  obtain ⟨Z, hZ⟩ : ∃ z, szC 1048576 x.nm.size n = z := ⟨_, rfl⟩
  go_at_call 5
  (with_reducible refine (szCrane_any x A n c 1048576 _ hn hm8 (by omega) (by omega)).mono ?_)
  rintro e w1 ⟨he, hb⟩
  rw [hZ] at he
  subst he
  replace HS := Lib.hid (HS.out.later hb)
  replace HQ := Lib.hid (HQ.out.late hb)
  replace HB := Lib.hid (gr_then hb HB.out)
  replace HC := Lib.hid (HC.out.late hb)
  clear hb
  by_cases hneg : Z < 0
  · have hd0 := decide_eq_true hneg
    go_wp2
    go_returns
    exact ⟨rfl, HB.out⟩
  have hd0 := decide_eq_false hneg
  have hn2 : n ≤ 1048576 := (szC_t (by rw [hZ]; exact hneg)).1
  have hm9 : x.nm.size ≤ 9223372036854775806 := by have h9 := (szC_t (a := x.nm.size) (n := n) (by rw [hZ]; exact hneg)).2; omega
  clear hn
  obtain ⟨E, hE⟩ : ∃ v, cdE x n d = v := ⟨_, rfl⟩
  obtain ⟨sa, hsa⟩ : ∃ v, zE E (kX x d.toNat) = v := ⟨_, rfl⟩
  obtain ⟨sb, hsb⟩ : ∃ v, zE E (kY x d.toNat) = v := ⟨_, rfl⟩
  obtain ⟨sc, hsc⟩ : ∃ v, zE E (jX x d.toNat) = v := ⟨_, rfl⟩
  obtain ⟨sd, hsd⟩ : ∃ v, zE E (jY x d.toNat) = v := ⟨_, rfl⟩
  have HE := Lib.hid hE
  have Hsa := Lib.hid hsa
  have Hsb := Lib.hid hsb
  have Hsc := Lib.hid hsc
  have Hsd := Lib.hid hsd
  clear hE hsa hsb hsc hsd
  obtain ⟨cHC_0, cHC_1, cHC_2, cHC_3, cHC_4, cHC_5, cHC_6⟩ := HC.out
  go_wp2_with fail
  clear cHC_0 cHC_1 cHC_2 cHC_3 cHC_4 cHC_5 cHC_6
  go_at_call 7
  (with_reducible refine (toCrane_any x A n c _ hn2 hz HS.out).mono ?_)
  rintro e w2 ⟨g1, rfl, _, hbi, hb⟩
  have HG1 := Lib.hid hbi
  clear hbi
  replace HS := Lib.hid (HS.out.later hb)
  replace HQ := Lib.hid (HQ.out.late hb)
  replace HB := Lib.hid (gr_then hb HB.out)
  replace HC := Lib.hid (HC.out.late hb)
  clear hb
  obtain ⟨cHC_0, cHC_1, cHC_2, cHC_3, cHC_4, cHC_5, cHC_6⟩ := HC.out
  go_wp2_with fail
  clear cHC_0 cHC_1 cHC_2 cHC_3 cHC_4 cHC_5 cHC_6
  go_at_call 6
  (with_reducible refine (specBoom_any x (some ⟨g1, 0, none⟩) n n d _ hn2 hz hm9 ((HG1.out.si).more (Nat.succ_le_of_lt HG1.out.lt))).mono ?_)
  rintro e w3 ⟨he, hb⟩
  rw [HE.out, Hsa.out, Hsb.out, Hsc.out, Hsd.out] at he
  subst he
  replace HS := Lib.hid (HS.out.later hb)
  replace HQ := Lib.hid (HQ.out.late hb)
  replace HB := Lib.hid (gr_then hb HB.out)
  replace HC := Lib.hid (HC.out.late hb)
  replace HG1 := Lib.hid (HG1.out.late hb)
  clear hb
  have hb : Below w3.heap.size w3 (w3.alloc (.cells #[.int .i64 sa, .int .i64 sb, .int .i64 sc, .int .i64 sd] 30)) := gr_alloc (gr_refl _)
  have BS := Lib.hid (show BI (w3.alloc (.cells #[.int .i64 sa, .int .i64 sb, .int .i64 sc, .int .i64 sd] 30)) w3.heap.size 30 [sa, sb, sc, sd] from heap_alloc_new _ _)
  replace HS := Lib.hid (HS.out.later hb)
  replace HQ := Lib.hid (HQ.out.late hb)
  replace HB := Lib.hid (gr_then hb HB.out)
  replace HC := Lib.hid (HC.out.late hb)
  replace HG1 := Lib.hid (HG1.out.late hb)
  clear hb
  obtain ⟨cHC_0, cHC_1, cHC_2, cHC_3, cHC_4, cHC_5, cHC_6⟩ := HC.out
  go_wp2_with fail
  clear cHC_0 cHC_1 cHC_2 cHC_3 cHC_4 cHC_5 cHC_6
  generalize w3.alloc (.cells #[.int .i64 sa, .int .i64 sb, .int .i64 sc, .int .i64 sd] 30) = w4 at *
  obtain ⟨gBS, hgBS⟩ : ∃ g, w3.heap.size = g := ⟨_, rfl⟩
  rw [hgBS] at BS ⊢
  clear hgBS
  go_at_call 7
  (with_reducible refine (toCrane_any x A n c _ hn2 hz HS.out).mono ?_)
  rintro e w5 ⟨g2, rfl, _, hbi, hb⟩
  have HG2 := Lib.hid hbi
  clear hbi
  replace HS := Lib.hid (HS.out.later hb)
  replace HQ := Lib.hid (HQ.out.late hb)
  replace HB := Lib.hid (gr_then hb HB.out)
  replace HC := Lib.hid (HC.out.late hb)
  replace BS := Lib.hid (BS.out.late hb)
  replace HG1 := Lib.hid (HG1.out.late hb)
  clear hb
  have hb : Below w5.heap.size w5 (w5.alloc (.cells #[.string x.nm, .int .i64 x.px, .int .i64 x.py, .int .i64 x.hg, .int .i64 x.jb, .int .i64 x.bk, .slice (some ⟨g2, 0, none⟩) n n] 35)) := gr_alloc (gr_refl _)
  have BC := Lib.hid (Cc.box w5 35 x (some ⟨g2, 0, none⟩) n n)
  replace HS := Lib.hid (HS.out.later hb)
  replace HQ := Lib.hid (HQ.out.late hb)
  replace HB := Lib.hid (gr_then hb HB.out)
  replace HC := Lib.hid (HC.out.late hb)
  replace BS := Lib.hid (BS.out.late hb)
  replace HG1 := Lib.hid (HG1.out.late hb)
  replace HG2 := Lib.hid (HG2.out.late hb)
  clear hb
  obtain ⟨cHC_0, cHC_1, cHC_2, cHC_3, cHC_4, cHC_5, cHC_6⟩ := HC.out
  have cBS_0 := BS.out.cell 0 (by simp)
  have cBS_1 := BS.out.cell 1 (by simp)
  have cBS_2 := BS.out.cell 2 (by simp)
  have cBS_3 := BS.out.cell 3 (by simp)
  simp only [List.getD_cons_zero, List.getD_cons_succ] at cBS_0 cBS_1 cBS_2 cBS_3
  go_wp2_with fail
  clear cHC_0 cHC_1 cHC_2 cHC_3 cHC_4 cHC_5 cHC_6
  clear cBS_0 cBS_1 cBS_2 cBS_3
  generalize w5.alloc (.cells #[.string x.nm, .int .i64 x.px, .int .i64 x.py, .int .i64 x.hg, .int .i64 x.jb, .int .i64 x.bk, .slice (some ⟨g2, 0, none⟩) n n] 35) = w6 at *
  obtain ⟨gBC, hgBC⟩ : ∃ g, w5.heap.size = g := ⟨_, rfl⟩
  rw [hgBC] at BC ⊢
  clear hgBC
  go_at_call 8
  (with_reducible refine (implBoom_any x (some ⟨g2, 0, none⟩) n n d _ hn2 hz hm9 ((HG2.out.si).more (Nat.succ_le_of_lt HG2.out.lt)) HQ.out).mono ?_)
  rintro e w7 ⟨he, hb⟩
  rw [HE.out, Hsa.out, Hsb.out, Hsc.out, Hsd.out] at he
  subst he
  replace HS := Lib.hid (HS.out.later hb)
  replace HQ := Lib.hid (HQ.out.late hb)
  replace HB := Lib.hid (gr_then hb HB.out)
  replace HC := Lib.hid (HC.out.late hb)
  replace BC := Lib.hid (BC.out.late hb)
  replace BS := Lib.hid (BS.out.late hb)
  replace HG1 := Lib.hid (HG1.out.late hb)
  replace HG2 := Lib.hid (HG2.out.late hb)
  clear hb
  have hb : Below w7.heap.size w7 (w7.alloc (.cells #[.int .i64 sa, .int .i64 sb, .int .i64 sc, .int .i64 sd] 30)) := gr_alloc (gr_refl _)
  have BT := Lib.hid (show BI (w7.alloc (.cells #[.int .i64 sa, .int .i64 sb, .int .i64 sc, .int .i64 sd] 30)) w7.heap.size 30 [sa, sb, sc, sd] from heap_alloc_new _ _)
  replace HS := Lib.hid (HS.out.later hb)
  replace HQ := Lib.hid (HQ.out.late hb)
  replace HB := Lib.hid (gr_then hb HB.out)
  replace HC := Lib.hid (HC.out.late hb)
  replace BC := Lib.hid (BC.out.late hb)
  replace BS := Lib.hid (BS.out.late hb)
  replace HG1 := Lib.hid (HG1.out.late hb)
  replace HG2 := Lib.hid (HG2.out.late hb)
  clear hb
  obtain ⟨cHC_0, cHC_1, cHC_2, cHC_3, cHC_4, cHC_5, cHC_6⟩ := HC.out
  obtain ⟨cBC_0, cBC_1, cBC_2, cBC_3, cBC_4, cBC_5, cBC_6⟩ := BC.out
  have cBS_0 := BS.out.cell 0 (by simp)
  have cBS_1 := BS.out.cell 1 (by simp)
  have cBS_2 := BS.out.cell 2 (by simp)
  have cBS_3 := BS.out.cell 3 (by simp)
  simp only [List.getD_cons_zero, List.getD_cons_succ] at cBS_0 cBS_1 cBS_2 cBS_3
  go_wp2_with fail
  clear cHC_0 cHC_1 cHC_2 cHC_3 cHC_4 cHC_5 cHC_6
  clear cBC_0 cBC_1 cBC_2 cBC_3 cBC_4 cBC_5 cBC_6
  clear cBS_0 cBS_1 cBS_2 cBS_3
  generalize w7.alloc (.cells #[.int .i64 sa, .int .i64 sb, .int .i64 sc, .int .i64 sd] 30) = w8 at *
  obtain ⟨gBT, hgBT⟩ : ∃ g, w7.heap.size = g := ⟨_, rfl⟩
  rw [hgBT] at BT ⊢
  clear hgBT
  go_at_call 9
  (with_reducible refine (eqSeg_same sa sb sc sd _).mono ?_)
  rintro e w9 ⟨rfl, hb⟩
  replace HS := Lib.hid (HS.out.later hb)
  replace HQ := Lib.hid (HQ.out.late hb)
  replace HB := Lib.hid (gr_then hb HB.out)
  replace HC := Lib.hid (HC.out.late hb)
  replace BC := Lib.hid (BC.out.late hb)
  replace BS := Lib.hid (BS.out.late hb)
  replace BT := Lib.hid (BT.out.late hb)
  replace HG1 := Lib.hid (HG1.out.late hb)
  replace HG2 := Lib.hid (HG2.out.late hb)
  clear hb
  obtain ⟨cHC_0, cHC_1, cHC_2, cHC_3, cHC_4, cHC_5, cHC_6⟩ := HC.out
  obtain ⟨cBC_0, cBC_1, cBC_2, cBC_3, cBC_4, cBC_5, cBC_6⟩ := BC.out
  go_wp2_with fail
  have hA : Below w9.heap.size w9 w9 := gr_refl _
  go_region_held3 (fun w' => w'.cell? ⟨w.heap.size, 0, none⟩ = some (.string x.nm) ∧ w'.cell? ⟨w.heap.size, 1, none⟩ = some (.int .i64 x.px) ∧ w'.cell? ⟨w.heap.size, 2, none⟩ = some (.int .i64 x.py) ∧ w'.cell? ⟨w.heap.size, 3, none⟩ = some (.int .i64 x.hg) ∧ w'.cell? ⟨w.heap.size, 4, none⟩ = some (.int .i64 x.jb) ∧ w'.cell? ⟨w.heap.size, 5, none⟩ = some (.int .i64 x.bk) ∧ w'.cell? ⟨w.heap.size, 6, none⟩ = some (.slice A n c) ∧ w'.cell? ⟨gBC, 0, none⟩ = some (.string x.nm) ∧ w'.cell? ⟨gBC, 1, none⟩ = some (.int .i64 x.px) ∧ w'.cell? ⟨gBC, 2, none⟩ = some (.int .i64 x.py) ∧ w'.cell? ⟨gBC, 3, none⟩ = some (.int .i64 x.hg) ∧ w'.cell? ⟨gBC, 4, none⟩ = some (.int .i64 x.jb) ∧ w'.cell? ⟨gBC, 5, none⟩ = some (.int .i64 x.bk) ∧ w'.cell? ⟨gBC, 6, none⟩ = some (.slice (some ⟨g2, 0, none⟩) n n)) (first | with_reducible exact ⟨cHC_0, cHC_1, cHC_2, cHC_3, cHC_4, cHC_5, cHC_6, cBC_0, cBC_1, cBC_2, cBC_3, cBC_4, cBC_5, cBC_6⟩ | with_reducible exact ⟨drewc cHC_0, drewc cHC_1, drewc cHC_2, drewc cHC_3, drewc cHC_4, drewc cHC_5, drewc cHC_6, drewc cBC_0, drewc cBC_1, drewc cBC_2, drewc cBC_3, drewc cBC_4, drewc cBC_5, drewc cBC_6⟩ | with_reducible exact ⟨keepc hA cHC_0, keepc hA cHC_1, keepc hA cHC_2, keepc hA cHC_3, keepc hA cHC_4, keepc hA cHC_5, keepc hA cHC_6, keepc hA cBC_0, keepc hA cBC_1, keepc hA cBC_2, keepc hA cBC_3, keepc hA cBC_4, keepc hA cBC_5, keepc hA cBC_6⟩) (first | (go_at_call 7; (with_reducible refine (toCrane_any x A n c _ hn2 hz (HS.out.later (by repeat' first | exact gr_refl _ | with_reducible assumption | with_reducible apply gr_alloc | with_reducible apply gr_set | with_reducible apply gr_drew | with_reducible apply gr_drewN | exact Nat.le_add_right _ _ | exact Nat.le_refl _ | (refine gr_then (by with_reducible assumption) ?_)))).mono ?_); rintro e y1 ⟨g3, rfl, _, hbi, hb⟩; have HG3 := Lib.hid hbi; clear hbi; replace hA : Below w9.heap.size w9 y1 := gr_then hb (by repeat' first | exact gr_refl _ | with_reducible assumption | with_reducible apply gr_alloc | with_reducible apply gr_set | with_reducible apply gr_drew | with_reducible apply gr_drewN | exact Nat.le_add_right _ _ | exact Nat.le_refl _ | (refine gr_then (by with_reducible assumption) ?_)); clear hb; have HG4 := Lib.hid (HG2.out.late hA)) | (go_at_call 10; (with_reducible refine (eqCrane_same x (some ⟨g2, 0, none⟩) (some ⟨g3, 0, none⟩) n n n _ hn2 hz ((HG4.out.si).more (Nat.succ_le_of_lt HG4.out.lt)) ((HG3.out.si).more (Nat.succ_le_of_lt HG3.out.lt))).mono ?_); rintro e y2 ⟨rfl, hb⟩; replace hA : Below w9.heap.size w9 y2 := gr_then hb (by repeat' first | exact gr_refl _ | with_reducible assumption | with_reducible apply gr_alloc | with_reducible apply gr_set | with_reducible apply gr_drew | with_reducible apply gr_drewN | exact Nat.le_add_right _ _ | exact Nat.le_refl _ | (refine gr_then (by with_reducible assumption) ?_)); clear hb))
  go_wp2
  go_returns
  exact ⟨rfl, gr_then hA HB.out⟩
end Go.Proofs.YtbdhmadgflmhmaaDoor.fnExactBoomOf
