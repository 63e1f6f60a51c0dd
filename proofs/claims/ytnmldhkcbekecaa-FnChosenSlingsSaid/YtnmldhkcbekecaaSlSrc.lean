/- The draws of slings, of loads. -/
import Derived.Test.YtnmldhkcbekecaaSrc
import Derived.Test.YtnmldhkcbekecaaAppM
import Derived.Test.YtnmldhkcbekecaaChL
import Derived.Test.YtnmldhkcbekecaaConvSling
import Derived.Test.YtnmldhkcbekecaaInts
namespace Go.Proofs.Ytnmldhkcbekecaa
open Go.RowKit Go.Deep
set_option maxHeartbeats 4000000 in
set_option maxRecDepth 20000 in
theorem drawLoad_any (p N : Nat) (w : World) (hN : N + 4 ≤ 1000000) (h : Src w p N) : Calls Try.prog 66 #[.pointer (some ⟨p, 0, none⟩)] w fun e w' => ∃ x : Int, e = .returned (.int .i64 x) ∧ I64 x ∧ Src w' p (N + 4) ∧ Only p (p + 1) w w' := by
  have H := Lib.hid h
  clear h
  go_enter Try.func66, Try.ntmps66; go_wp2_with fail
  go_at_call 67
  (with_reducible refine (one_any p _ _ _ (by omega) (i64_of (by omega)) H.out).mono ?_)
  rintro e w1 ⟨b1, rfl, hs, ho⟩
  have HS1 := Lib.hid hs
  have HO1 := Lib.hid ho
  clear hs ho
  cases b1
  · go_wp2_with fail
    go_at_call 64
    (with_reducible refine (pick_any p _ _ _ (by omega) (i64_of (by omega)) HS1.out).mono ?_)
    rintro e w2 ⟨x2, rfl, hx2, hy2, hm2, hn2, hs, ho⟩
    have HS2 := Lib.hid hs
    have HO2 := Lib.hid ho
    clear hs ho
    go_wp2
    go_returns
    exact ⟨_, rfl, i64_of (by omega), HS2.out, HO1.out.trans HO2.out⟩
  · go_wp2_with fail
    go_at_call 80
    refine (among_lit p _ [-1, 0, 50000, 50001, 9223372036854775807] 2 _ (by omega) (by simp) (by simp) (by intro x hx; simp only [List.mem_cons, List.not_mem_nil, or_false] at hx; unfold I64; omega) HS1.out).mono ?_
    rintro e w2 ⟨x2, rfl, hq, hs, ho⟩
    have HS2 := Lib.hid hs
    have HO2 := Lib.hid ho
    have HQ := Lib.hid hq
    clear hs ho hq
    go_wp2
    go_returns
    exact ⟨_, rfl, HQ.out, HS2.out, HO1.out.trans HO2.out⟩
set_option maxHeartbeats 4000000 in
set_option maxRecDepth 20000 in
theorem drawSl_any (p N : Nat) (w : World) (hN : N + 10 ≤ 1000000) (h : Src w p N) : Calls Try.prog 79 #[.pointer (some ⟨p, 0, none⟩)] w fun e w' => ∃ l s r m : Int, e = .returned (.agg #[.int .i64 l, .int .i64 s, .int .i64 r, .int .i64 m]) ∧ (I64 l ∧ I64 s ∧ I64 r ∧ I64 m) ∧ Src w' p (N + 10) ∧ Only p (p + 1) w w' := by
  have H := Lib.hid h
  clear h
  have hpl := H.out.lt
  have hb0 : Below w.heap.size w (w.alloc (.cells #[.int .i64 0, .int .i64 0, .int .i64 0, .int .i64 0] 25)) := by repeat' first | exact gr_refl _ | with_reducible assumption | with_reducible apply gr_alloc | with_reducible apply gr_set | with_reducible apply gr_drew | with_reducible apply gr_drewN | exact Nat.le_add_right _ _ | exact Nat.le_refl _ | (refine gr_then (by with_reducible assumption) ?_)
  have B0 := Lib.hid (show BI (w.alloc (.cells #[.int .i64 0, .int .i64 0, .int .i64 0, .int .i64 0] 25)) (w.heap.size) 25 [0, 0, 0, 0] from heap_alloc_new w _)
  replace H := Lib.hid (H.out.late hb0)
  have HO := Lib.hid (Only.of_below (lo := p) (hi := p + 1) hb0)
  have hz : w.heap.size + 1 ≤ (w.alloc (.cells #[.int .i64 0, .int .i64 0, .int .i64 0, .int .i64 0] 25)).heap.size := by simp
  clear hb0
  go_enter Try.func79, Try.ntmps79
  go_wp2_with fail
  generalize w.alloc (.cells #[.int .i64 0, .int .i64 0, .int .i64 0, .int .i64 0] 25) = v0 at *
  have hg0 : w.heap.size < v0.heap.size := by omega
  have hp0 : p + 1 ≤ w.heap.size := hpl
  generalize hgg : w.heap.size = g0 at *
  go_at_call 64
  (with_reducible refine (pick_any p _ _ _ (by omega) (i64_of (by omega)) H.out).mono ?_)
  rintro e w1 ⟨x1, rfl, hx1, hy1, hm1, hn1, hs, ho⟩
  have HS1 := Lib.hid hs
  have HO1 := Lib.hid ho
  clear hs ho
  have hz1 := HO1.out.size
  replace B0 := Lib.hid (B0.out.only HO1.out (by omega))
  replace HO := Lib.hid (HO.out.trans HO1.out)
  go_wp2_with fail
  go_at_call 64
  (with_reducible refine (pick_any p _ _ _ (by omega) (i64_of (by omega)) HS1.out).mono ?_)
  rintro e w2 ⟨x2, rfl, hx2, hy2, hm2, hn2, hs, ho⟩
  have HS2 := Lib.hid hs
  have HO2 := Lib.hid ho
  clear hs ho
  have hz2 := HO2.out.size
  replace B0 := Lib.hid (B0.out.only HO2.out (by omega))
  replace HO := Lib.hid (HO.out.trans HO2.out)
  go_wp2_with fail
  go_at_call 64
  (with_reducible refine (pick_any p _ _ _ (by omega) (i64_of (by omega)) HS2.out).mono ?_)
  rintro e w3 ⟨x3, rfl, hx3, hy3, hm3, hn3, hs, ho⟩
  have HS3 := Lib.hid hs
  have HO3 := Lib.hid ho
  clear hs ho
  have hz3 := HO3.out.size
  replace B0 := Lib.hid (B0.out.only HO3.out (by omega))
  replace HO := Lib.hid (HO.out.trans HO3.out)
  by_cases hL : 1 < 1 + x1
  · have hb : Below w3.heap.size w3 (w3.alloc (.cells #[.int .i64 (1 + x1), .int .i64 0, .int .i64 (1 + x2), .int .i64 x3] 25)) := gr_alloc (gr_refl _)
    have B1 := Lib.hid (show BI (w3.alloc (.cells #[.int .i64 (1 + x1), .int .i64 0, .int .i64 (1 + x2), .int .i64 x3] 25)) w3.heap.size 25 [1 + x1, 0, 1 + x2, x3] from heap_alloc_new _ _)
    replace B0 := Lib.hid (B0.out.late hb)
    replace HO := Lib.hid (HO.out.trans (Only.of_below hb))
    have hp4 : p + 1 ≤ w3.heap.size := HS3.out.lt
    have HS4 := Lib.hid (HS3.out.late hb)
    have hz4 : w3.heap.size + 1 ≤ (w3.alloc (.cells #[.int .i64 (1 + x1), .int .i64 0, .int .i64 (1 + x2), .int .i64 x3] 25)).heap.size := by simp
    clear hb
    go_wp2_with fail
    generalize w3.alloc (.cells #[.int .i64 (1 + x1), .int .i64 0, .int .i64 (1 + x2), .int .i64 x3] 25) = w4 at *
    generalize hgg4 : w3.heap.size = g1 at *
    go_at_call 64
    (with_reducible refine (pick_any p _ _ _ (by omega) (i64_of (by omega)) HS4.out).mono ?_)
    rintro e w5 ⟨x5, rfl, hx5, hy5, hm5, hn5, hs, ho⟩
    have HS5 := Lib.hid hs
    have HO5 := Lib.hid ho
    clear hs ho
    have hz5 := HO5.out.size
    replace B0 := Lib.hid (B0.out.only HO5.out (by omega))
    replace B1 := Lib.hid (B1.out.only HO5.out (by omega))
    replace HO := Lib.hid (HO.out.trans HO5.out)
    have cB1_0 := B1.out.cell 0 (by simp)
    have fB1_0 := B1.out.free 0
    have cB1_1 := B1.out.cell 1 (by simp)
    have fB1_1 := B1.out.free 1
    have cB1_2 := B1.out.cell 2 (by simp)
    have fB1_2 := B1.out.free 2
    have cB1_3 := B1.out.cell 3 (by simp)
    have fB1_3 := B1.out.free 3
    simp only [List.getD_cons_zero, List.getD_cons_succ] at cB1_0 cB1_1 cB1_2 cB1_3
    have ltB1 := B1.out.lt
    have B1' := Lib.hid (show BI (w5.setCell ⟨g1, 1, none⟩ (.int .i64 x5)) g1 _ [1 + x1, x5, 1 + x2, x3] from B1.out.put 1 x5)
    clear B1
    have B1 := B1'
    clear B1'
    replace B0 := Lib.hid (B0.out.far (p := ⟨g1, 1, none⟩) (by dsimp only; omega) (.int .i64 x5))
    replace HO := Lib.hid (HO.out.setNew (q := ⟨g1, 1, none⟩) (.int .i64 x5) (by dsimp only; omega))
    have HS6 := Lib.hid (HS5.out.setNew (q := ⟨g1, 1, none⟩) (.int .i64 x5) (by dsimp only; omega))
    have hz6 : w5.heap.size ≤ (w5.setCell ⟨g1, 1, none⟩ (.int .i64 x5)).heap.size := by simp
    go_wp2_with fail
    generalize w5.setCell ⟨g1, 1, none⟩ (.int .i64 x5) = w6 at *
    clear cB1_0 fB1_0 cB1_1 fB1_1 cB1_2 fB1_2 cB1_3 fB1_3 ltB1
    go_at_call 67
    (with_reducible refine (one_any p _ _ _ (by omega) (i64_of (by omega)) HS6.out).mono ?_)
    rintro e w7 ⟨b7, rfl, hs, ho⟩
    have HS7 := Lib.hid hs
    have HO7 := Lib.hid ho
    clear hs ho
    have hz7 := HO7.out.size
    replace B0 := Lib.hid (B0.out.only HO7.out (by omega))
    replace B1 := Lib.hid (B1.out.only HO7.out (by omega))
    replace HO := Lib.hid (HO.out.trans HO7.out)
    cases b7
    · have cB0_0 := B0.out.cell 0 (by simp)
      have fB0_0 := B0.out.free 0
      have cB0_1 := B0.out.cell 1 (by simp)
      have fB0_1 := B0.out.free 1
      have cB0_2 := B0.out.cell 2 (by simp)
      have fB0_2 := B0.out.free 2
      have cB0_3 := B0.out.cell 3 (by simp)
      have fB0_3 := B0.out.free 3
      simp only [List.getD_cons_zero, List.getD_cons_succ] at cB0_0 cB0_1 cB0_2 cB0_3
      have ltB0 := B0.out.lt
      have cB1_0 := B1.out.cell 0 (by simp)
      have fB1_0 := B1.out.free 0
      have cB1_1 := B1.out.cell 1 (by simp)
      have fB1_1 := B1.out.free 1
      have cB1_2 := B1.out.cell 2 (by simp)
      have fB1_2 := B1.out.free 2
      have cB1_3 := B1.out.cell 3 (by simp)
      have fB1_3 := B1.out.free 3
      simp only [List.getD_cons_zero, List.getD_cons_succ] at cB1_0 cB1_1 cB1_2 cB1_3
      have ltB1 := B1.out.lt
      go_wp2
      refine ret_box (g := g0) (zs := [1 + x1, x5, 1 + x2, x3]) (v := .agg #[.int .i64 (1 + x1), .int .i64 x5, .int .i64 (1 + x2), .int .i64 x3]) (by first | with_reducible exact BI.put_4 B0.out _ _ _ _ | with_reducible exact (BI.put_4 B0.out _ _ _ _).alloc _ | with_reducible exact ((BI.put_4 B0.out _ _ _ _).alloc _).alloc _) rfl ?_ ?_
      · intro W hW
        have e0 := hW.cell 0 (by simp)
        have e1 := hW.cell 1 (by simp)
        have e2 := hW.cell 2 (by simp)
        have e3 := hW.cell 3 (by simp)
        simp only [List.getD_cons_zero, List.getD_cons_succ] at e0 e1 e2 e3
        simp [results, Try.results79, go_sem, e0, e1, e2, e3]
      · exact ⟨_, _, _, _, rfl, ⟨i64_of (by omega), i64_of (by omega), i64_of (by omega), i64_of (by omega)⟩, by repeat' (first | with_reducible exact HS7.out.more (by omega) | (with_reducible refine Src.setNew ?_ _ (by dsimp only; omega)) | (with_reducible refine Src.alloc ?_ _) | (with_reducible refine Src.drewN ?_ _)), by repeat' (first | with_reducible exact HO.out | (with_reducible refine Only.setNew ?_ _ (by dsimp only; omega)) | (with_reducible refine Only.alloc ?_ _) | (with_reducible refine Only.drewN ?_) | (with_reducible refine Only.drew ?_))⟩
    · have cB0_0 := B0.out.cell 0 (by simp)
      have fB0_0 := B0.out.free 0
      have cB0_1 := B0.out.cell 1 (by simp)
      have fB0_1 := B0.out.free 1
      have cB0_2 := B0.out.cell 2 (by simp)
      have fB0_2 := B0.out.free 2
      have cB0_3 := B0.out.cell 3 (by simp)
      have fB0_3 := B0.out.free 3
      simp only [List.getD_cons_zero, List.getD_cons_succ] at cB0_0 cB0_1 cB0_2 cB0_3
      have ltB0 := B0.out.lt
      have cB1_0 := B1.out.cell 0 (by simp)
      have fB1_0 := B1.out.free 0
      have cB1_1 := B1.out.cell 1 (by simp)
      have fB1_1 := B1.out.free 1
      have cB1_2 := B1.out.cell 2 (by simp)
      have fB1_2 := B1.out.free 2
      have cB1_3 := B1.out.cell 3 (by simp)
      have fB1_3 := B1.out.free 3
      simp only [List.getD_cons_zero, List.getD_cons_succ] at cB1_0 cB1_1 cB1_2 cB1_3
      have ltB1 := B1.out.lt
      have B1' := Lib.hid (show BI (w7.setCell ⟨g1, 1, none⟩ (.int .i64 (2 * (1 + x2)))) g1 _ [1 + x1, 2 * (1 + x2), 1 + x2, x3] from B1.out.put 1 (2 * (1 + x2)))
      clear B1
      have B1 := B1'
      clear B1'
      replace B0 := Lib.hid (B0.out.far (p := ⟨g1, 1, none⟩) (by dsimp only; omega) (.int .i64 (2 * (1 + x2))))
      replace HO := Lib.hid (HO.out.setNew (q := ⟨g1, 1, none⟩) (.int .i64 (2 * (1 + x2))) (by dsimp only; omega))
      have HS8 := Lib.hid (HS7.out.setNew (q := ⟨g1, 1, none⟩) (.int .i64 (2 * (1 + x2))) (by dsimp only; omega))
      have hz8 : w7.heap.size ≤ (w7.setCell ⟨g1, 1, none⟩ (.int .i64 (2 * (1 + x2)))).heap.size := by simp
      replace cB0_0 := cB0_0
      go_wp2
      refine ret_box (g := g0) (zs := [1 + x1, 2 * (1 + x2), 1 + x2, x3]) (v := .agg #[.int .i64 (1 + x1), .int .i64 (2 * (1 + x2)), .int .i64 (1 + x2), .int .i64 x3]) (by first | with_reducible exact BI.put_4 B0.out _ _ _ _ | with_reducible exact (BI.put_4 B0.out _ _ _ _).alloc _ | with_reducible exact ((BI.put_4 B0.out _ _ _ _).alloc _).alloc _) rfl ?_ ?_
      · intro W hW
        have e0 := hW.cell 0 (by simp)
        have e1 := hW.cell 1 (by simp)
        have e2 := hW.cell 2 (by simp)
        have e3 := hW.cell 3 (by simp)
        simp only [List.getD_cons_zero, List.getD_cons_succ] at e0 e1 e2 e3
        simp [results, Try.results79, go_sem, e0, e1, e2, e3]
      · exact ⟨_, _, _, _, rfl, ⟨i64_of (by omega), i64_of (by omega), i64_of (by omega), i64_of (by omega)⟩, by repeat' (first | with_reducible exact HS8.out.more (by omega) | (with_reducible refine Src.setNew ?_ _ (by dsimp only; omega)) | (with_reducible refine Src.alloc ?_ _) | (with_reducible refine Src.drewN ?_ _)), by repeat' (first | with_reducible exact HO.out | (with_reducible refine Only.setNew ?_ _ (by dsimp only; omega)) | (with_reducible refine Only.alloc ?_ _) | (with_reducible refine Only.drewN ?_) | (with_reducible refine Only.drew ?_))⟩
  · have cB0_0 := B0.out.cell 0 (by simp)
    have fB0_0 := B0.out.free 0
    have cB0_1 := B0.out.cell 1 (by simp)
    have fB0_1 := B0.out.free 1
    have cB0_2 := B0.out.cell 2 (by simp)
    have fB0_2 := B0.out.free 2
    have cB0_3 := B0.out.cell 3 (by simp)
    have fB0_3 := B0.out.free 3
    simp only [List.getD_cons_zero, List.getD_cons_succ] at cB0_0 cB0_1 cB0_2 cB0_3
    have ltB0 := B0.out.lt
    go_wp2
    refine ret_box (g := g0) (zs := [1 + x1, 0, 1 + x2, x3]) (v := .agg #[.int .i64 (1 + x1), .int .i64 0, .int .i64 (1 + x2), .int .i64 x3]) (by first | with_reducible exact BI.put_4 B0.out _ _ _ _ | with_reducible exact (BI.put_4 B0.out _ _ _ _).alloc _ | with_reducible exact ((BI.put_4 B0.out _ _ _ _).alloc _).alloc _) rfl ?_ ?_
    · intro W hW
      have e0 := hW.cell 0 (by simp)
      have e1 := hW.cell 1 (by simp)
      have e2 := hW.cell 2 (by simp)
      have e3 := hW.cell 3 (by simp)
      simp only [List.getD_cons_zero, List.getD_cons_succ] at e0 e1 e2 e3
      simp [results, Try.results79, go_sem, e0, e1, e2, e3]
    · exact ⟨_, _, _, _, rfl, ⟨i64_of (by omega), i64_of (by omega), i64_of (by omega), i64_of (by omega)⟩, by repeat' (first | with_reducible exact HS3.out.more (by omega) | (with_reducible refine Src.setNew ?_ _ (by dsimp only; omega)) | (with_reducible refine Src.alloc ?_ _) | (with_reducible refine Src.drewN ?_ _)), by repeat' (first | with_reducible exact HO.out | (with_reducible refine Only.setNew ?_ _ (by dsimp only; omega)) | (with_reducible refine Only.alloc ?_ _) | (with_reducible refine Only.drewN ?_) | (with_reducible refine Only.drew ?_))⟩
set_option maxHeartbeats 8000000 in
set_option maxRecDepth 20000 in
theorem bentSl_any (p N : Nat) (w : World) (hN : N + 14 ≤ 1000000) (h : Src w p N) : Calls Try.prog 65 #[.pointer (some ⟨p, 0, none⟩)] w fun e w' => ∃ l s r m : Int, e = .returned (.agg #[.int .i64 l, .int .i64 s, .int .i64 r, .int .i64 m]) ∧ (I64 l ∧ I64 s ∧ I64 r ∧ I64 m) ∧ Src w' p (N + 14) ∧ Only p (p + 1) w w' := by
  have H := Lib.hid h
  clear h
  have hpl := H.out.lt
  have hb0 : Below w.heap.size w (w.alloc (.cells #[.int .i64 0, .int .i64 0, .int .i64 0, .int .i64 0] 25)) := by repeat' first | exact gr_refl _ | with_reducible assumption | with_reducible apply gr_alloc | with_reducible apply gr_set | with_reducible apply gr_drew | with_reducible apply gr_drewN | exact Nat.le_add_right _ _ | exact Nat.le_refl _ | (refine gr_then (by with_reducible assumption) ?_)
  have B0 := Lib.hid (show BI (w.alloc (.cells #[.int .i64 0, .int .i64 0, .int .i64 0, .int .i64 0] 25)) (w.heap.size) 25 [0, 0, 0, 0] from heap_alloc_new w _)
  replace H := Lib.hid (H.out.late hb0)
  have HO := Lib.hid (Only.of_below (lo := p) (hi := p + 1) hb0)
  have hz : w.heap.size + 1 ≤ (w.alloc (.cells #[.int .i64 0, .int .i64 0, .int .i64 0, .int .i64 0] 25)).heap.size := by simp
  clear hb0
  go_enter Try.func65, Try.ntmps65
  go_wp2_with fail
  generalize w.alloc (.cells #[.int .i64 0, .int .i64 0, .int .i64 0, .int .i64 0] 25) = v0 at *
  have hg0 : w.heap.size < v0.heap.size := by omega
  have hp0 : p + 1 ≤ w.heap.size := hpl
  generalize hgg : w.heap.size = g0 at *
  go_at_call 79
  (with_reducible refine (drawSl_any p _ _ (by omega) H.out).mono ?_)
  rintro e w1 ⟨l, s, r, m, rfl, hq, hs, ho⟩
  have HS1 := Lib.hid hs
  have HO1 := Lib.hid ho
  clear hs ho
  have hz1 := HO1.out.size
  replace B0 := Lib.hid (B0.out.only HO1.out (by omega))
  replace HO := Lib.hid (HO.out.trans HO1.out)
  have HQ := Lib.hid hq
  clear hq
  have hb : Below w1.heap.size w1 (w1.alloc (.cells #[.int .i64 l, .int .i64 s, .int .i64 r, .int .i64 m] 25)) := gr_alloc (gr_refl _)
  have B1 := Lib.hid (show BI (w1.alloc (.cells #[.int .i64 l, .int .i64 s, .int .i64 r, .int .i64 m] 25)) w1.heap.size 25 [l, s, r, m] from heap_alloc_new _ _)
  replace B0 := Lib.hid (B0.out.late hb)
  replace HO := Lib.hid (HO.out.trans (Only.of_below hb))
  have hp2 : p + 1 ≤ w1.heap.size := HS1.out.lt
  have HS2 := Lib.hid (HS1.out.late hb)
  have hz2 : w1.heap.size + 1 ≤ (w1.alloc (.cells #[.int .i64 l, .int .i64 s, .int .i64 r, .int .i64 m] 25)).heap.size := by simp
  clear hb
  go_wp2_with fail
  generalize w1.alloc (.cells #[.int .i64 l, .int .i64 s, .int .i64 r, .int .i64 m] 25) = w2 at *
  generalize hgg2 : w1.heap.size = g1 at *
  go_at_call 64
  (with_reducible refine (pick_any p _ _ _ (by omega) (i64_of (by omega)) HS2.out).mono ?_)
  rintro e w3 ⟨x3, rfl, hx3, hy3, hm3, hn3, hs, ho⟩
  have HS3 := Lib.hid hs
  have HO3 := Lib.hid ho
  clear hs ho
  have hz3 := HO3.out.size
  replace B0 := Lib.hid (B0.out.only HO3.out (by omega))
  replace B1 := Lib.hid (B1.out.only HO3.out (by omega))
  replace HO := Lib.hid (HO.out.trans HO3.out)
  by_cases hc0 : x3 = 0
  · subst hc0
    go_wp2_with fail
    go_at_call 80
    refine (among_lit p _ [0, 1, 4, 5] 2 _ (by omega) (by simp) (by simp) (by intro x hx; simp only [List.mem_cons, List.not_mem_nil, or_false] at hx; unfold I64; omega) HS3.out).mono ?_
    rintro e w4 ⟨x4, rfl, hq4, hs, ho⟩
    have HS4 := Lib.hid hs
    have HO4 := Lib.hid ho
    clear hs ho
    have hz4 := HO4.out.size
    replace B0 := Lib.hid (B0.out.only HO4.out (by omega))
    replace B1 := Lib.hid (B1.out.only HO4.out (by omega))
    replace HO := Lib.hid (HO.out.trans HO4.out)
    have HQ4 := Lib.hid hq4
    clear hq4
    have cB0_0 := B0.out.cell 0 (by simp)
    have fB0_0 := B0.out.free 0
    have cB0_1 := B0.out.cell 1 (by simp)
    have fB0_1 := B0.out.free 1
    have cB0_2 := B0.out.cell 2 (by simp)
    have fB0_2 := B0.out.free 2
    have cB0_3 := B0.out.cell 3 (by simp)
    have fB0_3 := B0.out.free 3
    simp only [List.getD_cons_zero, List.getD_cons_succ] at cB0_0 cB0_1 cB0_2 cB0_3
    have ltB0 := B0.out.lt
    have cB1_0 := B1.out.cell 0 (by simp)
    have fB1_0 := B1.out.free 0
    have cB1_1 := B1.out.cell 1 (by simp)
    have fB1_1 := B1.out.free 1
    have cB1_2 := B1.out.cell 2 (by simp)
    have fB1_2 := B1.out.free 2
    have cB1_3 := B1.out.cell 3 (by simp)
    have fB1_3 := B1.out.free 3
    simp only [List.getD_cons_zero, List.getD_cons_succ] at cB1_0 cB1_1 cB1_2 cB1_3
    have ltB1 := B1.out.lt
    have B1' := Lib.hid (show BI (w4.setCell ⟨g1, 0, none⟩ (.int .i64 x4)) g1 _ [x4, s, r, m] from B1.out.put 0 x4)
    clear B1
    have B1 := B1'
    clear B1'
    replace B0 := Lib.hid (B0.out.far (p := ⟨g1, 0, none⟩) (by dsimp only; omega) (.int .i64 x4))
    replace HO := Lib.hid (HO.out.setNew (q := ⟨g1, 0, none⟩) (.int .i64 x4) (by dsimp only; omega))
    have HS5 := Lib.hid (HS4.out.setNew (q := ⟨g1, 0, none⟩) (.int .i64 x4) (by dsimp only; omega))
    have hz5 : w4.heap.size ≤ (w4.setCell ⟨g1, 0, none⟩ (.int .i64 x4)).heap.size := by simp
    go_wp2
    refine ret_box (g := g0) (zs := [x4, s, r, m]) (v := .agg #[.int .i64 x4, .int .i64 s, .int .i64 r, .int .i64 m]) (by first | with_reducible exact BI.put_4 B0.out _ _ _ _ | with_reducible exact (BI.put_4 B0.out _ _ _ _).alloc _ | with_reducible exact ((BI.put_4 B0.out _ _ _ _).alloc _).alloc _) rfl ?_ ?_
    · intro W hW
      have e0 := hW.cell 0 (by simp)
      have e1 := hW.cell 1 (by simp)
      have e2 := hW.cell 2 (by simp)
      have e3 := hW.cell 3 (by simp)
      simp only [List.getD_cons_zero, List.getD_cons_succ] at e0 e1 e2 e3
      simp [results, Try.results65, go_sem, e0, e1, e2, e3]
    · exact ⟨_, _, _, _, rfl, ⟨HQ4.out, HQ.out.2.1, HQ.out.2.2.1, HQ.out.2.2.2⟩, by repeat' (first | with_reducible exact HS5.out.more (by omega) | (with_reducible refine Src.setNew ?_ _ (by dsimp only; omega)) | (with_reducible refine Src.alloc ?_ _) | (with_reducible refine Src.drewN ?_ _)), by repeat' (first | with_reducible exact HO.out | (with_reducible refine Only.setNew ?_ _ (by dsimp only; omega)) | (with_reducible refine Only.alloc ?_ _) | (with_reducible refine Only.drewN ?_) | (with_reducible refine Only.drew ?_))⟩
  have hd0 : (x3 == 0) = false := beq_eq_false_iff_ne.2 hc0
  by_cases hc1 : x3 = 1
  · subst hc1
    go_wp2_with fail
    go_at_call 80
    refine (among_lit p _ [-1, 0, 400, 401, -9223372036854775808] 2 _ (by omega) (by simp) (by simp) (by intro x hx; simp only [List.mem_cons, List.not_mem_nil, or_false] at hx; unfold I64; omega) HS3.out).mono ?_
    rintro e w4 ⟨x4, rfl, hq4, hs, ho⟩
    have HS4 := Lib.hid hs
    have HO4 := Lib.hid ho
    clear hs ho
    have hz4 := HO4.out.size
    replace B0 := Lib.hid (B0.out.only HO4.out (by omega))
    replace B1 := Lib.hid (B1.out.only HO4.out (by omega))
    replace HO := Lib.hid (HO.out.trans HO4.out)
    have HQ4 := Lib.hid hq4
    clear hq4
    have cB0_0 := B0.out.cell 0 (by simp)
    have fB0_0 := B0.out.free 0
    have cB0_1 := B0.out.cell 1 (by simp)
    have fB0_1 := B0.out.free 1
    have cB0_2 := B0.out.cell 2 (by simp)
    have fB0_2 := B0.out.free 2
    have cB0_3 := B0.out.cell 3 (by simp)
    have fB0_3 := B0.out.free 3
    simp only [List.getD_cons_zero, List.getD_cons_succ] at cB0_0 cB0_1 cB0_2 cB0_3
    have ltB0 := B0.out.lt
    have cB1_0 := B1.out.cell 0 (by simp)
    have fB1_0 := B1.out.free 0
    have cB1_1 := B1.out.cell 1 (by simp)
    have fB1_1 := B1.out.free 1
    have cB1_2 := B1.out.cell 2 (by simp)
    have fB1_2 := B1.out.free 2
    have cB1_3 := B1.out.cell 3 (by simp)
    have fB1_3 := B1.out.free 3
    simp only [List.getD_cons_zero, List.getD_cons_succ] at cB1_0 cB1_1 cB1_2 cB1_3
    have ltB1 := B1.out.lt
    have B1' := Lib.hid (show BI (w4.setCell ⟨g1, 1, none⟩ (.int .i64 x4)) g1 _ [l, x4, r, m] from B1.out.put 1 x4)
    clear B1
    have B1 := B1'
    clear B1'
    replace B0 := Lib.hid (B0.out.far (p := ⟨g1, 1, none⟩) (by dsimp only; omega) (.int .i64 x4))
    replace HO := Lib.hid (HO.out.setNew (q := ⟨g1, 1, none⟩) (.int .i64 x4) (by dsimp only; omega))
    have HS5 := Lib.hid (HS4.out.setNew (q := ⟨g1, 1, none⟩) (.int .i64 x4) (by dsimp only; omega))
    have hz5 : w4.heap.size ≤ (w4.setCell ⟨g1, 1, none⟩ (.int .i64 x4)).heap.size := by simp
    go_wp2
    refine ret_box (g := g0) (zs := [l, x4, r, m]) (v := .agg #[.int .i64 l, .int .i64 x4, .int .i64 r, .int .i64 m]) (by first | with_reducible exact BI.put_4 B0.out _ _ _ _ | with_reducible exact (BI.put_4 B0.out _ _ _ _).alloc _ | with_reducible exact ((BI.put_4 B0.out _ _ _ _).alloc _).alloc _) rfl ?_ ?_
    · intro W hW
      have e0 := hW.cell 0 (by simp)
      have e1 := hW.cell 1 (by simp)
      have e2 := hW.cell 2 (by simp)
      have e3 := hW.cell 3 (by simp)
      simp only [List.getD_cons_zero, List.getD_cons_succ] at e0 e1 e2 e3
      simp [results, Try.results65, go_sem, e0, e1, e2, e3]
    · exact ⟨_, _, _, _, rfl, ⟨HQ.out.1, HQ4.out, HQ.out.2.2.1, HQ.out.2.2.2⟩, by repeat' (first | with_reducible exact HS5.out.more (by omega) | (with_reducible refine Src.setNew ?_ _ (by dsimp only; omega)) | (with_reducible refine Src.alloc ?_ _) | (with_reducible refine Src.drewN ?_ _)), by repeat' (first | with_reducible exact HO.out | (with_reducible refine Only.setNew ?_ _ (by dsimp only; omega)) | (with_reducible refine Only.alloc ?_ _) | (with_reducible refine Only.drewN ?_) | (with_reducible refine Only.drew ?_))⟩
  have hd1 : (x3 == 1) = false := beq_eq_false_iff_ne.2 hc1
  by_cases hc2 : x3 = 2
  · subst hc2
    go_wp2_with fail
    go_at_call 80
    refine (among_lit p _ [0, 1, 400, 401] 2 _ (by omega) (by simp) (by simp) (by intro x hx; simp only [List.mem_cons, List.not_mem_nil, or_false] at hx; unfold I64; omega) HS3.out).mono ?_
    rintro e w4 ⟨x4, rfl, hq4, hs, ho⟩
    have HS4 := Lib.hid hs
    have HO4 := Lib.hid ho
    clear hs ho
    have hz4 := HO4.out.size
    replace B0 := Lib.hid (B0.out.only HO4.out (by omega))
    replace B1 := Lib.hid (B1.out.only HO4.out (by omega))
    replace HO := Lib.hid (HO.out.trans HO4.out)
    have HQ4 := Lib.hid hq4
    clear hq4
    have cB0_0 := B0.out.cell 0 (by simp)
    have fB0_0 := B0.out.free 0
    have cB0_1 := B0.out.cell 1 (by simp)
    have fB0_1 := B0.out.free 1
    have cB0_2 := B0.out.cell 2 (by simp)
    have fB0_2 := B0.out.free 2
    have cB0_3 := B0.out.cell 3 (by simp)
    have fB0_3 := B0.out.free 3
    simp only [List.getD_cons_zero, List.getD_cons_succ] at cB0_0 cB0_1 cB0_2 cB0_3
    have ltB0 := B0.out.lt
    have cB1_0 := B1.out.cell 0 (by simp)
    have fB1_0 := B1.out.free 0
    have cB1_1 := B1.out.cell 1 (by simp)
    have fB1_1 := B1.out.free 1
    have cB1_2 := B1.out.cell 2 (by simp)
    have fB1_2 := B1.out.free 2
    have cB1_3 := B1.out.cell 3 (by simp)
    have fB1_3 := B1.out.free 3
    simp only [List.getD_cons_zero, List.getD_cons_succ] at cB1_0 cB1_1 cB1_2 cB1_3
    have ltB1 := B1.out.lt
    have B1' := Lib.hid (show BI (w4.setCell ⟨g1, 2, none⟩ (.int .i64 x4)) g1 _ [l, s, x4, m] from B1.out.put 2 x4)
    clear B1
    have B1 := B1'
    clear B1'
    replace B0 := Lib.hid (B0.out.far (p := ⟨g1, 2, none⟩) (by dsimp only; omega) (.int .i64 x4))
    replace HO := Lib.hid (HO.out.setNew (q := ⟨g1, 2, none⟩) (.int .i64 x4) (by dsimp only; omega))
    have HS5 := Lib.hid (HS4.out.setNew (q := ⟨g1, 2, none⟩) (.int .i64 x4) (by dsimp only; omega))
    have hz5 : w4.heap.size ≤ (w4.setCell ⟨g1, 2, none⟩ (.int .i64 x4)).heap.size := by simp
    go_wp2
    refine ret_box (g := g0) (zs := [l, s, x4, m]) (v := .agg #[.int .i64 l, .int .i64 s, .int .i64 x4, .int .i64 m]) (by first | with_reducible exact BI.put_4 B0.out _ _ _ _ | with_reducible exact (BI.put_4 B0.out _ _ _ _).alloc _ | with_reducible exact ((BI.put_4 B0.out _ _ _ _).alloc _).alloc _) rfl ?_ ?_
    · intro W hW
      have e0 := hW.cell 0 (by simp)
      have e1 := hW.cell 1 (by simp)
      have e2 := hW.cell 2 (by simp)
      have e3 := hW.cell 3 (by simp)
      simp only [List.getD_cons_zero, List.getD_cons_succ] at e0 e1 e2 e3
      simp [results, Try.results65, go_sem, e0, e1, e2, e3]
    · exact ⟨_, _, _, _, rfl, ⟨HQ.out.1, HQ.out.2.1, HQ4.out, HQ.out.2.2.2⟩, by repeat' (first | with_reducible exact HS5.out.more (by omega) | (with_reducible refine Src.setNew ?_ _ (by dsimp only; omega)) | (with_reducible refine Src.alloc ?_ _) | (with_reducible refine Src.drewN ?_ _)), by repeat' (first | with_reducible exact HO.out | (with_reducible refine Only.setNew ?_ _ (by dsimp only; omega)) | (with_reducible refine Only.alloc ?_ _) | (with_reducible refine Only.drewN ?_) | (with_reducible refine Only.drew ?_))⟩
  have hd2 : (x3 == 2) = false := beq_eq_false_iff_ne.2 hc2
  by_cases hc3 : x3 = 3
  · subst hc3
    go_wp2_with fail
    go_at_call 80
    refine (among_lit p _ [-1, 0, 1000, 1001] 2 _ (by omega) (by simp) (by simp) (by intro x hx; simp only [List.mem_cons, List.not_mem_nil, or_false] at hx; unfold I64; omega) HS3.out).mono ?_
    rintro e w4 ⟨x4, rfl, hq4, hs, ho⟩
    have HS4 := Lib.hid hs
    have HO4 := Lib.hid ho
    clear hs ho
    have hz4 := HO4.out.size
    replace B0 := Lib.hid (B0.out.only HO4.out (by omega))
    replace B1 := Lib.hid (B1.out.only HO4.out (by omega))
    replace HO := Lib.hid (HO.out.trans HO4.out)
    have HQ4 := Lib.hid hq4
    clear hq4
    have cB0_0 := B0.out.cell 0 (by simp)
    have fB0_0 := B0.out.free 0
    have cB0_1 := B0.out.cell 1 (by simp)
    have fB0_1 := B0.out.free 1
    have cB0_2 := B0.out.cell 2 (by simp)
    have fB0_2 := B0.out.free 2
    have cB0_3 := B0.out.cell 3 (by simp)
    have fB0_3 := B0.out.free 3
    simp only [List.getD_cons_zero, List.getD_cons_succ] at cB0_0 cB0_1 cB0_2 cB0_3
    have ltB0 := B0.out.lt
    have cB1_0 := B1.out.cell 0 (by simp)
    have fB1_0 := B1.out.free 0
    have cB1_1 := B1.out.cell 1 (by simp)
    have fB1_1 := B1.out.free 1
    have cB1_2 := B1.out.cell 2 (by simp)
    have fB1_2 := B1.out.free 2
    have cB1_3 := B1.out.cell 3 (by simp)
    have fB1_3 := B1.out.free 3
    simp only [List.getD_cons_zero, List.getD_cons_succ] at cB1_0 cB1_1 cB1_2 cB1_3
    have ltB1 := B1.out.lt
    have B1' := Lib.hid (show BI (w4.setCell ⟨g1, 3, none⟩ (.int .i64 x4)) g1 _ [l, s, r, x4] from B1.out.put 3 x4)
    clear B1
    have B1 := B1'
    clear B1'
    replace B0 := Lib.hid (B0.out.far (p := ⟨g1, 3, none⟩) (by dsimp only; omega) (.int .i64 x4))
    replace HO := Lib.hid (HO.out.setNew (q := ⟨g1, 3, none⟩) (.int .i64 x4) (by dsimp only; omega))
    have HS5 := Lib.hid (HS4.out.setNew (q := ⟨g1, 3, none⟩) (.int .i64 x4) (by dsimp only; omega))
    have hz5 : w4.heap.size ≤ (w4.setCell ⟨g1, 3, none⟩ (.int .i64 x4)).heap.size := by simp
    go_wp2
    refine ret_box (g := g0) (zs := [l, s, r, x4]) (v := .agg #[.int .i64 l, .int .i64 s, .int .i64 r, .int .i64 x4]) (by first | with_reducible exact BI.put_4 B0.out _ _ _ _ | with_reducible exact (BI.put_4 B0.out _ _ _ _).alloc _ | with_reducible exact ((BI.put_4 B0.out _ _ _ _).alloc _).alloc _) rfl ?_ ?_
    · intro W hW
      have e0 := hW.cell 0 (by simp)
      have e1 := hW.cell 1 (by simp)
      have e2 := hW.cell 2 (by simp)
      have e3 := hW.cell 3 (by simp)
      simp only [List.getD_cons_zero, List.getD_cons_succ] at e0 e1 e2 e3
      simp [results, Try.results65, go_sem, e0, e1, e2, e3]
    · exact ⟨_, _, _, _, rfl, ⟨HQ.out.1, HQ.out.2.1, HQ.out.2.2.1, HQ4.out⟩, by repeat' (first | with_reducible exact HS5.out.more (by omega) | (with_reducible refine Src.setNew ?_ _ (by dsimp only; omega)) | (with_reducible refine Src.alloc ?_ _) | (with_reducible refine Src.drewN ?_ _)), by repeat' (first | with_reducible exact HO.out | (with_reducible refine Only.setNew ?_ _ (by dsimp only; omega)) | (with_reducible refine Only.alloc ?_ _) | (with_reducible refine Only.drewN ?_) | (with_reducible refine Only.drew ?_))⟩
  have hd3 : (x3 == 3) = false := beq_eq_false_iff_ne.2 hc3
  have cB0_0 := B0.out.cell 0 (by simp)
  have fB0_0 := B0.out.free 0
  have cB0_1 := B0.out.cell 1 (by simp)
  have fB0_1 := B0.out.free 1
  have cB0_2 := B0.out.cell 2 (by simp)
  have fB0_2 := B0.out.free 2
  have cB0_3 := B0.out.cell 3 (by simp)
  have fB0_3 := B0.out.free 3
  simp only [List.getD_cons_zero, List.getD_cons_succ] at cB0_0 cB0_1 cB0_2 cB0_3
  have ltB0 := B0.out.lt
  have cB1_0 := B1.out.cell 0 (by simp)
  have fB1_0 := B1.out.free 0
  have cB1_1 := B1.out.cell 1 (by simp)
  have fB1_1 := B1.out.free 1
  have cB1_2 := B1.out.cell 2 (by simp)
  have fB1_2 := B1.out.free 2
  have cB1_3 := B1.out.cell 3 (by simp)
  have fB1_3 := B1.out.free 3
  simp only [List.getD_cons_zero, List.getD_cons_succ] at cB1_0 cB1_1 cB1_2 cB1_3
  have ltB1 := B1.out.lt
  go_wp2
  refine ret_box (g := g0) (zs := [l, s, r, m]) (v := .agg #[.int .i64 l, .int .i64 s, .int .i64 r, .int .i64 m]) (by first | with_reducible exact BI.put_4 B0.out _ _ _ _ | with_reducible exact (BI.put_4 B0.out _ _ _ _).alloc _ | with_reducible exact ((BI.put_4 B0.out _ _ _ _).alloc _).alloc _) rfl ?_ ?_
  · intro W hW
    have e0 := hW.cell 0 (by simp)
    have e1 := hW.cell 1 (by simp)
    have e2 := hW.cell 2 (by simp)
    have e3 := hW.cell 3 (by simp)
    simp only [List.getD_cons_zero, List.getD_cons_succ] at e0 e1 e2 e3
    simp [results, Try.results65, go_sem, e0, e1, e2, e3]
  · exact ⟨_, _, _, _, rfl, HQ.out, by repeat' (first | with_reducible exact HS3.out.more (by omega) | (with_reducible refine Src.setNew ?_ _ (by dsimp only; omega)) | (with_reducible refine Src.alloc ?_ _) | (with_reducible refine Src.drewN ?_ _)), by repeat' (first | with_reducible exact HO.out | (with_reducible refine Only.setNew ?_ _ (by dsimp only; omega)) | (with_reducible refine Only.alloc ?_ _) | (with_reducible refine Only.drewN ?_) | (with_reducible refine Only.drew ?_))⟩
set_option maxHeartbeats 4000000 in
set_option maxRecDepth 20000 in
theorem askSl_any (A : Option Addr) (c : Nat) (bs : List Int) (w : World) (hn : bs.length ≤ 1048576) (hq : ∀ x ∈ bs, U8 x) (h : SV (.int .u8) w w.heap.size A bs) : Calls Try.prog 68 #[.slice A bs.length c] w fun e w' => ∃ l s r m k : Int, e = .returned (.tuple #[.agg #[.int .i64 l, .int .i64 s, .int .i64 r, .int .i64 m], .int .i64 k]) ∧ (I64 l ∧ I64 s ∧ I64 r ∧ I64 m ∧ I64 k) ∧ Below w.heap.size w w' := by
  have H := Lib.hid h
  have HQ := Lib.hid hq
  clear h hq
  have hb0 : Below w.heap.size w (w.alloc (.cells #[.int .i64 0, .int .i64 0, .int .i64 0, .int .i64 0] 25)) := by repeat' first | exact gr_refl _ | with_reducible assumption | with_reducible apply gr_alloc | with_reducible apply gr_set | with_reducible apply gr_drew | with_reducible apply gr_drewN | exact Nat.le_add_right _ _ | exact Nat.le_refl _ | (refine gr_then (by with_reducible assumption) ?_)
  have B0 := Lib.hid (show BI (w.alloc (.cells #[.int .i64 0, .int .i64 0, .int .i64 0, .int .i64 0] 25)) (w.heap.size) 25 [0, 0, 0, 0] from heap_alloc_new w _)
  replace H := Lib.hid (H.out.later hb0)
  have HB := Lib.hid hb0
  have hz : w.heap.size + 1 ≤ (w.alloc (.cells #[.int .i64 0, .int .i64 0, .int .i64 0, .int .i64 0] 25)).heap.size := by simp
  clear hb0
  go_enter Try.func68, Try.ntmps68
  go_wp2_with fail
  generalize w.alloc (.cells #[.int .i64 0, .int .i64 0, .int .i64 0, .int .i64 0] 25) = v0 at *
  have hg0 : w.heap.size < v0.heap.size := by omega
  go_at_call 63
  (with_reducible refine (from_any _ _ bs _ hn HQ.out H.out).mono ?_)
  rintro e w1 ⟨rfl, hs, hb⟩
  have HS1 := Lib.hid hs
  have hpl := hs.lt
  have hz1 := hb.size
  replace B0 := Lib.hid (B0.out.late hb)
  replace H := Lib.hid (H.out.later hb)
  replace HB := Lib.hid (gr_then hb HB.out)
  clear hs hb
  have HO := Lib.hid (Only.refl v0.heap.size (v0.heap.size + 1) w1)
  have hwp : w.heap.size ≤ v0.heap.size := by omega
  generalize hpp : v0.heap.size = p at *
  go_wp2_with fail
  go_at_call 65
  (with_reducible refine (bentSl_any p _ _ (by omega) HS1.out).mono ?_)
  rintro e w2 ⟨l, s, r, m, rfl, hq, hs, ho⟩
  have HS2 := Lib.hid hs
  have HO2 := Lib.hid ho
  clear hs ho
  have hz2 := HO2.out.size
  replace B0 := Lib.hid (B0.out.only HO2.out (by omega))
  replace HO := Lib.hid (HO.out.trans HO2.out)
  have HQ1 := Lib.hid hq
  clear hq
  have hb : Below w2.heap.size w2 (w2.alloc (.cells #[.int .i64 l, .int .i64 s, .int .i64 r, .int .i64 m] 25)) := gr_alloc (gr_refl _)
  have B1 := Lib.hid (show BI (w2.alloc (.cells #[.int .i64 l, .int .i64 s, .int .i64 r, .int .i64 m] 25)) w2.heap.size 25 [l, s, r, m] from heap_alloc_new _ _)
  replace B0 := Lib.hid (B0.out.late hb)
  replace HO := Lib.hid (HO.out.trans (Only.of_below hb))
  have hp3 : p + 1 ≤ w2.heap.size := HS2.out.lt
  have HS3 := Lib.hid (HS2.out.late hb)
  have hz3 : w2.heap.size + 1 ≤ (w2.alloc (.cells #[.int .i64 l, .int .i64 s, .int .i64 r, .int .i64 m] 25)).heap.size := by simp
  clear hb
  go_wp2_with fail
  generalize w2.alloc (.cells #[.int .i64 l, .int .i64 s, .int .i64 r, .int .i64 m] 25) = w3 at *
  generalize hgg3 : w2.heap.size = g1 at *
  have cB1_0 := B1.out.cell 0 (by simp)
  have fB1_0 := B1.out.free 0
  have cB1_1 := B1.out.cell 1 (by simp)
  have fB1_1 := B1.out.free 1
  have cB1_2 := B1.out.cell 2 (by simp)
  have fB1_2 := B1.out.free 2
  have cB1_3 := B1.out.cell 3 (by simp)
  have fB1_3 := B1.out.free 3
  simp only [List.getD_cons_zero, List.getD_cons_succ] at cB1_0 cB1_1 cB1_2 cB1_3
  have ltB1 := B1.out.lt
  have cB0_0 := B0.out.cell 0 (by simp)
  have fB0_0 := B0.out.free 0
  have cB0_1 := B0.out.cell 1 (by simp)
  have fB0_1 := B0.out.free 1
  have cB0_2 := B0.out.cell 2 (by simp)
  have fB0_2 := B0.out.free 2
  have cB0_3 := B0.out.cell 3 (by simp)
  have fB0_3 := B0.out.free 3
  simp only [List.getD_cons_zero, List.getD_cons_succ] at cB0_0 cB0_1 cB0_2 cB0_3
  have ltB0 := B0.out.lt
  go_region_held3 (fun w' => w'.cell? ⟨g1, 0, none⟩ = some (.int .i64 l) ∧ w'.cell? ⟨g1, 1, none⟩ = some (.int .i64 s) ∧ w'.cell? ⟨g1, 2, none⟩ = some (.int .i64 r) ∧ w'.cell? ⟨g1, 3, none⟩ = some (.int .i64 m)) (first | with_reducible exact ⟨cB1_0, cB1_1, cB1_2, cB1_3⟩ | with_reducible exact ⟨drewc cB1_0, drewc cB1_1, drewc cB1_2, drewc cB1_3⟩ | with_reducible exact ⟨(ho.keepc (by omega) cB1_0), (ho.keepc (by omega) cB1_1), (ho.keepc (by omega) cB1_2), (ho.keepc (by omega) cB1_3)⟩ | with_reducible exact ⟨(setfar (p := ⟨_, 3, none⟩) (setfar (p := ⟨_, 2, none⟩) (setfar (p := ⟨_, 1, none⟩) (setfar (p := ⟨_, 0, none⟩) (ho.keepc (by omega) cB1_0) (by dsimp only; omega)) (by dsimp only; omega)) (by dsimp only; omega)) (by dsimp only; omega)), (setfar (p := ⟨_, 3, none⟩) (setfar (p := ⟨_, 2, none⟩) (setfar (p := ⟨_, 1, none⟩) (setfar (p := ⟨_, 0, none⟩) (ho.keepc (by omega) cB1_1) (by dsimp only; omega)) (by dsimp only; omega)) (by dsimp only; omega)) (by dsimp only; omega)), (setfar (p := ⟨_, 3, none⟩) (setfar (p := ⟨_, 2, none⟩) (setfar (p := ⟨_, 1, none⟩) (setfar (p := ⟨_, 0, none⟩) (ho.keepc (by omega) cB1_2) (by dsimp only; omega)) (by dsimp only; omega)) (by dsimp only; omega)) (by dsimp only; omega)), (setfar (p := ⟨_, 3, none⟩) (setfar (p := ⟨_, 2, none⟩) (setfar (p := ⟨_, 1, none⟩) (setfar (p := ⟨_, 0, none⟩) (ho.keepc (by omega) cB1_3) (by dsimp only; omega)) (by dsimp only; omega)) (by dsimp only; omega)) (by dsimp only; omega))⟩) (first | (go_at_call 66; (with_reducible refine (drawLoad_any p _ _ (by omega) HS3.out.drew).mono ?_); rintro e w4 ⟨k, rfl, hk, hs, ho'⟩; have ho := (Only.drew (Only.refl p (p + 1) w3)).trans ho'; clear ho'; have z4 := ho.size; have d0 := ho.keepc (by omega) cB0_0; have m0 := (B0.out.only ho (by omega)).free 0; have d1 := ho.keepc (by omega) cB0_1; have m1 := (B0.out.only ho (by omega)).free 1; have d2 := ho.keepc (by omega) cB0_2; have m2 := (B0.out.only ho (by omega)).free 2; have d3 := ho.keepc (by omega) cB0_3; have m3 := (B0.out.only ho (by omega)).free 3; have HS4 := Lib.hid hs; have HO4 := Lib.hid ho))
  have hz4 := HO4.out.size
  replace B0 := Lib.hid (B0.out.only HO4.out (by omega))
  replace B1 := Lib.hid (B1.out.only HO4.out (by omega))
  replace HO := Lib.hid (HO.out.trans HO4.out)
  have HK := Lib.hid hk
  have HZ := Lib.hid (Only.after HB.out HO.out (by omega) (by omega))
  go_wp2
  refine ret_box (g := w.heap.size) (zs := [l, s, r, m]) (v := .tuple #[.agg #[.int .i64 l, .int .i64 s, .int .i64 r, .int .i64 m], .int .i64 k]) (by first | with_reducible exact BI.put_4 B0.out _ _ _ _ | with_reducible exact (BI.put_4 B0.out _ _ _ _).alloc _ | with_reducible exact ((BI.put_4 B0.out _ _ _ _).alloc _).alloc _) rfl ?_ ?_
  · intro W hW
    have e0 := hW.cell 0 (by simp)
    have e1 := hW.cell 1 (by simp)
    have e2 := hW.cell 2 (by simp)
    have e3 := hW.cell 3 (by simp)
    simp only [List.getD_cons_zero, List.getD_cons_succ] at e0 e1 e2 e3
    simp [results, Try.results68, go_sem, e0, e1, e2, e3]
  · exact ⟨_, _, _, _, _, rfl, ⟨HQ1.out.1, HQ1.out.2.1, HQ1.out.2.2.1, HQ1.out.2.2.2, HK.out⟩, by repeat' (first | with_reducible exact HZ.out | (with_reducible refine gr_set (by dsimp only; omega) ?_) | (with_reducible refine gr_alloc ?_) | (with_reducible refine gr_drewN ?_) | (with_reducible refine gr_drew ?_))⟩
set_option maxHeartbeats 4000000 in
set_option maxRecDepth 20000 in
theorem drawGw_any (A : Option Addr) (c : Nat) (bs : List Int) (w : World) (hn : bs.length ≤ 1048576) (hq : ∀ x ∈ bs, U8 x) (h : SV (.int .u8) w w.heap.size A bs) : Calls Try.prog 40 #[.slice A bs.length c] w fun e w' => ∃ l s r m k : Int, e = .returned (.tuple #[.agg #[.int .i64 l, .int .i64 s, .int .i64 r, .int .i64 m], .int .i64 k]) ∧ (I64 l ∧ I64 s ∧ I64 r ∧ I64 m ∧ I64 k) ∧ Below w.heap.size w w' := by
  have H := Lib.hid h
  have HQ := Lib.hid hq
  clear h hq
  have hb0 : Below w.heap.size w (w.alloc (.cells #[.int .i64 0, .int .i64 0, .int .i64 0, .int .i64 0] 25)) := gr_alloc (gr_refl w)
  have B0 := Lib.hid (show BI (w.alloc (.cells #[.int .i64 0, .int .i64 0, .int .i64 0, .int .i64 0] 25)) w.heap.size 25 [0, 0, 0, 0] from heap_alloc_new w _)
  replace H := Lib.hid (H.out.later hb0)
  have HB := Lib.hid hb0
  clear hb0
  go_enter Try.func40, Try.ntmps40; go_wp2_with fail
  generalize (w.alloc (.cells #[.int .i64 0, .int .i64 0, .int .i64 0, .int .i64 0] 25)) = v0 at *
  go_at_call 68
  (with_reducible refine (askSl_any A c bs _ hn HQ.out H.out).mono ?_)
  rintro e w1 ⟨l, s, r, m, k, rfl, hq, hb⟩
  have HZ := Lib.hid (gr_then hb HB.out)
  replace B0 := Lib.hid (B0.out.late hb)
  have HQ1 := Lib.hid hq
  clear hb hq
  have cB0_0 := B0.out.cell 0 (by simp)
  have fB0_0 := B0.out.free 0
  have cB0_1 := B0.out.cell 1 (by simp)
  have fB0_1 := B0.out.free 1
  have cB0_2 := B0.out.cell 2 (by simp)
  have fB0_2 := B0.out.free 2
  have cB0_3 := B0.out.cell 3 (by simp)
  have fB0_3 := B0.out.free 3
  simp only [List.getD_cons_zero, List.getD_cons_succ] at cB0_0 cB0_1 cB0_2 cB0_3
  have ltB0 := B0.out.lt
  go_wp2
  refine ret_box (g := w.heap.size) (zs := [l, s, r, m]) (v := .tuple #[.agg #[.int .i64 l, .int .i64 s, .int .i64 r, .int .i64 m], .int .i64 k]) (by first | with_reducible exact BI.put_4 B0.out _ _ _ _ | with_reducible exact (BI.put_4 B0.out _ _ _ _).alloc _ | with_reducible exact ((BI.put_4 B0.out _ _ _ _).alloc _).alloc _) rfl ?_ ?_
  · intro W hW
    have e0 := hW.cell 0 (by simp)
    have e1 := hW.cell 1 (by simp)
    have e2 := hW.cell 2 (by simp)
    have e3 := hW.cell 3 (by simp)
    simp only [List.getD_cons_zero, List.getD_cons_succ] at e0 e1 e2 e3
    simp [results, Try.results40, go_sem, e0, e1, e2, e3]
  · exact ⟨_, _, _, _, _, rfl, HQ1.out, by repeat' (first | with_reducible exact HZ.out | (with_reducible refine gr_set (by dsimp only; omega) ?_) | (with_reducible refine gr_alloc ?_) | (with_reducible refine gr_drewN ?_) | (with_reducible refine gr_drew ?_))⟩
set_option maxHeartbeats 4000000 in
set_option maxRecDepth 20000 in
theorem drawHm_any (A : Option Addr) (c : Nat) (bs : List Int) (w : World) (hn : bs.length ≤ 1048576) (hq : ∀ x ∈ bs, U8 x) (h : SV (.int .u8) w w.heap.size A bs) : Calls Try.prog 41 #[.slice A bs.length c] w fun e w' => ∃ l s r m k : Int, e = .returned (.tuple #[.agg #[.int .i64 l, .int .i64 s, .int .i64 r, .int .i64 m], .int .i64 k]) ∧ (I64 l ∧ I64 s ∧ I64 r ∧ I64 m ∧ I64 k) ∧ Below w.heap.size w w' := by
  have H := Lib.hid h
  have HQ := Lib.hid hq
  clear h hq
  have hb0 : Below w.heap.size w (w.alloc (.cells #[.int .i64 0, .int .i64 0, .int .i64 0, .int .i64 0] 25)) := gr_alloc (gr_refl w)
  have B0 := Lib.hid (show BI (w.alloc (.cells #[.int .i64 0, .int .i64 0, .int .i64 0, .int .i64 0] 25)) w.heap.size 25 [0, 0, 0, 0] from heap_alloc_new w _)
  replace H := Lib.hid (H.out.later hb0)
  have HB := Lib.hid hb0
  clear hb0
  go_enter Try.func41, Try.ntmps41; go_wp2_with fail
  generalize (w.alloc (.cells #[.int .i64 0, .int .i64 0, .int .i64 0, .int .i64 0] 25)) = v0 at *
  go_at_call 68
  (with_reducible refine (askSl_any A c bs _ hn HQ.out H.out).mono ?_)
  rintro e w1 ⟨l, s, r, m, k, rfl, hq, hb⟩
  have HZ := Lib.hid (gr_then hb HB.out)
  replace B0 := Lib.hid (B0.out.late hb)
  have HQ1 := Lib.hid hq
  clear hb hq
  have cB0_0 := B0.out.cell 0 (by simp)
  have fB0_0 := B0.out.free 0
  have cB0_1 := B0.out.cell 1 (by simp)
  have fB0_1 := B0.out.free 1
  have cB0_2 := B0.out.cell 2 (by simp)
  have fB0_2 := B0.out.free 2
  have cB0_3 := B0.out.cell 3 (by simp)
  have fB0_3 := B0.out.free 3
  simp only [List.getD_cons_zero, List.getD_cons_succ] at cB0_0 cB0_1 cB0_2 cB0_3
  have ltB0 := B0.out.lt
  go_wp2
  refine ret_box (g := w.heap.size) (zs := [l, s, r, m]) (v := .tuple #[.agg #[.int .i64 l, .int .i64 s, .int .i64 r, .int .i64 m], .int .i64 k]) (by first | with_reducible exact BI.put_4 B0.out _ _ _ _ | with_reducible exact (BI.put_4 B0.out _ _ _ _).alloc _ | with_reducible exact ((BI.put_4 B0.out _ _ _ _).alloc _).alloc _) rfl ?_ ?_
  · intro W hW
    have e0 := hW.cell 0 (by simp)
    have e1 := hW.cell 1 (by simp)
    have e2 := hW.cell 2 (by simp)
    have e3 := hW.cell 3 (by simp)
    simp only [List.getD_cons_zero, List.getD_cons_succ] at e0 e1 e2 e3
    simp [results, Try.results41, go_sem, e0, e1, e2, e3]
  · exact ⟨_, _, _, _, _, rfl, HQ1.out, by repeat' (first | with_reducible exact HZ.out | (with_reducible refine gr_set (by dsimp only; omega) ?_) | (with_reducible refine gr_alloc ?_) | (with_reducible refine gr_drewN ?_) | (with_reducible refine gr_drew ?_))⟩
/-- the drawn slings and greatest forces -/
def ChS (w : World) (L : Nat) (A : Option Addr) (n c : Nat) (zs : List Int) (B : Option Addr) (m d : Nat) (ms : List Int) : Prop := RM 4 25 w L w.heap.size A n c zs ∧ RS (.int .i64) 2 w L w.heap.size B d ms ∧ ms.length = m ∧ ∀ g, A = some ⟨g, 0, none⟩ → B ≠ some ⟨g, 0, none⟩
theorem ChS.only {w w' : World} {p L n c m d : Nat} {A B : Option Addr} {zs ms : List Int} (h : ChS w L A n c zs B m d ms) (ho : Only p (p + 1) w w') (hp : p + 1 ≤ L) : ChS w' L A n c zs B m d ms := ⟨((h.1.only ho (.inr hp)).wide (Nat.le_refl _) ho.size), ((h.2.1.only ho (.inr hp)).wide (Nat.le_refl _) ho.size), h.2.2⟩
theorem ChS.alloc {w : World} {L n c m d : Nat} {A B : Option Addr} {zs ms : List Int} (h : ChS w L A n c zs B m d ms) (o : Obj) : ChS (w.alloc o) L A n c zs B m d ms := ⟨(h.1.late (gr_alloc (gr_refl w))).wide (Nat.le_refl _) (by simp), (h.2.1.late (gr_alloc (gr_refl w))).wide (Nat.le_refl _) (by simp), h.2.2⟩
theorem ChS.app1 {w w' : World} {L n c m d n' c' : Nat} {A B A' : Option Addr} {zs ms zs' : List Int} (h : ChS w L A n c zs B m d ms) (hr : RM 4 25 w' L w'.heap.size A' n' c' zs') (hg : w.grownBy w' (A.map (·.block))) (hb : A' = A ∨ A' = some ⟨w.heap.size, 0, none⟩) : ChS w' L A' n' c' zs' B m d ms := by
  obtain ⟨h1, h2, h3, h4⟩ := h
  refine ⟨hr, (h2.moved hg (fun g e1 e2 => ?_)).top, h3, fun g e1 e2 => ?_⟩
  · rcases h1.form.1 with rfl | ⟨g', rfl⟩
    · cases e2
    · simp at e2; subst e2; exact h4 _ rfl e1
  · rcases hb with rfl | rfl
    · exact h4 g e1 e2
    · simp at e1; subst e1; have := (h2.form.2 _ e2).2; omega
theorem ChS.app2 {w w' : World} {L n c m d m' d' : Nat} {A B B' : Option Addr} {zs ms ms' : List Int} (h : ChS w L A n c zs B m d ms) (hr : RS (.int .i64) 2 w' L w'.heap.size B' d' ms') (hm : ms'.length = m') (hg : w.grownBy w' (B.map (·.block))) (hb : B' = B ∨ B' = some ⟨w.heap.size, 0, none⟩) : ChS w' L A n c zs B' m' d' ms' := by
  obtain ⟨h1, h2, h3, h4⟩ := h
  refine ⟨(h1.moved hg (fun g e1 e2 => ?_)).top, hr, hm, fun g e1 e2 => ?_⟩
  · rcases h2.form.1 with rfl | ⟨g', rfl⟩
    · cases e2
    · simp at e2; subst e2; exact h4 _ e1 rfl
  · rcases hb with rfl | rfl
    · exact h4 g e1 e2
    · simp at e2; subst e2; have := (h1.form.2 _ e1).2; omega
theorem ChS.ge1 {w : World} {L n c m d : Nat} {A B : Option Addr} {zs ms : List Int} (h : ChS w L A n c zs B m d ms) : ∀ k, A.map (·.block) = some k → L ≤ k := row_ge (fun g hg => (h.1.form.2 g hg).1) h.1.form.1
theorem ChS.ge2 {w : World} {L n c m d : Nat} {A B : Option Addr} {zs ms : List Int} (h : ChS w L A n c zs B m d ms) : ∀ k, B.map (·.block) = some k → L ≤ k := row_ge (fun g hg => (h.2.1.form.2 g hg).1) h.2.1.form.1
set_option maxHeartbeats 16000000 in
set_option maxRecDepth 20000 in
theorem drawCs_any (A : Option Addr) (c : Nat) (bs : List Int) (w : World) (hn : bs.length ≤ 1048576) (hq : ∀ x ∈ bs, U8 x) (h : SV (.int .u8) w w.heap.size A bs) : Calls Try.prog 39 #[.slice A bs.length c] w fun e w' => ∃ (A1 : Option Addr) (n1 c1 : Nat) (zs : List Int) (A2 : Option Addr) (n2 c2 : Nat) (ms : List Int) (k : Int), e = .returned (.tuple #[.slice A1 n1 c1, .slice A2 n2 c2, .int .i64 k]) ∧ n1 ≤ 5 ∧ zs.length = n1 * 4 ∧ SI w' w'.heap.size A1 zs ∧ n2 ≤ 6 ∧ ms.length = n2 ∧ SV (.int .i64) w' w'.heap.size A2 ms ∧ I64 k ∧ Below w.heap.size w w' := by
  obtain ⟨i0, hi, zi0, zi1, zi2⟩ := info_parts infoSling
  obtain ⟨j0, hj, zj0, zj1, zj2⟩ := info_parts infoInt
  have H := Lib.hid h
  have HQ := Lib.hid hq
  clear h hq
  have HB := Lib.hid (gr_refl w)
  go_enter Try.func39, Try.ntmps39
  go_wp2_with fail
  go_at_call 63
  (with_reducible refine (from_any _ _ bs _ hn HQ.out H.out).mono ?_)
  rintro e w1 ⟨rfl, hs, hb⟩
  have HS1 := Lib.hid hs
  have hpl := hs.lt
  have hz1 := hb.size
  replace H := Lib.hid (H.out.later hb)
  replace HB := Lib.hid (gr_then hb HB.out)
  clear hs hb
  have HO := Lib.hid (Only.refl w.heap.size (w.heap.size + 1) w1)
  generalize hpp : w.heap.size = p at HS1 hpl hz1 HO ⊢
  have hwp : w.heap.size ≤ p := by omega
  have L0 := Lib.hid (show ChS ((w1.alloc (.cells #[] 25)).alloc (.cells #[] 2)) w1.heap.size (some ⟨w1.heap.size, 0, none⟩) 0 0 [] (some ⟨w1.heap.size + 1, 0, none⟩) 0 0 [] from ⟨((RM.lit0 w1).late (gr_alloc (gr_refl _))).wide (Nat.le_refl _) (by simp), by have h9 := (RS.lit0 (f := Value.int .i64) (e := 2) (w1.alloc (.cells #[] 25))).wide (lo' := w1.heap.size) (hi' := ((w1.alloc (.cells #[] 25)).alloc (.cells #[] 2)).heap.size) (by simp) (by simp); simpa using h9, rfl, by intro g hg hh; simp at hg hh; omega⟩)
  have HSx := Lib.hid ((HS1.out.alloc (.cells #[] 25)).alloc (.cells #[] 2))
  replace HO := Lib.hid ((HO.out.alloc (.cells #[] 25)).alloc (.cells #[] 2))
  have hpL : p + 1 ≤ w1.heap.size := by omega
  go_wp2_with fail
  generalize ((w1.alloc (.cells #[] 25)).alloc (.cells #[] 2)) = v1 at *
  go_at_call 64
  (with_reducible refine (pick_any p _ _ _ (by omega) (i64_of (by omega)) HSx.out).mono ?_)
  rintro e w2 ⟨x2, rfl, hx2, hy2, hm2, hn2, hs, ho⟩
  have HS2 := Lib.hid hs
  have HO2 := Lib.hid ho
  clear hs ho
  have hz2 := HO2.out.size
  replace HO := Lib.hid (HO.out.trans HO2.out)
  replace L0 := Lib.hid (L0.out.only HO2.out hpL)
  go_wp2_with fail
  go_loopw [6, 7, 8] (fun ls mo ki wr => ∃ (j : Nat) (kk : Int) (A1 : Option Addr) (c1 : Nat) (zs : List Int) (A2 : Option Addr) (c2 : Nat) (ms : List Int), ls = .slice A1 j c1 ∧ mo = .slice A2 j c2 ∧ ki = .int .i64 kk ∧ 0 ≤ kk ∧ kk + j ≤ 4 ∧ ChS wr w1.heap.size A1 j c1 zs A2 j c2 ms ∧ Src wr p (2 + 18 * j) ∧ Only p (p + 1) w1 wr) (fun _ _ ki _ => (intOf ki).toNat)
  case atStart => exact ⟨0, x2, _, _, [], _, _, [], rfl, rfl, rfl, hx2, by have := hm2 (by omega); omega, L0.out, HS2.out, HO.out⟩
  case round =>
    obtain ⟨j, kk, A1, c1, zs, A2, c2, ms, rfl, rfl, rfl, hk0, hk1, hL, hs, ho⟩ := hrel
    have HL := Lib.hid hL
    have HSr := Lib.hid hs
    have HOr := Lib.hid ho
    have hzr := ho.size
    clear hL hs ho
    by_cases hk : 0 < kk
    · go_wp2_with fail
      go_at_call 65
      (with_reducible refine (bentSl_any p _ _ (by omega) HSr.out).mono ?_)
      rintro e w3 ⟨l, s, r, m, rfl, _, hs, ho⟩
      have HS3 := Lib.hid hs
      have HO3 := Lib.hid ho
      have hz3 := ho.size
      replace HL := Lib.hid (HL.out.only ho hpL)
      replace HOr := Lib.hid (HOr.out.trans ho)
      clear hs ho
      have HA := Lib.hid (HL.out.alloc (.cells #[.int .i64 l, .int .i64 s, .int .i64 r, .int .i64 m] 25))
      have HSa := Lib.hid (HS3.out.alloc (.cells #[.int .i64 l, .int .i64 s, .int .i64 r, .int .i64 m] 25))
      have HOa := Lib.hid (HOr.out.alloc (.cells #[.int .i64 l, .int .i64 s, .int .i64 r, .int .i64 m] 25))
      have HSI := Lib.hid (show SI (w3.alloc (.cells #[.int .i64 l, .int .i64 s, .int .i64 r, .int .i64 m] 25)) (w3.heap.size + 1) (some ⟨w3.heap.size, 0, none⟩) [l, s, r, m] from SI.of_new w3 [l, s, r, m])
      have hza : w3.heap.size + 1 ≤ (w3.alloc (.cells #[.int .i64 l, .int .i64 s, .int .i64 r, .int .i64 m] 25)).heap.size := by simp
      go_wp2_with (at_builtin; refine wpList_appM rfl _ _ 43 rfl 4 (by omega) w1.heap.size 25 i0 (.agg #[.int .i64 0, .int .i64 0, .int .i64 0, .int .i64 0]) 32 Try.underlying43 hi zi0 zi1 zi2 rfl A1 j c1 zs _ rfl HA.out.1 (some ⟨w3.heap.size, 0, none⟩) 1 1 [l, s, r, m] (w3.heap.size + 1) rfl rfl (by omega) HSI.out (by unfold maxLen; omega) (by omega) (by omega) ?_; intro B1 d1 w4 hr hg hb; have HL4 := Lib.hid (HA.out.app1 hr hg hb); have HS4 := Lib.hid (HSa.out.grown hg (fun k hk => by have := HA.out.ge1 k hk; omega)); have HO4 := Lib.hid (HOa.out.grown hg HA.out.ge1); have hz4 := hg.size; clear hr hg hb)
      go_at_call 66
      (with_reducible refine (drawLoad_any p _ _ (by omega) HS4.out).mono ?_)
      rintro e w5 ⟨ld, rfl, _, hs, ho⟩
      have HS5 := Lib.hid hs
      have hz5 := ho.size
      have HL5 := Lib.hid (HL4.out.only ho hpL)
      have HO5 := Lib.hid (HO4.out.trans ho)
      clear hs ho
      have HB5 := Lib.hid (HL5.out.alloc (.cells #[.int .i64 ld] 2))
      have HSb := Lib.hid (HS5.out.alloc (.cells #[.int .i64 ld] 2))
      have HOb := Lib.hid (HO5.out.alloc (.cells #[.int .i64 ld] 2))
      have HSV := Lib.hid (show SV (Value.int .i64) (w5.alloc (.cells #[.int .i64 ld] 2)) (w5.heap.size + 1) (some ⟨w5.heap.size, 0, none⟩) [ld] from SV.of_new w5)
      have hzb : w5.heap.size + 1 ≤ (w5.alloc (.cells #[.int .i64 ld] 2)).heap.size := by simp
      go_wp2_with (at_builtin; refine wpList_app rfl _ _ 40 rfl w1.heap.size 2 j0 (.int .i64 0) 8 Try.underlying40 hj zj0 zj1 zj2 rfl (Value.int .i64) (fun _ => rfl) A2 j c2 ms _ rfl HB5.out.2.2.1 HB5.out.2.1 (some ⟨w5.heap.size, 0, none⟩) 1 1 [ld] (w5.heap.size + 1) rfl rfl HSV.out (fun h => by cases h) (by unfold maxLen; omega) (by omega) (by omega) ?_; intro B2 d2 w6 hr hg hb; have HL6 := Lib.hid (HB5.out.app2 (m' := j + 1) hr (by simp [HB5.out.2.2.1]) hg hb); have HS6 := Lib.hid (HSb.out.grown hg (fun k hk => by have := HB5.out.ge2 k hk; omega)); have HO6 := Lib.hid (HOb.out.grown hg HB5.out.ge2); clear hr hg hb)
      go_roundw
      case rel => exact ⟨j + 1, kk - 1, B1, d1, zs ++ [l, s, r, m], B2, d2, ms ++ [ld], rfl, rfl, by go_num, by omega, by omega, HL6.out, HS6.out.more (by omega), HO6.out⟩
      case measure => simp [intOf]; omega
    · have hd : decide (0 < kk) = false := decide_eq_false hk
      go_wp2_with fail
      go_at_call 67
      (with_reducible refine (one_any p _ _ _ (by omega) (i64_of (by omega)) HSr.out).mono ?_)
      rintro e w3 ⟨b, rfl, hs, ho⟩
      have HS3 := Lib.hid hs
      have hz3 := ho.size
      have HL3 := Lib.hid (HL.out.only ho hpL)
      have HO3 := Lib.hid (HOr.out.trans ho)
      clear hs ho
      cases b
      · go_wp2_with fail
        go_at_call 66
        (with_reducible refine (drawLoad_any p _ _ (by omega) HS3.out).mono ?_)
        rintro e w5 ⟨ld, rfl, hq, hs, ho⟩
        have HL5 := Lib.hid (HL3.out.only ho hpL)
        have HZ := Lib.hid (Only.after HB.out (HO3.out.trans ho) (by omega) (by omega))
        have HK := Lib.hid hq
        clear hs ho hq
        go_wp2
        go_returns
        exact ⟨A1, j, c1, zs, A2, j, c2, ms, ld, rfl, by omega, HL5.out.1.len, HL5.out.1.si, by omega, HL5.out.2.2.1, HL5.out.2.1.sv, HK.out, HZ.out⟩
      · have HB5 := Lib.hid (HL3.out.alloc (.cells #[.int .i64 1] 2))
        have HSb := Lib.hid (HS3.out.alloc (.cells #[.int .i64 1] 2))
        have HOb := Lib.hid (HO3.out.alloc (.cells #[.int .i64 1] 2))
        have HSV := Lib.hid (show SV (Value.int .i64) (w3.alloc (.cells #[.int .i64 1] 2)) (w3.heap.size + 1) (some ⟨w3.heap.size, 0, none⟩) [1] from SV.of_new w3)
        have hzb : w3.heap.size + 1 ≤ (w3.alloc (.cells #[.int .i64 1] 2)).heap.size := by simp
        go_wp2_with (at_builtin; refine wpList_app rfl _ _ 40 rfl w1.heap.size 2 j0 (.int .i64 0) 8 Try.underlying40 hj zj0 zj1 zj2 rfl (Value.int .i64) (fun _ => rfl) A2 j c2 ms _ rfl HB5.out.2.2.1 HB5.out.2.1 (some ⟨w3.heap.size, 0, none⟩) 1 1 [1] (w3.heap.size + 1) rfl rfl HSV.out (fun h => by cases h) (by unfold maxLen; omega) (by omega) (by omega) ?_; intro B2 d2 w6 hr hg hb; have HL6 := Lib.hid (HB5.out.app2 (m' := j + 1) hr (by simp [HB5.out.2.2.1]) hg hb); have HS6 := Lib.hid (HSb.out.grown hg (fun k hk => by have := HB5.out.ge2 k hk; omega)); have HO6 := Lib.hid (HOb.out.grown hg HB5.out.ge2); have hz6 := hg.size; clear hr hg hb)
        go_at_call 66
        (with_reducible refine (drawLoad_any p _ _ (by omega) HS6.out).mono ?_)
        rintro e w7 ⟨ld, rfl, hq, hs, ho⟩
        have HL7 := Lib.hid (HL6.out.only ho hpL)
        have HZ := Lib.hid (Only.after HB.out (HO6.out.trans ho) (by omega) (by omega))
        have HK := Lib.hid hq
        clear hs ho hq
        go_wp2
        go_returns
        exact ⟨A1, j, c1, zs, B2, j + 1, d2, _, ld, rfl, by omega, HL7.out.1.len, HL7.out.1.si, by omega, HL7.out.2.2.1, HL7.out.2.1.sv, HK.out, HZ.out⟩
end Go.Proofs.Ytnmldhkcbekecaa
