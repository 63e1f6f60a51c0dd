/- The draws of bases, loads, radii and percentages. -/
import Derived.Test.YtmalbgbmapfiiaaSrc
namespace Go.Proofs.Ytmalbgbmapfiiaa
open Go.RowKit Go.Deep
theorem keepc {W w1 : World} {b o : Nat} {v : Value} (hb : Below W.heap.size W w1) (h : W.cell? ⟨b, o, none⟩ = some v) : w1.cell? ⟨b, o, none⟩ = some v := (hb.cell (p := ⟨b, o, none⟩) (lt_of_cell h)).trans h
theorem SI.later {w w' : World} {A : Option Addr} {zs : List Int} (h : SI w w.heap.size A zs) (hb : Below w.heap.size w w') : SI w' w'.heap.size A zs := (h.below hb).more hb.size
theorem SV.later {α : Type} {f : α → Value} {w w' : World} {A : Option Addr} {xs : List α} (h : SV f w w.heap.size A xs) (hb : Below w.heap.size w w') : SV f w' w'.heap.size A xs := (h.below hb).more hb.size
set_option maxHeartbeats 4000000 in
set_option maxRecDepth 20000 in
theorem drawLoad_any (p N : Nat) (w : World) (hN : N + 4 ≤ 1000000) (h : Src w p N) : Calls Try.prog 45 #[.pointer (some ⟨p, 0, none⟩)] w fun e w' => ∃ x : Int, e = .returned (.int .i64 x) ∧ I64 x ∧ Src w' p (N + 4) ∧ Only p (p + 1) w w' := by
  have H := Lib.hid h
  clear h
  have hpl := H.out.lt
  have HO := Lib.hid (Only.refl p (p + 1) w)
  go_enter Try.func45, Try.ntmps45
  go_wp2_with fail
  go_at_call 35
  (with_reducible refine (one_any p _ _ _ (by omega) (i64_of (by omega)) H.out).mono ?_)
  rintro e w1 ⟨b1, rfl, hs, ho⟩
  have HS1 := Lib.hid hs
  have HO1 := Lib.hid ho
  clear hs ho
  have hz1 := HO1.out.size
  replace HO := Lib.hid (HO.out.trans HO1.out)
  cases b1
  · go_wp2_with fail
    go_at_call 32
    (with_reducible refine (pick_any p _ _ _ (by omega) (i64_of (by omega)) HS1.out).mono ?_)
    rintro e w2 ⟨x2, rfl, hx2, hy2, hm2, hn2, hs, ho⟩
    have HS2 := Lib.hid hs
    have HO2 := Lib.hid ho
    clear hs ho
    have hz2 := HO2.out.size
    replace HO := Lib.hid (HO.out.trans HO2.out)
    go_wp2
    go_returns
    exact ⟨_, rfl, i64_of (by omega), by repeat' (first | with_reducible exact HS2.out.more (by omega) | (with_reducible refine Src.setNew ?_ _ (by dsimp only; omega)) | (with_reducible refine Src.alloc ?_ _) | (with_reducible refine Src.drewN ?_ _)), by repeat' (first | with_reducible exact HO.out | (with_reducible refine Only.setNew ?_ _ (by dsimp only; omega)) | (with_reducible refine Only.alloc ?_ _) | (with_reducible refine Only.drewN ?_) | (with_reducible refine Only.drew ?_))⟩
  · go_wp2_with fail
    go_at_call 33
    refine (among_lit p _ [-1, 0, 50000, 50001, 9223372036854775807] 2 _ (by omega) (by simp) (by simp) (by intro x hx; simp only [List.mem_cons, List.not_mem_nil, or_false] at hx; unfold I64; omega) HS1.out).mono ?_
    rintro e w2 ⟨x2, rfl, hq2, hs, ho⟩
    have HS2 := Lib.hid hs
    have HO2 := Lib.hid ho
    clear hs ho
    have hz2 := HO2.out.size
    replace HO := Lib.hid (HO.out.trans HO2.out)
    have HQ2 := Lib.hid hq2
    clear hq2
    go_wp2
    go_returns
    exact ⟨_, rfl, HQ2.out, by repeat' (first | with_reducible exact HS2.out.more (by omega) | (with_reducible refine Src.setNew ?_ _ (by dsimp only; omega)) | (with_reducible refine Src.alloc ?_ _) | (with_reducible refine Src.drewN ?_ _)), by repeat' (first | with_reducible exact HO.out | (with_reducible refine Only.setNew ?_ _ (by dsimp only; omega)) | (with_reducible refine Only.alloc ?_ _) | (with_reducible refine Only.drewN ?_) | (with_reducible refine Only.drew ?_))⟩
set_option maxHeartbeats 4000000 in
set_option maxRecDepth 20000 in
theorem drawRad_any (p N : Nat) (w : World) (hN : N + 4 ≤ 1000000) (h : Src w p N) : Calls Try.prog 46 #[.pointer (some ⟨p, 0, none⟩)] w fun e w' => ∃ x : Int, e = .returned (.int .i64 x) ∧ I64 x ∧ Src w' p (N + 4) ∧ Only p (p + 1) w w' := by
  have H := Lib.hid h
  clear h
  have hpl := H.out.lt
  have HO := Lib.hid (Only.refl p (p + 1) w)
  go_enter Try.func46, Try.ntmps46
  go_wp2_with fail
  go_at_call 35
  (with_reducible refine (one_any p _ _ _ (by omega) (i64_of (by omega)) H.out).mono ?_)
  rintro e w1 ⟨b1, rfl, hs, ho⟩
  have HS1 := Lib.hid hs
  have HO1 := Lib.hid ho
  clear hs ho
  have hz1 := HO1.out.size
  replace HO := Lib.hid (HO.out.trans HO1.out)
  cases b1
  · go_wp2_with fail
    go_at_call 32
    (with_reducible refine (pick_any p _ _ _ (by omega) (i64_of (by omega)) HS1.out).mono ?_)
    rintro e w2 ⟨x2, rfl, hx2, hy2, hm2, hn2, hs, ho⟩
    have HS2 := Lib.hid hs
    have HO2 := Lib.hid ho
    clear hs ho
    have hz2 := HO2.out.size
    replace HO := Lib.hid (HO.out.trans HO2.out)
    go_wp2
    go_returns
    exact ⟨_, rfl, i64_of (by omega), by repeat' (first | with_reducible exact HS2.out.more (by omega) | (with_reducible refine Src.setNew ?_ _ (by dsimp only; omega)) | (with_reducible refine Src.alloc ?_ _) | (with_reducible refine Src.drewN ?_ _)), by repeat' (first | with_reducible exact HO.out | (with_reducible refine Only.setNew ?_ _ (by dsimp only; omega)) | (with_reducible refine Only.alloc ?_ _) | (with_reducible refine Only.drewN ?_) | (with_reducible refine Only.drew ?_))⟩
  · go_wp2_with fail
    go_at_call 33
    refine (among_lit p _ [-1, 0, 1000, 1001] 2 _ (by omega) (by simp) (by simp) (by intro x hx; simp only [List.mem_cons, List.not_mem_nil, or_false] at hx; unfold I64; omega) HS1.out).mono ?_
    rintro e w2 ⟨x2, rfl, hq2, hs, ho⟩
    have HS2 := Lib.hid hs
    have HO2 := Lib.hid ho
    clear hs ho
    have hz2 := HO2.out.size
    replace HO := Lib.hid (HO.out.trans HO2.out)
    have HQ2 := Lib.hid hq2
    clear hq2
    go_wp2
    go_returns
    exact ⟨_, rfl, HQ2.out, by repeat' (first | with_reducible exact HS2.out.more (by omega) | (with_reducible refine Src.setNew ?_ _ (by dsimp only; omega)) | (with_reducible refine Src.alloc ?_ _) | (with_reducible refine Src.drewN ?_ _)), by repeat' (first | with_reducible exact HO.out | (with_reducible refine Only.setNew ?_ _ (by dsimp only; omega)) | (with_reducible refine Only.alloc ?_ _) | (with_reducible refine Only.drewN ?_) | (with_reducible refine Only.drew ?_))⟩
set_option maxHeartbeats 4000000 in
set_option maxRecDepth 20000 in
theorem drawPc_any (p N : Nat) (w : World) (hN : N + 4 ≤ 1000000) (h : Src w p N) : Calls Try.prog 17 #[.pointer (some ⟨p, 0, none⟩)] w fun e w' => ∃ x : Int, e = .returned (.int .i64 x) ∧ I64 x ∧ Src w' p (N + 4) ∧ Only p (p + 1) w w' := by
  have H := Lib.hid h
  clear h
  have hpl := H.out.lt
  have HO := Lib.hid (Only.refl p (p + 1) w)
  go_enter Try.func17, Try.ntmps17
  go_wp2_with fail
  go_at_call 35
  (with_reducible refine (one_any p _ _ _ (by omega) (i64_of (by omega)) H.out).mono ?_)
  rintro e w1 ⟨b1, rfl, hs, ho⟩
  have HS1 := Lib.hid hs
  have HO1 := Lib.hid ho
  clear hs ho
  have hz1 := HO1.out.size
  replace HO := Lib.hid (HO.out.trans HO1.out)
  cases b1
  · go_wp2_with fail
    go_at_call 32
    (with_reducible refine (pick_any p _ _ _ (by omega) (i64_of (by omega)) HS1.out).mono ?_)
    rintro e w2 ⟨x2, rfl, hx2, hy2, hm2, hn2, hs, ho⟩
    have HS2 := Lib.hid hs
    have HO2 := Lib.hid ho
    clear hs ho
    have hz2 := HO2.out.size
    replace HO := Lib.hid (HO.out.trans HO2.out)
    go_wp2
    go_returns
    exact ⟨_, rfl, i64_of (by omega), by repeat' (first | with_reducible exact HS2.out.more (by omega) | (with_reducible refine Src.setNew ?_ _ (by dsimp only; omega)) | (with_reducible refine Src.alloc ?_ _) | (with_reducible refine Src.drewN ?_ _)), by repeat' (first | with_reducible exact HO.out | (with_reducible refine Only.setNew ?_ _ (by dsimp only; omega)) | (with_reducible refine Only.alloc ?_ _) | (with_reducible refine Only.drewN ?_) | (with_reducible refine Only.drew ?_))⟩
  · go_wp2_with fail
    go_at_call 33
    refine (among_lit p _ [99, 100, 1000, 1001] 2 _ (by omega) (by simp) (by simp) (by intro x hx; simp only [List.mem_cons, List.not_mem_nil, or_false] at hx; unfold I64; omega) HS1.out).mono ?_
    rintro e w2 ⟨x2, rfl, hq2, hs, ho⟩
    have HS2 := Lib.hid hs
    have HO2 := Lib.hid ho
    clear hs ho
    have hz2 := HO2.out.size
    replace HO := Lib.hid (HO.out.trans HO2.out)
    have HQ2 := Lib.hid hq2
    clear hq2
    go_wp2
    go_returns
    exact ⟨_, rfl, HQ2.out, by repeat' (first | with_reducible exact HS2.out.more (by omega) | (with_reducible refine Src.setNew ?_ _ (by dsimp only; omega)) | (with_reducible refine Src.alloc ?_ _) | (with_reducible refine Src.drewN ?_ _)), by repeat' (first | with_reducible exact HO.out | (with_reducible refine Only.setNew ?_ _ (by dsimp only; omega)) | (with_reducible refine Only.alloc ?_ _) | (with_reducible refine Only.drewN ?_) | (with_reducible refine Only.drew ?_))⟩
set_option maxHeartbeats 8000000 in
set_option maxRecDepth 20000 in
theorem drawBs_any (p N : Nat) (w : World) (hN : N + 14 ≤ 1000000) (h : Src w p N) : Calls Try.prog 31 #[.pointer (some ⟨p, 0, none⟩)] w fun e w' => ∃ a0 a1 a2 a3 a4 a5 a6 : Int, e = .returned (.agg #[.int .i64 a0, .int .i64 a1, .int .i64 a2, .int .i64 a3, .int .i64 a4, .int .i64 a5, .int .i64 a6]) ∧ (I64 a0 ∧ I64 a1 ∧ I64 a2 ∧ I64 a3 ∧ I64 a4 ∧ I64 a5 ∧ I64 a6) ∧ Src w' p (N + 14) ∧ Only p (p + 1) w w' := by
  have H := Lib.hid h
  clear h
  have hpl := H.out.lt
  have hb0 : Below w.heap.size w (w.alloc (.cells #[.int .i64 0, .int .i64 0, .int .i64 0, .int .i64 0, .int .i64 0, .int .i64 0, .int .i64 0] 25)) := by repeat' first | exact gr_refl _ | with_reducible assumption | with_reducible apply gr_alloc | with_reducible apply gr_set | with_reducible apply gr_drew | with_reducible apply gr_drewN | exact Nat.le_add_right _ _ | exact Nat.le_refl _ | (refine gr_then (by with_reducible assumption) ?_)
  have B0 := Lib.hid (show BI (w.alloc (.cells #[.int .i64 0, .int .i64 0, .int .i64 0, .int .i64 0, .int .i64 0, .int .i64 0, .int .i64 0] 25)) (w.heap.size) 25 [0, 0, 0, 0, 0, 0, 0] from heap_alloc_new w _)
  replace H := Lib.hid (H.out.late hb0)
  have HO := Lib.hid (Only.of_below (lo := p) (hi := p + 1) hb0)
  have hz : w.heap.size + 1 ≤ (w.alloc (.cells #[.int .i64 0, .int .i64 0, .int .i64 0, .int .i64 0, .int .i64 0, .int .i64 0, .int .i64 0] 25)).heap.size := by simp
  clear hb0
  go_enter Try.func31, Try.ntmps31
  go_wp2_with fail
  generalize w.alloc (.cells #[.int .i64 0, .int .i64 0, .int .i64 0, .int .i64 0, .int .i64 0, .int .i64 0, .int .i64 0] 25) = v0 at *
  have hg0 : w.heap.size < v0.heap.size := by omega
  have hp0 : p + 1 ≤ w.heap.size := hpl
  generalize hgg : w.heap.size = g0 at *
  go_at_call 32
  (with_reducible refine (pick_any p _ _ _ (by omega) (i64_of (by omega)) H.out).mono ?_)
  rintro e w1 ⟨x1, rfl, hx1, hy1, hm1, hn1, hs, ho⟩
  have HS1 := Lib.hid hs
  have HO1 := Lib.hid ho
  clear hs ho
  have hz1 := HO1.out.size
  replace B0 := Lib.hid (B0.out.only HO1.out (by omega))
  replace HO := Lib.hid (HO.out.trans HO1.out)
  go_wp2_with fail
  go_at_call 32
  (with_reducible refine (pick_any p _ _ _ (by omega) (i64_of (by omega)) HS1.out).mono ?_)
  rintro e w2 ⟨x2, rfl, hx2, hy2, hm2, hn2, hs, ho⟩
  have HS2 := Lib.hid hs
  have HO2 := Lib.hid ho
  clear hs ho
  have hz2 := HO2.out.size
  replace B0 := Lib.hid (B0.out.only HO2.out (by omega))
  replace HO := Lib.hid (HO.out.trans HO2.out)
  go_wp2_with fail
  go_at_call 32
  (with_reducible refine (pick_any p _ _ _ (by omega) (i64_of (by omega)) HS2.out).mono ?_)
  rintro e w3 ⟨x3, rfl, hx3, hy3, hm3, hn3, hs, ho⟩
  have HS3 := Lib.hid hs
  have HO3 := Lib.hid ho
  clear hs ho
  have hz3 := HO3.out.size
  replace B0 := Lib.hid (B0.out.only HO3.out (by omega))
  replace HO := Lib.hid (HO.out.trans HO3.out)
  have hb : Below w3.heap.size w3 (w3.alloc (.cells #[.int .i64 (40 + x1), .int .i64 (10000 + x2 * 1000), .int .i64 (x3 * 1000), .int .i64 0, .int .i64 0, .int .i64 0, .int .i64 0] 25)) := gr_alloc (gr_refl _)
  have B1 := Lib.hid (show BI (w3.alloc (.cells #[.int .i64 (40 + x1), .int .i64 (10000 + x2 * 1000), .int .i64 (x3 * 1000), .int .i64 0, .int .i64 0, .int .i64 0, .int .i64 0] 25)) w3.heap.size 25 [40 + x1, 10000 + x2 * 1000, x3 * 1000, 0, 0, 0, 0] from heap_alloc_new _ _)
  replace B0 := Lib.hid (B0.out.late hb)
  replace HO := Lib.hid (HO.out.trans (Only.of_below hb))
  have hp4 : p + 1 ≤ w3.heap.size := HS3.out.lt
  have HS4 := Lib.hid (HS3.out.late hb)
  have hz4 : w3.heap.size + 1 ≤ (w3.alloc (.cells #[.int .i64 (40 + x1), .int .i64 (10000 + x2 * 1000), .int .i64 (x3 * 1000), .int .i64 0, .int .i64 0, .int .i64 0, .int .i64 0] 25)).heap.size := by simp
  clear hb
  go_wp2_with fail
  generalize w3.alloc (.cells #[.int .i64 (40 + x1), .int .i64 (10000 + x2 * 1000), .int .i64 (x3 * 1000), .int .i64 0, .int .i64 0, .int .i64 0, .int .i64 0] 25) = w4 at *
  generalize hgg4 : w3.heap.size = g1 at *
  go_at_call 32
  (with_reducible refine (pick_any p _ _ _ (by omega) (i64_of (by omega)) HS4.out).mono ?_)
  rintro e w5 ⟨x5, rfl, hx5, hy5, hm5, hn5, hs, ho⟩
  have HS5 := Lib.hid hs
  have HO5 := Lib.hid ho
  clear hs ho
  have hz5 := HO5.out.size
  replace B0 := Lib.hid (B0.out.only HO5.out (by omega))
  replace B1 := Lib.hid (B1.out.only HO5.out (by omega))
  replace HO := Lib.hid (HO.out.trans HO5.out)
  have cB1_0 := B1.out.cell 0 (by simp)
  have cB1_1 := B1.out.cell 1 (by simp)
  have cB1_2 := B1.out.cell 2 (by simp)
  have cB1_3 := B1.out.cell 3 (by simp)
  have cB1_4 := B1.out.cell 4 (by simp)
  have cB1_5 := B1.out.cell 5 (by simp)
  have cB1_6 := B1.out.cell 6 (by simp)
  have fB1_3 := B1.out.free 3
  simp only [List.getD_cons_zero, List.getD_cons_succ] at cB1_0 cB1_1 cB1_2 cB1_3 cB1_4 cB1_5 cB1_6
  have ltB1 := B1.out.lt
  have B1' := Lib.hid (show BI (w5.setCell ⟨g1, 3, none⟩ (.int .i64 (3000 + x5 * 500))) g1 _ [40 + x1, 10000 + x2 * 1000, x3 * 1000, 3000 + x5 * 500, 0, 0, 0] from B1.out.put 3 (3000 + x5 * 500))
  clear B1
  have B1 := B1'
  clear B1'
  replace B0 := Lib.hid (B0.out.far (p := ⟨g1, 3, none⟩) (by dsimp only; omega) (.int .i64 (3000 + x5 * 500)))
  replace HO := Lib.hid (HO.out.setNew (q := ⟨g1, 3, none⟩) (.int .i64 (3000 + x5 * 500)) (by dsimp only; omega))
  have HS6 := Lib.hid (HS5.out.setNew (q := ⟨g1, 3, none⟩) (.int .i64 (3000 + x5 * 500)) (by dsimp only; omega))
  have hz6 : w5.heap.size ≤ (w5.setCell ⟨g1, 3, none⟩ (.int .i64 (3000 + x5 * 500))).heap.size := by simp
  have hs6 : (w5.setCell ⟨g1, 3, none⟩ (.int .i64 (3000 + x5 * 500))).heap.size = w5.heap.size := by simp
  go_wp2_with fail
  generalize w5.setCell ⟨g1, 3, none⟩ (.int .i64 (3000 + x5 * 500)) = w6 at *
  clear cB1_0 cB1_1 cB1_2 cB1_3 cB1_4 cB1_5 cB1_6 fB1_3 ltB1
  (try rw [← hs6])
  clear hs6
  go_at_call 32
  (with_reducible refine (pick_any p _ _ _ (by omega) (i64_of (by omega)) HS6.out).mono ?_)
  rintro e w7 ⟨x7, rfl, hx7, hy7, hm7, hn7, hs, ho⟩
  have HS7 := Lib.hid hs
  have HO7 := Lib.hid ho
  clear hs ho
  have hz7 := HO7.out.size
  replace B0 := Lib.hid (B0.out.only HO7.out (by omega))
  replace B1 := Lib.hid (B1.out.only HO7.out (by omega))
  replace HO := Lib.hid (HO.out.trans HO7.out)
  have cB1_0 := B1.out.cell 0 (by simp)
  have cB1_1 := B1.out.cell 1 (by simp)
  have cB1_2 := B1.out.cell 2 (by simp)
  have cB1_3 := B1.out.cell 3 (by simp)
  have cB1_4 := B1.out.cell 4 (by simp)
  have cB1_5 := B1.out.cell 5 (by simp)
  have cB1_6 := B1.out.cell 6 (by simp)
  have fB1_4 := B1.out.free 4
  simp only [List.getD_cons_zero, List.getD_cons_succ] at cB1_0 cB1_1 cB1_2 cB1_3 cB1_4 cB1_5 cB1_6
  have ltB1 := B1.out.lt
  have B1' := Lib.hid (show BI (w7.setCell ⟨g1, 4, none⟩ (.int .i64 (100 + x7))) g1 _ [40 + x1, 10000 + x2 * 1000, x3 * 1000, 3000 + x5 * 500, 100 + x7, 0, 0] from B1.out.put 4 (100 + x7))
  clear B1
  have B1 := B1'
  clear B1'
  replace B0 := Lib.hid (B0.out.far (p := ⟨g1, 4, none⟩) (by dsimp only; omega) (.int .i64 (100 + x7)))
  replace HO := Lib.hid (HO.out.setNew (q := ⟨g1, 4, none⟩) (.int .i64 (100 + x7)) (by dsimp only; omega))
  have HS8 := Lib.hid (HS7.out.setNew (q := ⟨g1, 4, none⟩) (.int .i64 (100 + x7)) (by dsimp only; omega))
  have hz8 : w7.heap.size ≤ (w7.setCell ⟨g1, 4, none⟩ (.int .i64 (100 + x7))).heap.size := by simp
  have hs8 : (w7.setCell ⟨g1, 4, none⟩ (.int .i64 (100 + x7))).heap.size = w7.heap.size := by simp
  go_wp2_with fail
  generalize w7.setCell ⟨g1, 4, none⟩ (.int .i64 (100 + x7)) = w8 at *
  clear cB1_0 cB1_1 cB1_2 cB1_3 cB1_4 cB1_5 cB1_6 fB1_4 ltB1
  (try rw [← hs8])
  clear hs8
  go_at_call 32
  (with_reducible refine (pick_any p _ _ _ (by omega) (i64_of (by omega)) HS8.out).mono ?_)
  rintro e w9 ⟨x9, rfl, hx9, hy9, hm9, hn9, hs, ho⟩
  have HS9 := Lib.hid hs
  have HO9 := Lib.hid ho
  clear hs ho
  have hz9 := HO9.out.size
  replace B0 := Lib.hid (B0.out.only HO9.out (by omega))
  replace B1 := Lib.hid (B1.out.only HO9.out (by omega))
  replace HO := Lib.hid (HO.out.trans HO9.out)
  have cB1_0 := B1.out.cell 0 (by simp)
  have cB1_1 := B1.out.cell 1 (by simp)
  have cB1_2 := B1.out.cell 2 (by simp)
  have cB1_3 := B1.out.cell 3 (by simp)
  have cB1_4 := B1.out.cell 4 (by simp)
  have cB1_5 := B1.out.cell 5 (by simp)
  have cB1_6 := B1.out.cell 6 (by simp)
  have fB1_5 := B1.out.free 5
  simp only [List.getD_cons_zero, List.getD_cons_succ] at cB1_0 cB1_1 cB1_2 cB1_3 cB1_4 cB1_5 cB1_6
  have ltB1 := B1.out.lt
  have B1' := Lib.hid (show BI (w9.setCell ⟨g1, 5, none⟩ (.int .i64 (5000 + x9 * 1000))) g1 _ [40 + x1, 10000 + x2 * 1000, x3 * 1000, 3000 + x5 * 500, 100 + x7, 5000 + x9 * 1000, 0] from B1.out.put 5 (5000 + x9 * 1000))
  clear B1
  have B1 := B1'
  clear B1'
  replace B0 := Lib.hid (B0.out.far (p := ⟨g1, 5, none⟩) (by dsimp only; omega) (.int .i64 (5000 + x9 * 1000)))
  replace HO := Lib.hid (HO.out.setNew (q := ⟨g1, 5, none⟩) (.int .i64 (5000 + x9 * 1000)) (by dsimp only; omega))
  have HS10 := Lib.hid (HS9.out.setNew (q := ⟨g1, 5, none⟩) (.int .i64 (5000 + x9 * 1000)) (by dsimp only; omega))
  have hz10 : w9.heap.size ≤ (w9.setCell ⟨g1, 5, none⟩ (.int .i64 (5000 + x9 * 1000))).heap.size := by simp
  have hs10 : (w9.setCell ⟨g1, 5, none⟩ (.int .i64 (5000 + x9 * 1000))).heap.size = w9.heap.size := by simp
  go_wp2_with fail
  generalize w9.setCell ⟨g1, 5, none⟩ (.int .i64 (5000 + x9 * 1000)) = w10 at *
  clear cB1_0 cB1_1 cB1_2 cB1_3 cB1_4 cB1_5 cB1_6 fB1_5 ltB1
  (try rw [← hs10])
  clear hs10
  go_at_call 32
  (with_reducible refine (pick_any p _ _ _ (by omega) (i64_of (by omega)) HS10.out).mono ?_)
  rintro e w11 ⟨x11, rfl, hx11, hy11, hm11, hn11, hs, ho⟩
  have HS11 := Lib.hid hs
  have HO11 := Lib.hid ho
  clear hs ho
  have hz11 := HO11.out.size
  replace B0 := Lib.hid (B0.out.only HO11.out (by omega))
  replace B1 := Lib.hid (B1.out.only HO11.out (by omega))
  replace HO := Lib.hid (HO.out.trans HO11.out)
  have cB0_0 := B0.out.cell 0 (by simp)
  have cB0_1 := B0.out.cell 1 (by simp)
  have cB0_2 := B0.out.cell 2 (by simp)
  have cB0_3 := B0.out.cell 3 (by simp)
  have cB0_4 := B0.out.cell 4 (by simp)
  have cB0_5 := B0.out.cell 5 (by simp)
  have cB0_6 := B0.out.cell 6 (by simp)
  have fB0_0 := B0.out.free 0
  have fB0_1 := B0.out.free 1
  have fB0_2 := B0.out.free 2
  have fB0_3 := B0.out.free 3
  have fB0_4 := B0.out.free 4
  have fB0_5 := B0.out.free 5
  have fB0_6 := B0.out.free 6
  simp only [List.getD_cons_zero, List.getD_cons_succ] at cB0_0 cB0_1 cB0_2 cB0_3 cB0_4 cB0_5 cB0_6
  have ltB0 := B0.out.lt
  have cB1_0 := B1.out.cell 0 (by simp)
  have cB1_1 := B1.out.cell 1 (by simp)
  have cB1_2 := B1.out.cell 2 (by simp)
  have cB1_3 := B1.out.cell 3 (by simp)
  have cB1_4 := B1.out.cell 4 (by simp)
  have cB1_5 := B1.out.cell 5 (by simp)
  have cB1_6 := B1.out.cell 6 (by simp)
  have fB1_6 := B1.out.free 6
  simp only [List.getD_cons_zero, List.getD_cons_succ] at cB1_0 cB1_1 cB1_2 cB1_3 cB1_4 cB1_5 cB1_6
  have ltB1 := B1.out.lt
  have B1' := Lib.hid (show BI (w11.setCell ⟨g1, 6, none⟩ (.int .i64 (60 + x11))) g1 _ [40 + x1, 10000 + x2 * 1000, x3 * 1000, 3000 + x5 * 500, 100 + x7, 5000 + x9 * 1000, 60 + x11] from B1.out.put 6 (60 + x11))
  clear B1
  have B1 := B1'
  clear B1'
  replace B0 := Lib.hid (B0.out.far (p := ⟨g1, 6, none⟩) (by dsimp only; omega) (.int .i64 (60 + x11)))
  replace HO := Lib.hid (HO.out.setNew (q := ⟨g1, 6, none⟩) (.int .i64 (60 + x11)) (by dsimp only; omega))
  have HS12 := Lib.hid (HS11.out.setNew (q := ⟨g1, 6, none⟩) (.int .i64 (60 + x11)) (by dsimp only; omega))
  have hz12 : w11.heap.size ≤ (w11.setCell ⟨g1, 6, none⟩ (.int .i64 (60 + x11))).heap.size := by simp
  have hs12 : (w11.setCell ⟨g1, 6, none⟩ (.int .i64 (60 + x11))).heap.size = w11.heap.size := by simp
  go_wp2
  refine ret_box (g := g0) (zs := [40 + x1, 10000 + x2 * 1000, x3 * 1000, 3000 + x5 * 500, 100 + x7, 5000 + x9 * 1000, 60 + x11]) (v := .agg #[.int .i64 (40 + x1), .int .i64 (10000 + x2 * 1000), .int .i64 (x3 * 1000), .int .i64 (3000 + x5 * 500), .int .i64 (100 + x7), .int .i64 (5000 + x9 * 1000), .int .i64 (60 + x11)]) (by first | with_reducible exact BI.put_7 B0.out _ _ _ _ _ _ _ | with_reducible exact (BI.put_7 B0.out _ _ _ _ _ _ _).alloc _ | with_reducible exact ((BI.put_7 B0.out _ _ _ _ _ _ _).alloc _).alloc _) rfl ?_ ?_
  · intro W hW
    have e0 := hW.cell 0 (by simp)
    have e1 := hW.cell 1 (by simp)
    have e2 := hW.cell 2 (by simp)
    have e3 := hW.cell 3 (by simp)
    have e4 := hW.cell 4 (by simp)
    have e5 := hW.cell 5 (by simp)
    have e6 := hW.cell 6 (by simp)
    simp only [List.getD_cons_zero, List.getD_cons_succ] at e0 e1 e2 e3 e4 e5 e6
    simp [results, Try.results31, go_sem, e0, e1, e2, e3, e4, e5, e6]
  · exact ⟨_, _, _, _, _, _, _, rfl, ⟨i64_of (by omega), i64_of (by omega), i64_of (by omega), i64_of (by omega), i64_of (by omega), i64_of (by omega), i64_of (by omega)⟩, by repeat' (first | with_reducible exact HS12.out.more (by omega) | (with_reducible refine Src.setNew ?_ _ (by dsimp only; omega)) | (with_reducible refine Src.alloc ?_ _) | (with_reducible refine Src.drewN ?_ _)), by repeat' (first | with_reducible exact HO.out | (with_reducible refine Only.setNew ?_ _ (by dsimp only; omega)) | (with_reducible refine Only.alloc ?_ _) | (with_reducible refine Only.drewN ?_) | (with_reducible refine Only.drew ?_))⟩
set_option maxHeartbeats 8000000 in
set_option maxRecDepth 20000 in
theorem bentBs_any (p N : Nat) (w : World) (hN : N + 20 ≤ 1000000) (h : Src w p N) : Calls Try.prog 15 #[.pointer (some ⟨p, 0, none⟩)] w fun e w' => ∃ a0 a1 a2 a3 a4 a5 a6 : Int, e = .returned (.agg #[.int .i64 a0, .int .i64 a1, .int .i64 a2, .int .i64 a3, .int .i64 a4, .int .i64 a5, .int .i64 a6]) ∧ (I64 a0 ∧ I64 a1 ∧ I64 a2 ∧ I64 a3 ∧ I64 a4 ∧ I64 a5 ∧ I64 a6) ∧ Src w' p (N + 20) ∧ Only p (p + 1) w w' := by
  have H := Lib.hid h
  clear h
  have hpl := H.out.lt
  have hb0 : Below w.heap.size w (w.alloc (.cells #[.int .i64 0, .int .i64 0, .int .i64 0, .int .i64 0, .int .i64 0, .int .i64 0, .int .i64 0] 25)) := by repeat' first | exact gr_refl _ | with_reducible assumption | with_reducible apply gr_alloc | with_reducible apply gr_set | with_reducible apply gr_drew | with_reducible apply gr_drewN | exact Nat.le_add_right _ _ | exact Nat.le_refl _ | (refine gr_then (by with_reducible assumption) ?_)
  have B0 := Lib.hid (show BI (w.alloc (.cells #[.int .i64 0, .int .i64 0, .int .i64 0, .int .i64 0, .int .i64 0, .int .i64 0, .int .i64 0] 25)) (w.heap.size) 25 [0, 0, 0, 0, 0, 0, 0] from heap_alloc_new w _)
  replace H := Lib.hid (H.out.late hb0)
  have HO := Lib.hid (Only.of_below (lo := p) (hi := p + 1) hb0)
  have hz : w.heap.size + 1 ≤ (w.alloc (.cells #[.int .i64 0, .int .i64 0, .int .i64 0, .int .i64 0, .int .i64 0, .int .i64 0, .int .i64 0] 25)).heap.size := by simp
  clear hb0
  go_enter Try.func15, Try.ntmps15
  go_wp2_with fail
  generalize w.alloc (.cells #[.int .i64 0, .int .i64 0, .int .i64 0, .int .i64 0, .int .i64 0, .int .i64 0, .int .i64 0] 25) = v0 at *
  have hg0 : w.heap.size < v0.heap.size := by omega
  have hp0 : p + 1 ≤ w.heap.size := hpl
  generalize hgg : w.heap.size = g0 at *
  go_at_call 31
  (with_reducible refine (drawBs_any p _ _ (by omega) H.out).mono ?_)
  rintro e w1 ⟨a0, a1, a2, a3, a4, a5, a6, rfl, hq, hs, ho⟩
  have HS1 := Lib.hid hs
  have HO1 := Lib.hid ho
  clear hs ho
  have hz1 := HO1.out.size
  replace B0 := Lib.hid (B0.out.only HO1.out (by omega))
  replace HO := Lib.hid (HO.out.trans HO1.out)
  have HQ := Lib.hid hq
  clear hq
  have hb : Below w1.heap.size w1 (w1.alloc (.cells #[.int .i64 a0, .int .i64 a1, .int .i64 a2, .int .i64 a3, .int .i64 a4, .int .i64 a5, .int .i64 a6] 25)) := gr_alloc (gr_refl _)
  have B1 := Lib.hid (show BI (w1.alloc (.cells #[.int .i64 a0, .int .i64 a1, .int .i64 a2, .int .i64 a3, .int .i64 a4, .int .i64 a5, .int .i64 a6] 25)) w1.heap.size 25 [a0, a1, a2, a3, a4, a5, a6] from heap_alloc_new _ _)
  replace B0 := Lib.hid (B0.out.late hb)
  replace HO := Lib.hid (HO.out.trans (Only.of_below hb))
  have hp2 : p + 1 ≤ w1.heap.size := HS1.out.lt
  have HS2 := Lib.hid (HS1.out.late hb)
  have hz2 : w1.heap.size + 1 ≤ (w1.alloc (.cells #[.int .i64 a0, .int .i64 a1, .int .i64 a2, .int .i64 a3, .int .i64 a4, .int .i64 a5, .int .i64 a6] 25)).heap.size := by simp
  clear hb
  go_wp2_with fail
  generalize w1.alloc (.cells #[.int .i64 a0, .int .i64 a1, .int .i64 a2, .int .i64 a3, .int .i64 a4, .int .i64 a5, .int .i64 a6] 25) = w2 at *
  generalize hgg2 : w1.heap.size = g1 at *
  go_at_call 32
  (with_reducible refine (pick_any p _ _ _ (by omega) (i64_of (by omega)) HS2.out).mono ?_)
  rintro e w3 ⟨x3, rfl, hx3, hy3, hm3, hn3, hs, ho⟩
  have HS3 := Lib.hid hs
  have HO3 := Lib.hid ho
  clear hs ho
  have hz3 := HO3.out.size
  replace B0 := Lib.hid (B0.out.only HO3.out (by omega))
  replace B1 := Lib.hid (B1.out.only HO3.out (by omega))
  replace HO := Lib.hid (HO.out.trans HO3.out)
  by_cases hc0 : x3 = 0
  · subst hc0
    go_wp2_with fail
    go_at_call 33
    refine (among_lit p _ [9, 10, 200, 201, -9223372036854775808] 2 _ (by omega) (by simp) (by simp) (by intro x hx; simp only [List.mem_cons, List.not_mem_nil, or_false] at hx; unfold I64; omega) HS3.out).mono ?_
    rintro e w4 ⟨x4, rfl, hq4, hs, ho⟩
    have HS4 := Lib.hid hs
    have HO4 := Lib.hid ho
    clear hs ho
    have hz4 := HO4.out.size
    replace B0 := Lib.hid (B0.out.only HO4.out (by omega))
    replace B1 := Lib.hid (B1.out.only HO4.out (by omega))
    replace HO := Lib.hid (HO.out.trans HO4.out)
    have HQ4 := Lib.hid hq4
    clear hq4
    have cB0_0 := B0.out.cell 0 (by simp)
    have cB0_1 := B0.out.cell 1 (by simp)
    have cB0_2 := B0.out.cell 2 (by simp)
    have cB0_3 := B0.out.cell 3 (by simp)
    have cB0_4 := B0.out.cell 4 (by simp)
    have cB0_5 := B0.out.cell 5 (by simp)
    have cB0_6 := B0.out.cell 6 (by simp)
    have fB0_0 := B0.out.free 0
    have fB0_1 := B0.out.free 1
    have fB0_2 := B0.out.free 2
    have fB0_3 := B0.out.free 3
    have fB0_4 := B0.out.free 4
    have fB0_5 := B0.out.free 5
    have fB0_6 := B0.out.free 6
    simp only [List.getD_cons_zero, List.getD_cons_succ] at cB0_0 cB0_1 cB0_2 cB0_3 cB0_4 cB0_5 cB0_6
    have ltB0 := B0.out.lt
    have cB1_0 := B1.out.cell 0 (by simp)
    have cB1_1 := B1.out.cell 1 (by simp)
    have cB1_2 := B1.out.cell 2 (by simp)
    have cB1_3 := B1.out.cell 3 (by simp)
    have cB1_4 := B1.out.cell 4 (by simp)
    have cB1_5 := B1.out.cell 5 (by simp)
    have cB1_6 := B1.out.cell 6 (by simp)
    have fB1_0 := B1.out.free 0
    simp only [List.getD_cons_zero, List.getD_cons_succ] at cB1_0 cB1_1 cB1_2 cB1_3 cB1_4 cB1_5 cB1_6
    have ltB1 := B1.out.lt
    have B1' := Lib.hid (show BI (w4.setCell ⟨g1, 0, none⟩ (.int .i64 x4)) g1 _ [x4, a1, a2, a3, a4, a5, a6] from B1.out.put 0 x4)
    clear B1
    have B1 := B1'
    clear B1'
    replace B0 := Lib.hid (B0.out.far (p := ⟨g1, 0, none⟩) (by dsimp only; omega) (.int .i64 x4))
    replace HO := Lib.hid (HO.out.setNew (q := ⟨g1, 0, none⟩) (.int .i64 x4) (by dsimp only; omega))
    have HS5 := Lib.hid (HS4.out.setNew (q := ⟨g1, 0, none⟩) (.int .i64 x4) (by dsimp only; omega))
    have hz5 : w4.heap.size ≤ (w4.setCell ⟨g1, 0, none⟩ (.int .i64 x4)).heap.size := by simp
    have hs5 : (w4.setCell ⟨g1, 0, none⟩ (.int .i64 x4)).heap.size = w4.heap.size := by simp
    go_wp2
    refine ret_box (g := g0) (zs := [x4, a1, a2, a3, a4, a5, a6]) (v := .agg #[.int .i64 x4, .int .i64 a1, .int .i64 a2, .int .i64 a3, .int .i64 a4, .int .i64 a5, .int .i64 a6]) (by first | with_reducible exact BI.put_7 B0.out _ _ _ _ _ _ _ | with_reducible exact (BI.put_7 B0.out _ _ _ _ _ _ _).alloc _ | with_reducible exact ((BI.put_7 B0.out _ _ _ _ _ _ _).alloc _).alloc _) rfl ?_ ?_
    · intro W hW
      have e0 := hW.cell 0 (by simp)
      have e1 := hW.cell 1 (by simp)
      have e2 := hW.cell 2 (by simp)
      have e3 := hW.cell 3 (by simp)
      have e4 := hW.cell 4 (by simp)
      have e5 := hW.cell 5 (by simp)
      have e6 := hW.cell 6 (by simp)
      simp only [List.getD_cons_zero, List.getD_cons_succ] at e0 e1 e2 e3 e4 e5 e6
      simp [results, Try.results15, go_sem, e0, e1, e2, e3, e4, e5, e6]
    · exact ⟨_, _, _, _, _, _, _, rfl, ⟨HQ4.out, HQ.out.2.1, HQ.out.2.2.1, HQ.out.2.2.2.1, HQ.out.2.2.2.2.1, HQ.out.2.2.2.2.2.1, HQ.out.2.2.2.2.2.2⟩, by repeat' (first | with_reducible exact HS5.out.more (by omega) | (with_reducible refine Src.setNew ?_ _ (by dsimp only; omega)) | (with_reducible refine Src.alloc ?_ _) | (with_reducible refine Src.drewN ?_ _)), by repeat' (first | with_reducible exact HO.out | (with_reducible refine Only.setNew ?_ _ (by dsimp only; omega)) | (with_reducible refine Only.alloc ?_ _) | (with_reducible refine Only.drewN ?_) | (with_reducible refine Only.drew ?_))⟩
  have hd0 : (x3 == 0) = false := beq_eq_false_iff_ne.2 hc0
  by_cases hc1 : x3 = 1
  · subst hc1
    go_wp2_with fail
    go_at_call 33
    refine (among_lit p _ [0, 1, 500000, 500001] 2 _ (by omega) (by simp) (by simp) (by intro x hx; simp only [List.mem_cons, List.not_mem_nil, or_false] at hx; unfold I64; omega) HS3.out).mono ?_
    rintro e w4 ⟨x4, rfl, hq4, hs, ho⟩
    have HS4 := Lib.hid hs
    have HO4 := Lib.hid ho
    clear hs ho
    have hz4 := HO4.out.size
    replace B0 := Lib.hid (B0.out.only HO4.out (by omega))
    replace B1 := Lib.hid (B1.out.only HO4.out (by omega))
    replace HO := Lib.hid (HO.out.trans HO4.out)
    have HQ4 := Lib.hid hq4
    clear hq4
    have cB0_0 := B0.out.cell 0 (by simp)
    have cB0_1 := B0.out.cell 1 (by simp)
    have cB0_2 := B0.out.cell 2 (by simp)
    have cB0_3 := B0.out.cell 3 (by simp)
    have cB0_4 := B0.out.cell 4 (by simp)
    have cB0_5 := B0.out.cell 5 (by simp)
    have cB0_6 := B0.out.cell 6 (by simp)
    have fB0_0 := B0.out.free 0
    have fB0_1 := B0.out.free 1
    have fB0_2 := B0.out.free 2
    have fB0_3 := B0.out.free 3
    have fB0_4 := B0.out.free 4
    have fB0_5 := B0.out.free 5
    have fB0_6 := B0.out.free 6
    simp only [List.getD_cons_zero, List.getD_cons_succ] at cB0_0 cB0_1 cB0_2 cB0_3 cB0_4 cB0_5 cB0_6
    have ltB0 := B0.out.lt
    have cB1_0 := B1.out.cell 0 (by simp)
    have cB1_1 := B1.out.cell 1 (by simp)
    have cB1_2 := B1.out.cell 2 (by simp)
    have cB1_3 := B1.out.cell 3 (by simp)
    have cB1_4 := B1.out.cell 4 (by simp)
    have cB1_5 := B1.out.cell 5 (by simp)
    have cB1_6 := B1.out.cell 6 (by simp)
    have fB1_1 := B1.out.free 1
    simp only [List.getD_cons_zero, List.getD_cons_succ] at cB1_0 cB1_1 cB1_2 cB1_3 cB1_4 cB1_5 cB1_6
    have ltB1 := B1.out.lt
    have B1' := Lib.hid (show BI (w4.setCell ⟨g1, 1, none⟩ (.int .i64 x4)) g1 _ [a0, x4, a2, a3, a4, a5, a6] from B1.out.put 1 x4)
    clear B1
    have B1 := B1'
    clear B1'
    replace B0 := Lib.hid (B0.out.far (p := ⟨g1, 1, none⟩) (by dsimp only; omega) (.int .i64 x4))
    replace HO := Lib.hid (HO.out.setNew (q := ⟨g1, 1, none⟩) (.int .i64 x4) (by dsimp only; omega))
    have HS5 := Lib.hid (HS4.out.setNew (q := ⟨g1, 1, none⟩) (.int .i64 x4) (by dsimp only; omega))
    have hz5 : w4.heap.size ≤ (w4.setCell ⟨g1, 1, none⟩ (.int .i64 x4)).heap.size := by simp
    have hs5 : (w4.setCell ⟨g1, 1, none⟩ (.int .i64 x4)).heap.size = w4.heap.size := by simp
    go_wp2
    refine ret_box (g := g0) (zs := [a0, x4, a2, a3, a4, a5, a6]) (v := .agg #[.int .i64 a0, .int .i64 x4, .int .i64 a2, .int .i64 a3, .int .i64 a4, .int .i64 a5, .int .i64 a6]) (by first | with_reducible exact BI.put_7 B0.out _ _ _ _ _ _ _ | with_reducible exact (BI.put_7 B0.out _ _ _ _ _ _ _).alloc _ | with_reducible exact ((BI.put_7 B0.out _ _ _ _ _ _ _).alloc _).alloc _) rfl ?_ ?_
    · intro W hW
      have e0 := hW.cell 0 (by simp)
      have e1 := hW.cell 1 (by simp)
      have e2 := hW.cell 2 (by simp)
      have e3 := hW.cell 3 (by simp)
      have e4 := hW.cell 4 (by simp)
      have e5 := hW.cell 5 (by simp)
      have e6 := hW.cell 6 (by simp)
      simp only [List.getD_cons_zero, List.getD_cons_succ] at e0 e1 e2 e3 e4 e5 e6
      simp [results, Try.results15, go_sem, e0, e1, e2, e3, e4, e5, e6]
    · exact ⟨_, _, _, _, _, _, _, rfl, ⟨HQ.out.1, HQ4.out, HQ.out.2.2.1, HQ.out.2.2.2.1, HQ.out.2.2.2.2.1, HQ.out.2.2.2.2.2.1, HQ.out.2.2.2.2.2.2⟩, by repeat' (first | with_reducible exact HS5.out.more (by omega) | (with_reducible refine Src.setNew ?_ _ (by dsimp only; omega)) | (with_reducible refine Src.alloc ?_ _) | (with_reducible refine Src.drewN ?_ _)), by repeat' (first | with_reducible exact HO.out | (with_reducible refine Only.setNew ?_ _ (by dsimp only; omega)) | (with_reducible refine Only.alloc ?_ _) | (with_reducible refine Only.drewN ?_) | (with_reducible refine Only.drew ?_))⟩
  have hd1 : (x3 == 1) = false := beq_eq_false_iff_ne.2 hc1
  by_cases hc2 : x3 = 2
  · subst hc2
    go_wp2_with fail
    go_at_call 33
    refine (among_lit p _ [-1, 0, 500000, 500001] 2 _ (by omega) (by simp) (by simp) (by intro x hx; simp only [List.mem_cons, List.not_mem_nil, or_false] at hx; unfold I64; omega) HS3.out).mono ?_
    rintro e w4 ⟨x4, rfl, hq4, hs, ho⟩
    have HS4 := Lib.hid hs
    have HO4 := Lib.hid ho
    clear hs ho
    have hz4 := HO4.out.size
    replace B0 := Lib.hid (B0.out.only HO4.out (by omega))
    replace B1 := Lib.hid (B1.out.only HO4.out (by omega))
    replace HO := Lib.hid (HO.out.trans HO4.out)
    have HQ4 := Lib.hid hq4
    clear hq4
    have cB0_0 := B0.out.cell 0 (by simp)
    have cB0_1 := B0.out.cell 1 (by simp)
    have cB0_2 := B0.out.cell 2 (by simp)
    have cB0_3 := B0.out.cell 3 (by simp)
    have cB0_4 := B0.out.cell 4 (by simp)
    have cB0_5 := B0.out.cell 5 (by simp)
    have cB0_6 := B0.out.cell 6 (by simp)
    have fB0_0 := B0.out.free 0
    have fB0_1 := B0.out.free 1
    have fB0_2 := B0.out.free 2
    have fB0_3 := B0.out.free 3
    have fB0_4 := B0.out.free 4
    have fB0_5 := B0.out.free 5
    have fB0_6 := B0.out.free 6
    simp only [List.getD_cons_zero, List.getD_cons_succ] at cB0_0 cB0_1 cB0_2 cB0_3 cB0_4 cB0_5 cB0_6
    have ltB0 := B0.out.lt
    have cB1_0 := B1.out.cell 0 (by simp)
    have cB1_1 := B1.out.cell 1 (by simp)
    have cB1_2 := B1.out.cell 2 (by simp)
    have cB1_3 := B1.out.cell 3 (by simp)
    have cB1_4 := B1.out.cell 4 (by simp)
    have cB1_5 := B1.out.cell 5 (by simp)
    have cB1_6 := B1.out.cell 6 (by simp)
    have fB1_2 := B1.out.free 2
    simp only [List.getD_cons_zero, List.getD_cons_succ] at cB1_0 cB1_1 cB1_2 cB1_3 cB1_4 cB1_5 cB1_6
    have ltB1 := B1.out.lt
    have B1' := Lib.hid (show BI (w4.setCell ⟨g1, 2, none⟩ (.int .i64 x4)) g1 _ [a0, a1, x4, a3, a4, a5, a6] from B1.out.put 2 x4)
    clear B1
    have B1 := B1'
    clear B1'
    replace B0 := Lib.hid (B0.out.far (p := ⟨g1, 2, none⟩) (by dsimp only; omega) (.int .i64 x4))
    replace HO := Lib.hid (HO.out.setNew (q := ⟨g1, 2, none⟩) (.int .i64 x4) (by dsimp only; omega))
    have HS5 := Lib.hid (HS4.out.setNew (q := ⟨g1, 2, none⟩) (.int .i64 x4) (by dsimp only; omega))
    have hz5 : w4.heap.size ≤ (w4.setCell ⟨g1, 2, none⟩ (.int .i64 x4)).heap.size := by simp
    have hs5 : (w4.setCell ⟨g1, 2, none⟩ (.int .i64 x4)).heap.size = w4.heap.size := by simp
    go_wp2
    refine ret_box (g := g0) (zs := [a0, a1, x4, a3, a4, a5, a6]) (v := .agg #[.int .i64 a0, .int .i64 a1, .int .i64 x4, .int .i64 a3, .int .i64 a4, .int .i64 a5, .int .i64 a6]) (by first | with_reducible exact BI.put_7 B0.out _ _ _ _ _ _ _ | with_reducible exact (BI.put_7 B0.out _ _ _ _ _ _ _).alloc _ | with_reducible exact ((BI.put_7 B0.out _ _ _ _ _ _ _).alloc _).alloc _) rfl ?_ ?_
    · intro W hW
      have e0 := hW.cell 0 (by simp)
      have e1 := hW.cell 1 (by simp)
      have e2 := hW.cell 2 (by simp)
      have e3 := hW.cell 3 (by simp)
      have e4 := hW.cell 4 (by simp)
      have e5 := hW.cell 5 (by simp)
      have e6 := hW.cell 6 (by simp)
      simp only [List.getD_cons_zero, List.getD_cons_succ] at e0 e1 e2 e3 e4 e5 e6
      simp [results, Try.results15, go_sem, e0, e1, e2, e3, e4, e5, e6]
    · exact ⟨_, _, _, _, _, _, _, rfl, ⟨HQ.out.1, HQ.out.2.1, HQ4.out, HQ.out.2.2.2.1, HQ.out.2.2.2.2.1, HQ.out.2.2.2.2.2.1, HQ.out.2.2.2.2.2.2⟩, by repeat' (first | with_reducible exact HS5.out.more (by omega) | (with_reducible refine Src.setNew ?_ _ (by dsimp only; omega)) | (with_reducible refine Src.alloc ?_ _) | (with_reducible refine Src.drewN ?_ _)), by repeat' (first | with_reducible exact HO.out | (with_reducible refine Only.setNew ?_ _ (by dsimp only; omega)) | (with_reducible refine Only.alloc ?_ _) | (with_reducible refine Only.drewN ?_) | (with_reducible refine Only.drew ?_))⟩
  have hd2 : (x3 == 2) = false := beq_eq_false_iff_ne.2 hc2
  by_cases hc3 : x3 = 3
  · subst hc3
    go_wp2_with fail
    go_at_call 33
    refine (among_lit p _ [-1, 0, 500000, 500001] 2 _ (by omega) (by simp) (by simp) (by intro x hx; simp only [List.mem_cons, List.not_mem_nil, or_false] at hx; unfold I64; omega) HS3.out).mono ?_
    rintro e w4 ⟨x4, rfl, hq4, hs, ho⟩
    have HS4 := Lib.hid hs
    have HO4 := Lib.hid ho
    clear hs ho
    have hz4 := HO4.out.size
    replace B0 := Lib.hid (B0.out.only HO4.out (by omega))
    replace B1 := Lib.hid (B1.out.only HO4.out (by omega))
    replace HO := Lib.hid (HO.out.trans HO4.out)
    have HQ4 := Lib.hid hq4
    clear hq4
    have cB0_0 := B0.out.cell 0 (by simp)
    have cB0_1 := B0.out.cell 1 (by simp)
    have cB0_2 := B0.out.cell 2 (by simp)
    have cB0_3 := B0.out.cell 3 (by simp)
    have cB0_4 := B0.out.cell 4 (by simp)
    have cB0_5 := B0.out.cell 5 (by simp)
    have cB0_6 := B0.out.cell 6 (by simp)
    have fB0_0 := B0.out.free 0
    have fB0_1 := B0.out.free 1
    have fB0_2 := B0.out.free 2
    have fB0_3 := B0.out.free 3
    have fB0_4 := B0.out.free 4
    have fB0_5 := B0.out.free 5
    have fB0_6 := B0.out.free 6
    simp only [List.getD_cons_zero, List.getD_cons_succ] at cB0_0 cB0_1 cB0_2 cB0_3 cB0_4 cB0_5 cB0_6
    have ltB0 := B0.out.lt
    have cB1_0 := B1.out.cell 0 (by simp)
    have cB1_1 := B1.out.cell 1 (by simp)
    have cB1_2 := B1.out.cell 2 (by simp)
    have cB1_3 := B1.out.cell 3 (by simp)
    have cB1_4 := B1.out.cell 4 (by simp)
    have cB1_5 := B1.out.cell 5 (by simp)
    have cB1_6 := B1.out.cell 6 (by simp)
    have fB1_3 := B1.out.free 3
    simp only [List.getD_cons_zero, List.getD_cons_succ] at cB1_0 cB1_1 cB1_2 cB1_3 cB1_4 cB1_5 cB1_6
    have ltB1 := B1.out.lt
    have B1' := Lib.hid (show BI (w4.setCell ⟨g1, 3, none⟩ (.int .i64 x4)) g1 _ [a0, a1, a2, x4, a4, a5, a6] from B1.out.put 3 x4)
    clear B1
    have B1 := B1'
    clear B1'
    replace B0 := Lib.hid (B0.out.far (p := ⟨g1, 3, none⟩) (by dsimp only; omega) (.int .i64 x4))
    replace HO := Lib.hid (HO.out.setNew (q := ⟨g1, 3, none⟩) (.int .i64 x4) (by dsimp only; omega))
    have HS5 := Lib.hid (HS4.out.setNew (q := ⟨g1, 3, none⟩) (.int .i64 x4) (by dsimp only; omega))
    have hz5 : w4.heap.size ≤ (w4.setCell ⟨g1, 3, none⟩ (.int .i64 x4)).heap.size := by simp
    have hs5 : (w4.setCell ⟨g1, 3, none⟩ (.int .i64 x4)).heap.size = w4.heap.size := by simp
    go_wp2
    refine ret_box (g := g0) (zs := [a0, a1, a2, x4, a4, a5, a6]) (v := .agg #[.int .i64 a0, .int .i64 a1, .int .i64 a2, .int .i64 x4, .int .i64 a4, .int .i64 a5, .int .i64 a6]) (by first | with_reducible exact BI.put_7 B0.out _ _ _ _ _ _ _ | with_reducible exact (BI.put_7 B0.out _ _ _ _ _ _ _).alloc _ | with_reducible exact ((BI.put_7 B0.out _ _ _ _ _ _ _).alloc _).alloc _) rfl ?_ ?_
    · intro W hW
      have e0 := hW.cell 0 (by simp)
      have e1 := hW.cell 1 (by simp)
      have e2 := hW.cell 2 (by simp)
      have e3 := hW.cell 3 (by simp)
      have e4 := hW.cell 4 (by simp)
      have e5 := hW.cell 5 (by simp)
      have e6 := hW.cell 6 (by simp)
      simp only [List.getD_cons_zero, List.getD_cons_succ] at e0 e1 e2 e3 e4 e5 e6
      simp [results, Try.results15, go_sem, e0, e1, e2, e3, e4, e5, e6]
    · exact ⟨_, _, _, _, _, _, _, rfl, ⟨HQ.out.1, HQ.out.2.1, HQ.out.2.2.1, HQ4.out, HQ.out.2.2.2.2.1, HQ.out.2.2.2.2.2.1, HQ.out.2.2.2.2.2.2⟩, by repeat' (first | with_reducible exact HS5.out.more (by omega) | (with_reducible refine Src.setNew ?_ _ (by dsimp only; omega)) | (with_reducible refine Src.alloc ?_ _) | (with_reducible refine Src.drewN ?_ _)), by repeat' (first | with_reducible exact HO.out | (with_reducible refine Only.setNew ?_ _ (by dsimp only; omega)) | (with_reducible refine Only.alloc ?_ _) | (with_reducible refine Only.drewN ?_) | (with_reducible refine Only.drew ?_))⟩
  have hd3 : (x3 == 3) = false := beq_eq_false_iff_ne.2 hc3
  by_cases hc4 : x3 = 4
  · subst hc4
    go_wp2_with fail
    go_at_call 33
    refine (among_lit p _ [-1, 0, 1000, 1001] 2 _ (by omega) (by simp) (by simp) (by intro x hx; simp only [List.mem_cons, List.not_mem_nil, or_false] at hx; unfold I64; omega) HS3.out).mono ?_
    rintro e w4 ⟨x4, rfl, hq4, hs, ho⟩
    have HS4 := Lib.hid hs
    have HO4 := Lib.hid ho
    clear hs ho
    have hz4 := HO4.out.size
    replace B0 := Lib.hid (B0.out.only HO4.out (by omega))
    replace B1 := Lib.hid (B1.out.only HO4.out (by omega))
    replace HO := Lib.hid (HO.out.trans HO4.out)
    have HQ4 := Lib.hid hq4
    clear hq4
    have cB0_0 := B0.out.cell 0 (by simp)
    have cB0_1 := B0.out.cell 1 (by simp)
    have cB0_2 := B0.out.cell 2 (by simp)
    have cB0_3 := B0.out.cell 3 (by simp)
    have cB0_4 := B0.out.cell 4 (by simp)
    have cB0_5 := B0.out.cell 5 (by simp)
    have cB0_6 := B0.out.cell 6 (by simp)
    have fB0_0 := B0.out.free 0
    have fB0_1 := B0.out.free 1
    have fB0_2 := B0.out.free 2
    have fB0_3 := B0.out.free 3
    have fB0_4 := B0.out.free 4
    have fB0_5 := B0.out.free 5
    have fB0_6 := B0.out.free 6
    simp only [List.getD_cons_zero, List.getD_cons_succ] at cB0_0 cB0_1 cB0_2 cB0_3 cB0_4 cB0_5 cB0_6
    have ltB0 := B0.out.lt
    have cB1_0 := B1.out.cell 0 (by simp)
    have cB1_1 := B1.out.cell 1 (by simp)
    have cB1_2 := B1.out.cell 2 (by simp)
    have cB1_3 := B1.out.cell 3 (by simp)
    have cB1_4 := B1.out.cell 4 (by simp)
    have cB1_5 := B1.out.cell 5 (by simp)
    have cB1_6 := B1.out.cell 6 (by simp)
    have fB1_6 := B1.out.free 6
    simp only [List.getD_cons_zero, List.getD_cons_succ] at cB1_0 cB1_1 cB1_2 cB1_3 cB1_4 cB1_5 cB1_6
    have ltB1 := B1.out.lt
    have B1' := Lib.hid (show BI (w4.setCell ⟨g1, 6, none⟩ (.int .i64 x4)) g1 _ [a0, a1, a2, a3, a4, a5, x4] from B1.out.put 6 x4)
    clear B1
    have B1 := B1'
    clear B1'
    replace B0 := Lib.hid (B0.out.far (p := ⟨g1, 6, none⟩) (by dsimp only; omega) (.int .i64 x4))
    replace HO := Lib.hid (HO.out.setNew (q := ⟨g1, 6, none⟩) (.int .i64 x4) (by dsimp only; omega))
    have HS5 := Lib.hid (HS4.out.setNew (q := ⟨g1, 6, none⟩) (.int .i64 x4) (by dsimp only; omega))
    have hz5 : w4.heap.size ≤ (w4.setCell ⟨g1, 6, none⟩ (.int .i64 x4)).heap.size := by simp
    have hs5 : (w4.setCell ⟨g1, 6, none⟩ (.int .i64 x4)).heap.size = w4.heap.size := by simp
    go_wp2
    refine ret_box (g := g0) (zs := [a0, a1, a2, a3, a4, a5, x4]) (v := .agg #[.int .i64 a0, .int .i64 a1, .int .i64 a2, .int .i64 a3, .int .i64 a4, .int .i64 a5, .int .i64 x4]) (by first | with_reducible exact BI.put_7 B0.out _ _ _ _ _ _ _ | with_reducible exact (BI.put_7 B0.out _ _ _ _ _ _ _).alloc _ | with_reducible exact ((BI.put_7 B0.out _ _ _ _ _ _ _).alloc _).alloc _) rfl ?_ ?_
    · intro W hW
      have e0 := hW.cell 0 (by simp)
      have e1 := hW.cell 1 (by simp)
      have e2 := hW.cell 2 (by simp)
      have e3 := hW.cell 3 (by simp)
      have e4 := hW.cell 4 (by simp)
      have e5 := hW.cell 5 (by simp)
      have e6 := hW.cell 6 (by simp)
      simp only [List.getD_cons_zero, List.getD_cons_succ] at e0 e1 e2 e3 e4 e5 e6
      simp [results, Try.results15, go_sem, e0, e1, e2, e3, e4, e5, e6]
    · exact ⟨_, _, _, _, _, _, _, rfl, ⟨HQ.out.1, HQ.out.2.1, HQ.out.2.2.1, HQ.out.2.2.2.1, HQ.out.2.2.2.2.1, HQ.out.2.2.2.2.2.1, HQ4.out⟩, by repeat' (first | with_reducible exact HS5.out.more (by omega) | (with_reducible refine Src.setNew ?_ _ (by dsimp only; omega)) | (with_reducible refine Src.alloc ?_ _) | (with_reducible refine Src.drewN ?_ _)), by repeat' (first | with_reducible exact HO.out | (with_reducible refine Only.setNew ?_ _ (by dsimp only; omega)) | (with_reducible refine Only.alloc ?_ _) | (with_reducible refine Only.drewN ?_) | (with_reducible refine Only.drew ?_))⟩
  have hd4 : (x3 == 4) = false := beq_eq_false_iff_ne.2 hc4
  by_cases hc5 : x3 = 5
  · subst hc5
    go_wp2_with fail
    go_at_call 33
    refine (among_lit p _ [0, 500000, 500001] 2 _ (by omega) (by simp) (by simp) (by intro x hx; simp only [List.mem_cons, List.not_mem_nil, or_false] at hx; unfold I64; omega) HS3.out).mono ?_
    rintro e w4 ⟨x4, rfl, hq4, hs, ho⟩
    have HS4 := Lib.hid hs
    have HO4 := Lib.hid ho
    clear hs ho
    have hz4 := HO4.out.size
    replace B0 := Lib.hid (B0.out.only HO4.out (by omega))
    replace B1 := Lib.hid (B1.out.only HO4.out (by omega))
    replace HO := Lib.hid (HO.out.trans HO4.out)
    have HQ4 := Lib.hid hq4
    clear hq4
    have cB1_0 := B1.out.cell 0 (by simp)
    have cB1_1 := B1.out.cell 1 (by simp)
    have cB1_2 := B1.out.cell 2 (by simp)
    have cB1_3 := B1.out.cell 3 (by simp)
    have cB1_4 := B1.out.cell 4 (by simp)
    have cB1_5 := B1.out.cell 5 (by simp)
    have cB1_6 := B1.out.cell 6 (by simp)
    have fB1_5 := B1.out.free 5
    simp only [List.getD_cons_zero, List.getD_cons_succ] at cB1_0 cB1_1 cB1_2 cB1_3 cB1_4 cB1_5 cB1_6
    have ltB1 := B1.out.lt
    have B1' := Lib.hid (show BI (w4.setCell ⟨g1, 5, none⟩ (.int .i64 x4)) g1 _ [a0, a1, a2, a3, a4, x4, a6] from B1.out.put 5 x4)
    clear B1
    have B1 := B1'
    clear B1'
    replace B0 := Lib.hid (B0.out.far (p := ⟨g1, 5, none⟩) (by dsimp only; omega) (.int .i64 x4))
    replace HO := Lib.hid (HO.out.setNew (q := ⟨g1, 5, none⟩) (.int .i64 x4) (by dsimp only; omega))
    have HS5 := Lib.hid (HS4.out.setNew (q := ⟨g1, 5, none⟩) (.int .i64 x4) (by dsimp only; omega))
    have hz5 : w4.heap.size ≤ (w4.setCell ⟨g1, 5, none⟩ (.int .i64 x4)).heap.size := by simp
    have hs5 : (w4.setCell ⟨g1, 5, none⟩ (.int .i64 x4)).heap.size = w4.heap.size := by simp
    go_wp2_with fail
    generalize w4.setCell ⟨g1, 5, none⟩ (.int .i64 x4) = w5 at *
    clear cB1_0 cB1_1 cB1_2 cB1_3 cB1_4 cB1_5 cB1_6 fB1_5 ltB1
    (try rw [← hs5])
    clear hs5
    go_at_call 33
    refine (among_lit p _ [-1, 0, 1000, 1001] 2 _ (by omega) (by simp) (by simp) (by intro x hx; simp only [List.mem_cons, List.not_mem_nil, or_false] at hx; unfold I64; omega) HS5.out).mono ?_
    rintro e w6 ⟨x6, rfl, hq6, hs, ho⟩
    have HS6 := Lib.hid hs
    have HO6 := Lib.hid ho
    clear hs ho
    have hz6 := HO6.out.size
    replace B0 := Lib.hid (B0.out.only HO6.out (by omega))
    replace B1 := Lib.hid (B1.out.only HO6.out (by omega))
    replace HO := Lib.hid (HO.out.trans HO6.out)
    have HQ6 := Lib.hid hq6
    clear hq6
    have cB0_0 := B0.out.cell 0 (by simp)
    have cB0_1 := B0.out.cell 1 (by simp)
    have cB0_2 := B0.out.cell 2 (by simp)
    have cB0_3 := B0.out.cell 3 (by simp)
    have cB0_4 := B0.out.cell 4 (by simp)
    have cB0_5 := B0.out.cell 5 (by simp)
    have cB0_6 := B0.out.cell 6 (by simp)
    have fB0_0 := B0.out.free 0
    have fB0_1 := B0.out.free 1
    have fB0_2 := B0.out.free 2
    have fB0_3 := B0.out.free 3
    have fB0_4 := B0.out.free 4
    have fB0_5 := B0.out.free 5
    have fB0_6 := B0.out.free 6
    simp only [List.getD_cons_zero, List.getD_cons_succ] at cB0_0 cB0_1 cB0_2 cB0_3 cB0_4 cB0_5 cB0_6
    have ltB0 := B0.out.lt
    have cB1_0 := B1.out.cell 0 (by simp)
    have cB1_1 := B1.out.cell 1 (by simp)
    have cB1_2 := B1.out.cell 2 (by simp)
    have cB1_3 := B1.out.cell 3 (by simp)
    have cB1_4 := B1.out.cell 4 (by simp)
    have cB1_5 := B1.out.cell 5 (by simp)
    have cB1_6 := B1.out.cell 6 (by simp)
    have fB1_4 := B1.out.free 4
    simp only [List.getD_cons_zero, List.getD_cons_succ] at cB1_0 cB1_1 cB1_2 cB1_3 cB1_4 cB1_5 cB1_6
    have ltB1 := B1.out.lt
    have B1' := Lib.hid (show BI (w6.setCell ⟨g1, 4, none⟩ (.int .i64 x6)) g1 _ [a0, a1, a2, a3, x6, x4, a6] from B1.out.put 4 x6)
    clear B1
    have B1 := B1'
    clear B1'
    replace B0 := Lib.hid (B0.out.far (p := ⟨g1, 4, none⟩) (by dsimp only; omega) (.int .i64 x6))
    replace HO := Lib.hid (HO.out.setNew (q := ⟨g1, 4, none⟩) (.int .i64 x6) (by dsimp only; omega))
    have HS7 := Lib.hid (HS6.out.setNew (q := ⟨g1, 4, none⟩) (.int .i64 x6) (by dsimp only; omega))
    have hz7 : w6.heap.size ≤ (w6.setCell ⟨g1, 4, none⟩ (.int .i64 x6)).heap.size := by simp
    have hs7 : (w6.setCell ⟨g1, 4, none⟩ (.int .i64 x6)).heap.size = w6.heap.size := by simp
    go_wp2
    refine ret_box (g := g0) (zs := [a0, a1, a2, a3, x6, x4, a6]) (v := .agg #[.int .i64 a0, .int .i64 a1, .int .i64 a2, .int .i64 a3, .int .i64 x6, .int .i64 x4, .int .i64 a6]) (by first | with_reducible exact BI.put_7 B0.out _ _ _ _ _ _ _ | with_reducible exact (BI.put_7 B0.out _ _ _ _ _ _ _).alloc _ | with_reducible exact ((BI.put_7 B0.out _ _ _ _ _ _ _).alloc _).alloc _) rfl ?_ ?_
    · intro W hW
      have e0 := hW.cell 0 (by simp)
      have e1 := hW.cell 1 (by simp)
      have e2 := hW.cell 2 (by simp)
      have e3 := hW.cell 3 (by simp)
      have e4 := hW.cell 4 (by simp)
      have e5 := hW.cell 5 (by simp)
      have e6 := hW.cell 6 (by simp)
      simp only [List.getD_cons_zero, List.getD_cons_succ] at e0 e1 e2 e3 e4 e5 e6
      simp [results, Try.results15, go_sem, e0, e1, e2, e3, e4, e5, e6]
    · exact ⟨_, _, _, _, _, _, _, rfl, ⟨HQ.out.1, HQ.out.2.1, HQ.out.2.2.1, HQ.out.2.2.2.1, HQ6.out, HQ4.out, HQ.out.2.2.2.2.2.2⟩, by repeat' (first | with_reducible exact HS7.out.more (by omega) | (with_reducible refine Src.setNew ?_ _ (by dsimp only; omega)) | (with_reducible refine Src.alloc ?_ _) | (with_reducible refine Src.drewN ?_ _)), by repeat' (first | with_reducible exact HO.out | (with_reducible refine Only.setNew ?_ _ (by dsimp only; omega)) | (with_reducible refine Only.alloc ?_ _) | (with_reducible refine Only.drewN ?_) | (with_reducible refine Only.drew ?_))⟩
  have hd5 : (x3 == 5) = false := beq_eq_false_iff_ne.2 hc5
  have cB0_0 := B0.out.cell 0 (by simp)
  have cB0_1 := B0.out.cell 1 (by simp)
  have cB0_2 := B0.out.cell 2 (by simp)
  have cB0_3 := B0.out.cell 3 (by simp)
  have cB0_4 := B0.out.cell 4 (by simp)
  have cB0_5 := B0.out.cell 5 (by simp)
  have cB0_6 := B0.out.cell 6 (by simp)
  have fB0_0 := B0.out.free 0
  have fB0_1 := B0.out.free 1
  have fB0_2 := B0.out.free 2
  have fB0_3 := B0.out.free 3
  have fB0_4 := B0.out.free 4
  have fB0_5 := B0.out.free 5
  have fB0_6 := B0.out.free 6
  simp only [List.getD_cons_zero, List.getD_cons_succ] at cB0_0 cB0_1 cB0_2 cB0_3 cB0_4 cB0_5 cB0_6
  have ltB0 := B0.out.lt
  have cB1_0 := B1.out.cell 0 (by simp)
  have cB1_1 := B1.out.cell 1 (by simp)
  have cB1_2 := B1.out.cell 2 (by simp)
  have cB1_3 := B1.out.cell 3 (by simp)
  have cB1_4 := B1.out.cell 4 (by simp)
  have cB1_5 := B1.out.cell 5 (by simp)
  have cB1_6 := B1.out.cell 6 (by simp)
  simp only [List.getD_cons_zero, List.getD_cons_succ] at cB1_0 cB1_1 cB1_2 cB1_3 cB1_4 cB1_5 cB1_6
  have ltB1 := B1.out.lt
  go_wp2
  refine ret_box (g := g0) (zs := [a0, a1, a2, a3, a4, a5, a6]) (v := .agg #[.int .i64 a0, .int .i64 a1, .int .i64 a2, .int .i64 a3, .int .i64 a4, .int .i64 a5, .int .i64 a6]) (by first | with_reducible exact BI.put_7 B0.out _ _ _ _ _ _ _ | with_reducible exact (BI.put_7 B0.out _ _ _ _ _ _ _).alloc _ | with_reducible exact ((BI.put_7 B0.out _ _ _ _ _ _ _).alloc _).alloc _) rfl ?_ ?_
  · intro W hW
    have e0 := hW.cell 0 (by simp)
    have e1 := hW.cell 1 (by simp)
    have e2 := hW.cell 2 (by simp)
    have e3 := hW.cell 3 (by simp)
    have e4 := hW.cell 4 (by simp)
    have e5 := hW.cell 5 (by simp)
    have e6 := hW.cell 6 (by simp)
    simp only [List.getD_cons_zero, List.getD_cons_succ] at e0 e1 e2 e3 e4 e5 e6
    simp [results, Try.results15, go_sem, e0, e1, e2, e3, e4, e5, e6]
  · exact ⟨_, _, _, _, _, _, _, rfl, HQ.out, by repeat' (first | with_reducible exact HS3.out.more (by omega) | (with_reducible refine Src.setNew ?_ _ (by dsimp only; omega)) | (with_reducible refine Src.alloc ?_ _) | (with_reducible refine Src.drewN ?_ _)), by repeat' (first | with_reducible exact HO.out | (with_reducible refine Only.setNew ?_ _ (by dsimp only; omega)) | (with_reducible refine Only.alloc ?_ _) | (with_reducible refine Only.drewN ?_) | (with_reducible refine Only.drew ?_))⟩
set_option maxHeartbeats 8000000 in
set_option maxRecDepth 20000 in
theorem askBs_any (p N : Nat) (w : World) (hN : N + 28 ≤ 1000000) (h : Src w p N) : Calls Try.prog 27 #[.pointer (some ⟨p, 0, none⟩)] w fun e w' => ∃ a0 a1 a2 a3 a4 a5 a6 ld r : Int, e = .returned (.tuple #[.agg #[.int .i64 a0, .int .i64 a1, .int .i64 a2, .int .i64 a3, .int .i64 a4, .int .i64 a5, .int .i64 a6], .int .i64 ld, .int .i64 r]) ∧ (I64 a0 ∧ I64 a1 ∧ I64 a2 ∧ I64 a3 ∧ I64 a4 ∧ I64 a5 ∧ I64 a6) ∧ I64 ld ∧ I64 r ∧ Src w' p (N + 28) ∧ Only p (p + 1) w w' := by
  have H := Lib.hid h
  clear h
  have hpl := H.out.lt
  have hb0 : Below w.heap.size w (w.alloc (.cells #[.int .i64 0, .int .i64 0, .int .i64 0, .int .i64 0, .int .i64 0, .int .i64 0, .int .i64 0] 25)) := by repeat' first | exact gr_refl _ | with_reducible assumption | with_reducible apply gr_alloc | with_reducible apply gr_set | with_reducible apply gr_drew | with_reducible apply gr_drewN | exact Nat.le_add_right _ _ | exact Nat.le_refl _ | (refine gr_then (by with_reducible assumption) ?_)
  have B0 := Lib.hid (show BI (w.alloc (.cells #[.int .i64 0, .int .i64 0, .int .i64 0, .int .i64 0, .int .i64 0, .int .i64 0, .int .i64 0] 25)) (w.heap.size) 25 [0, 0, 0, 0, 0, 0, 0] from heap_alloc_new w _)
  replace H := Lib.hid (H.out.late hb0)
  have HO := Lib.hid (Only.of_below (lo := p) (hi := p + 1) hb0)
  have hz : w.heap.size + 1 ≤ (w.alloc (.cells #[.int .i64 0, .int .i64 0, .int .i64 0, .int .i64 0, .int .i64 0, .int .i64 0, .int .i64 0] 25)).heap.size := by simp
  clear hb0
  go_enter Try.func27, Try.ntmps27
  go_wp2_with fail
  generalize w.alloc (.cells #[.int .i64 0, .int .i64 0, .int .i64 0, .int .i64 0, .int .i64 0, .int .i64 0, .int .i64 0] 25) = v0 at *
  have hg0 : w.heap.size < v0.heap.size := by omega
  have hp0 : p + 1 ≤ w.heap.size := hpl
  generalize hgg : w.heap.size = g0 at *
  go_at_call 15
  (with_reducible refine (bentBs_any p _ _ (by omega) H.out).mono ?_)
  rintro e w1 ⟨a0, a1, a2, a3, a4, a5, a6, rfl, hq, hs, ho⟩
  have HS1 := Lib.hid hs
  have HO1 := Lib.hid ho
  clear hs ho
  have hz1 := HO1.out.size
  replace B0 := Lib.hid (B0.out.only HO1.out (by omega))
  replace HO := Lib.hid (HO.out.trans HO1.out)
  have HQ := Lib.hid hq
  clear hq
  have hb : Below w1.heap.size w1 (w1.alloc (.cells #[.int .i64 a0, .int .i64 a1, .int .i64 a2, .int .i64 a3, .int .i64 a4, .int .i64 a5, .int .i64 a6] 25)) := gr_alloc (gr_refl _)
  have B1 := Lib.hid (show BI (w1.alloc (.cells #[.int .i64 a0, .int .i64 a1, .int .i64 a2, .int .i64 a3, .int .i64 a4, .int .i64 a5, .int .i64 a6] 25)) w1.heap.size 25 [a0, a1, a2, a3, a4, a5, a6] from heap_alloc_new _ _)
  replace B0 := Lib.hid (B0.out.late hb)
  replace HO := Lib.hid (HO.out.trans (Only.of_below hb))
  have hp2 : p + 1 ≤ w1.heap.size := HS1.out.lt
  have HS2 := Lib.hid (HS1.out.late hb)
  have hz2 : w1.heap.size + 1 ≤ (w1.alloc (.cells #[.int .i64 a0, .int .i64 a1, .int .i64 a2, .int .i64 a3, .int .i64 a4, .int .i64 a5, .int .i64 a6] 25)).heap.size := by simp
  clear hb
  go_wp2_with fail
  generalize w1.alloc (.cells #[.int .i64 a0, .int .i64 a1, .int .i64 a2, .int .i64 a3, .int .i64 a4, .int .i64 a5, .int .i64 a6] 25) = w2 at *
  generalize hgg2 : w1.heap.size = g1 at *
  go_at_call 45
  (with_reducible refine (drawLoad_any p _ _ (by omega) HS2.out).mono ?_)
  rintro e w3 ⟨ld, rfl, hl, hs, ho⟩
  have HS3 := Lib.hid hs
  have HO3 := Lib.hid ho
  clear hs ho
  have hz3 := HO3.out.size
  replace B0 := Lib.hid (B0.out.only HO3.out (by omega))
  replace B1 := Lib.hid (B1.out.only HO3.out (by omega))
  replace HO := Lib.hid (HO.out.trans HO3.out)
  have HL := Lib.hid hl
  clear hl
  have cB1_0 := B1.out.cell 0 (by simp)
  have cB1_1 := B1.out.cell 1 (by simp)
  have cB1_2 := B1.out.cell 2 (by simp)
  have cB1_3 := B1.out.cell 3 (by simp)
  have cB1_4 := B1.out.cell 4 (by simp)
  have cB1_5 := B1.out.cell 5 (by simp)
  have cB1_6 := B1.out.cell 6 (by simp)
  have fB1_0 := B1.out.free 0
  have fB1_1 := B1.out.free 1
  have fB1_2 := B1.out.free 2
  have fB1_3 := B1.out.free 3
  have fB1_4 := B1.out.free 4
  have fB1_5 := B1.out.free 5
  have fB1_6 := B1.out.free 6
  simp only [List.getD_cons_zero, List.getD_cons_succ] at cB1_0 cB1_1 cB1_2 cB1_3 cB1_4 cB1_5 cB1_6
  have ltB1 := B1.out.lt
  have cB0_0 := B0.out.cell 0 (by simp)
  have cB0_1 := B0.out.cell 1 (by simp)
  have cB0_2 := B0.out.cell 2 (by simp)
  have cB0_3 := B0.out.cell 3 (by simp)
  have cB0_4 := B0.out.cell 4 (by simp)
  have cB0_5 := B0.out.cell 5 (by simp)
  have cB0_6 := B0.out.cell 6 (by simp)
  have fB0_0 := B0.out.free 0
  have fB0_1 := B0.out.free 1
  have fB0_2 := B0.out.free 2
  have fB0_3 := B0.out.free 3
  have fB0_4 := B0.out.free 4
  have fB0_5 := B0.out.free 5
  have fB0_6 := B0.out.free 6
  simp only [List.getD_cons_zero, List.getD_cons_succ] at cB0_0 cB0_1 cB0_2 cB0_3 cB0_4 cB0_5 cB0_6
  have ltB0 := B0.out.lt
  go_wp2_with fail
  go_region_held3 (fun w' => w'.cell? ⟨g1, 0, none⟩ = some (.int .i64 a0) ∧ w'.cell? ⟨g1, 1, none⟩ = some (.int .i64 a1) ∧ w'.cell? ⟨g1, 2, none⟩ = some (.int .i64 a2) ∧ w'.cell? ⟨g1, 3, none⟩ = some (.int .i64 a3) ∧ w'.cell? ⟨g1, 4, none⟩ = some (.int .i64 a4) ∧ w'.cell? ⟨g1, 5, none⟩ = some (.int .i64 a5) ∧ w'.cell? ⟨g1, 6, none⟩ = some (.int .i64 a6)) (first | with_reducible exact ⟨cB1_0, cB1_1, cB1_2, cB1_3, cB1_4, cB1_5, cB1_6⟩ | with_reducible exact ⟨drewc cB1_0, drewc cB1_1, drewc cB1_2, drewc cB1_3, drewc cB1_4, drewc cB1_5, drewc cB1_6⟩ | with_reducible exact ⟨(ho.keepc (by omega) cB1_0), (ho.keepc (by omega) cB1_1), (ho.keepc (by omega) cB1_2), (ho.keepc (by omega) cB1_3), (ho.keepc (by omega) cB1_4), (ho.keepc (by omega) cB1_5), (ho.keepc (by omega) cB1_6)⟩ | with_reducible exact ⟨(setfar (p := ⟨_, 6, none⟩) (setfar (p := ⟨_, 5, none⟩) (setfar (p := ⟨_, 4, none⟩) (setfar (p := ⟨_, 3, none⟩) (setfar (p := ⟨_, 2, none⟩) (setfar (p := ⟨_, 1, none⟩) (setfar (p := ⟨_, 0, none⟩) (ho.keepc (by omega) cB1_0) (by dsimp only; omega)) (by dsimp only; omega)) (by dsimp only; omega)) (by dsimp only; omega)) (by dsimp only; omega)) (by dsimp only; omega)) (by dsimp only; omega)), (setfar (p := ⟨_, 6, none⟩) (setfar (p := ⟨_, 5, none⟩) (setfar (p := ⟨_, 4, none⟩) (setfar (p := ⟨_, 3, none⟩) (setfar (p := ⟨_, 2, none⟩) (setfar (p := ⟨_, 1, none⟩) (setfar (p := ⟨_, 0, none⟩) (ho.keepc (by omega) cB1_1) (by dsimp only; omega)) (by dsimp only; omega)) (by dsimp only; omega)) (by dsimp only; omega)) (by dsimp only; omega)) (by dsimp only; omega)) (by dsimp only; omega)), (setfar (p := ⟨_, 6, none⟩) (setfar (p := ⟨_, 5, none⟩) (setfar (p := ⟨_, 4, none⟩) (setfar (p := ⟨_, 3, none⟩) (setfar (p := ⟨_, 2, none⟩) (setfar (p := ⟨_, 1, none⟩) (setfar (p := ⟨_, 0, none⟩) (ho.keepc (by omega) cB1_2) (by dsimp only; omega)) (by dsimp only; omega)) (by dsimp only; omega)) (by dsimp only; omega)) (by dsimp only; omega)) (by dsimp only; omega)) (by dsimp only; omega)), (setfar (p := ⟨_, 6, none⟩) (setfar (p := ⟨_, 5, none⟩) (setfar (p := ⟨_, 4, none⟩) (setfar (p := ⟨_, 3, none⟩) (setfar (p := ⟨_, 2, none⟩) (setfar (p := ⟨_, 1, none⟩) (setfar (p := ⟨_, 0, none⟩) (ho.keepc (by omega) cB1_3) (by dsimp only; omega)) (by dsimp only; omega)) (by dsimp only; omega)) (by dsimp only; omega)) (by dsimp only; omega)) (by dsimp only; omega)) (by dsimp only; omega)), (setfar (p := ⟨_, 6, none⟩) (setfar (p := ⟨_, 5, none⟩) (setfar (p := ⟨_, 4, none⟩) (setfar (p := ⟨_, 3, none⟩) (setfar (p := ⟨_, 2, none⟩) (setfar (p := ⟨_, 1, none⟩) (setfar (p := ⟨_, 0, none⟩) (ho.keepc (by omega) cB1_4) (by dsimp only; omega)) (by dsimp only; omega)) (by dsimp only; omega)) (by dsimp only; omega)) (by dsimp only; omega)) (by dsimp only; omega)) (by dsimp only; omega)), (setfar (p := ⟨_, 6, none⟩) (setfar (p := ⟨_, 5, none⟩) (setfar (p := ⟨_, 4, none⟩) (setfar (p := ⟨_, 3, none⟩) (setfar (p := ⟨_, 2, none⟩) (setfar (p := ⟨_, 1, none⟩) (setfar (p := ⟨_, 0, none⟩) (ho.keepc (by omega) cB1_5) (by dsimp only; omega)) (by dsimp only; omega)) (by dsimp only; omega)) (by dsimp only; omega)) (by dsimp only; omega)) (by dsimp only; omega)) (by dsimp only; omega)), (setfar (p := ⟨_, 6, none⟩) (setfar (p := ⟨_, 5, none⟩) (setfar (p := ⟨_, 4, none⟩) (setfar (p := ⟨_, 3, none⟩) (setfar (p := ⟨_, 2, none⟩) (setfar (p := ⟨_, 1, none⟩) (setfar (p := ⟨_, 0, none⟩) (ho.keepc (by omega) cB1_6) (by dsimp only; omega)) (by dsimp only; omega)) (by dsimp only; omega)) (by dsimp only; omega)) (by dsimp only; omega)) (by dsimp only; omega)) (by dsimp only; omega))⟩) (first | (go_at_call 46; (with_reducible refine (drawRad_any p _ _ (by omega) HS3.out.drew).mono ?_); rintro e w4 ⟨r, rfl, hr, hs, ho'⟩; have ho := (Only.drew (Only.refl p (p + 1) w3)).trans ho'; clear ho'; have z4 := ho.size; have d0 := ho.keepc (by omega) cB0_0; have m0 := (B0.out.only ho (by omega)).free 0; have d1 := ho.keepc (by omega) cB0_1; have m1 := (B0.out.only ho (by omega)).free 1; have d2 := ho.keepc (by omega) cB0_2; have m2 := (B0.out.only ho (by omega)).free 2; have d3 := ho.keepc (by omega) cB0_3; have m3 := (B0.out.only ho (by omega)).free 3; have d4 := ho.keepc (by omega) cB0_4; have m4 := (B0.out.only ho (by omega)).free 4; have d5 := ho.keepc (by omega) cB0_5; have m5 := (B0.out.only ho (by omega)).free 5; have d6 := ho.keepc (by omega) cB0_6; have m6 := (B0.out.only ho (by omega)).free 6; have HS4 := Lib.hid hs; have HO4 := Lib.hid ho))
  have hz4 := HO4.out.size
  replace B0 := Lib.hid (B0.out.only HO4.out (by omega))
  replace B1 := Lib.hid (B1.out.only HO4.out (by omega))
  replace HO := Lib.hid (HO.out.trans HO4.out)
  have HR := Lib.hid hr
  go_wp2
  refine ret_box (g := g0) (zs := [a0, a1, a2, a3, a4, a5, a6]) (v := .tuple #[.agg #[.int .i64 a0, .int .i64 a1, .int .i64 a2, .int .i64 a3, .int .i64 a4, .int .i64 a5, .int .i64 a6], .int .i64 ld, .int .i64 r]) (by first | with_reducible exact BI.put_7 B0.out _ _ _ _ _ _ _ | with_reducible exact (BI.put_7 B0.out _ _ _ _ _ _ _).alloc _ | with_reducible exact ((BI.put_7 B0.out _ _ _ _ _ _ _).alloc _).alloc _) rfl ?_ ?_
  · intro W hW
    have e0 := hW.cell 0 (by simp)
    have e1 := hW.cell 1 (by simp)
    have e2 := hW.cell 2 (by simp)
    have e3 := hW.cell 3 (by simp)
    have e4 := hW.cell 4 (by simp)
    have e5 := hW.cell 5 (by simp)
    have e6 := hW.cell 6 (by simp)
    simp only [List.getD_cons_zero, List.getD_cons_succ] at e0 e1 e2 e3 e4 e5 e6
    simp [results, Try.results27, go_sem, e0, e1, e2, e3, e4, e5, e6]
  · exact ⟨_, _, _, _, _, _, _, _, _, rfl, HQ.out, HL.out, HR.out, by repeat' (first | with_reducible exact HS4.out.more (by omega) | (with_reducible refine Src.setNew ?_ _ (by dsimp only; omega)) | (with_reducible refine Src.alloc ?_ _) | (with_reducible refine Src.drewN ?_ _)), by repeat' (first | with_reducible exact HO.out | (with_reducible refine Only.setNew ?_ _ (by dsimp only; omega)) | (with_reducible refine Only.alloc ?_ _) | (with_reducible refine Only.drewN ?_) | (with_reducible refine Only.drew ?_))⟩
set_option maxHeartbeats 4000000 in
set_option maxRecDepth 20000 in
theorem drawGl_any (A : Option Addr) (c : Nat) (bs : List Int) (w : World) (hn : bs.length ≤ 1048576) (hq : ∀ x ∈ bs, U8 x) (h : SV (.int .u8) w w.heap.size A bs) : Calls Try.prog 8 #[.slice A bs.length c] w fun e w' => ∃ a0 a1 a2 a3 a4 a5 a6 r pc : Int, e = .returned (.tuple #[.agg #[.int .i64 a0, .int .i64 a1, .int .i64 a2, .int .i64 a3, .int .i64 a4, .int .i64 a5, .int .i64 a6], .int .i64 r, .int .i64 pc]) ∧ (I64 a0 ∧ I64 a1 ∧ I64 a2 ∧ I64 a3 ∧ I64 a4 ∧ I64 a5 ∧ I64 a6) ∧ I64 r ∧ I64 pc ∧ Below w.heap.size w w' := by
  have H := Lib.hid h
  have HQ := Lib.hid hq
  clear h hq
  have hb0 : Below w.heap.size w (w.alloc (.cells #[.int .i64 0, .int .i64 0, .int .i64 0, .int .i64 0, .int .i64 0, .int .i64 0, .int .i64 0] 25)) := by repeat' first | exact gr_refl _ | with_reducible assumption | with_reducible apply gr_alloc | with_reducible apply gr_set | with_reducible apply gr_drew | with_reducible apply gr_drewN | exact Nat.le_add_right _ _ | exact Nat.le_refl _ | (refine gr_then (by with_reducible assumption) ?_)
  have B0 := Lib.hid (show BI (w.alloc (.cells #[.int .i64 0, .int .i64 0, .int .i64 0, .int .i64 0, .int .i64 0, .int .i64 0, .int .i64 0] 25)) (w.heap.size) 25 [0, 0, 0, 0, 0, 0, 0] from heap_alloc_new w _)
  replace H := Lib.hid (H.out.later hb0)
  have HB := Lib.hid hb0
  have hz : w.heap.size + 1 ≤ (w.alloc (.cells #[.int .i64 0, .int .i64 0, .int .i64 0, .int .i64 0, .int .i64 0, .int .i64 0, .int .i64 0] 25)).heap.size := by simp
  clear hb0
  go_enter Try.func8, Try.ntmps8
  go_wp2_with fail
  generalize w.alloc (.cells #[.int .i64 0, .int .i64 0, .int .i64 0, .int .i64 0, .int .i64 0, .int .i64 0, .int .i64 0] 25) = v0 at *
  have hg0 : w.heap.size < v0.heap.size := by omega
  go_at_call 14
  (with_reducible refine (from_any _ _ bs _ hn HQ.out H.out).mono ?_)
  rintro e w1 ⟨rfl, hs, hb⟩
  have HS1 := Lib.hid hs
  have hpl := hs.lt
  have hz1 := hb.size
  replace B0 := Lib.hid (B0.out.late hb)
  replace H := Lib.hid (H.out.later hb)
  replace HB := Lib.hid (gr_then hb HB.out)
  clear hs hb
  have HO := Lib.hid (Only.refl v0.heap.size (v0.heap.size + 1) w1)
  have hwp : w.heap.size ≤ v0.heap.size := by omega
  generalize hpp : v0.heap.size = p at *
  go_wp2_with fail
  go_at_call 27
  (with_reducible refine (askBs_any p _ _ (by omega) HS1.out).mono ?_)
  rintro e w2 ⟨a0, a1, a2, a3, a4, a5, a6, ld, r, rfl, hq, hl, hr, hs, ho⟩
  have HS2 := Lib.hid hs
  have HO2 := Lib.hid ho
  clear hs ho
  have hz2 := HO2.out.size
  replace B0 := Lib.hid (B0.out.only HO2.out (by omega))
  replace HO := Lib.hid (HO.out.trans HO2.out)
  have HQ1 := Lib.hid hq
  have HR := Lib.hid hr
  clear hq hl hr
  have hb : Below w2.heap.size w2 (w2.alloc (.cells #[.int .i64 a0, .int .i64 a1, .int .i64 a2, .int .i64 a3, .int .i64 a4, .int .i64 a5, .int .i64 a6] 25)) := gr_alloc (gr_refl _)
  have B1 := Lib.hid (show BI (w2.alloc (.cells #[.int .i64 a0, .int .i64 a1, .int .i64 a2, .int .i64 a3, .int .i64 a4, .int .i64 a5, .int .i64 a6] 25)) w2.heap.size 25 [a0, a1, a2, a3, a4, a5, a6] from heap_alloc_new _ _)
  replace B0 := Lib.hid (B0.out.late hb)
  replace HO := Lib.hid (HO.out.trans (Only.of_below hb))
  have hp3 : p + 1 ≤ w2.heap.size := HS2.out.lt
  have HS3 := Lib.hid (HS2.out.late hb)
  have hz3 : w2.heap.size + 1 ≤ (w2.alloc (.cells #[.int .i64 a0, .int .i64 a1, .int .i64 a2, .int .i64 a3, .int .i64 a4, .int .i64 a5, .int .i64 a6] 25)).heap.size := by simp
  clear hb
  go_wp2_with fail
  generalize w2.alloc (.cells #[.int .i64 a0, .int .i64 a1, .int .i64 a2, .int .i64 a3, .int .i64 a4, .int .i64 a5, .int .i64 a6] 25) = w3 at *
  generalize hgg3 : w2.heap.size = g1 at *
  have cB1_0 := B1.out.cell 0 (by simp)
  have cB1_1 := B1.out.cell 1 (by simp)
  have cB1_2 := B1.out.cell 2 (by simp)
  have cB1_3 := B1.out.cell 3 (by simp)
  have cB1_4 := B1.out.cell 4 (by simp)
  have cB1_5 := B1.out.cell 5 (by simp)
  have cB1_6 := B1.out.cell 6 (by simp)
  have fB1_0 := B1.out.free 0
  have fB1_1 := B1.out.free 1
  have fB1_2 := B1.out.free 2
  have fB1_3 := B1.out.free 3
  have fB1_4 := B1.out.free 4
  have fB1_5 := B1.out.free 5
  have fB1_6 := B1.out.free 6
  simp only [List.getD_cons_zero, List.getD_cons_succ] at cB1_0 cB1_1 cB1_2 cB1_3 cB1_4 cB1_5 cB1_6
  have ltB1 := B1.out.lt
  have cB0_0 := B0.out.cell 0 (by simp)
  have cB0_1 := B0.out.cell 1 (by simp)
  have cB0_2 := B0.out.cell 2 (by simp)
  have cB0_3 := B0.out.cell 3 (by simp)
  have cB0_4 := B0.out.cell 4 (by simp)
  have cB0_5 := B0.out.cell 5 (by simp)
  have cB0_6 := B0.out.cell 6 (by simp)
  have fB0_0 := B0.out.free 0
  have fB0_1 := B0.out.free 1
  have fB0_2 := B0.out.free 2
  have fB0_3 := B0.out.free 3
  have fB0_4 := B0.out.free 4
  have fB0_5 := B0.out.free 5
  have fB0_6 := B0.out.free 6
  simp only [List.getD_cons_zero, List.getD_cons_succ] at cB0_0 cB0_1 cB0_2 cB0_3 cB0_4 cB0_5 cB0_6
  have ltB0 := B0.out.lt
  go_region_held3 (fun w' => w'.cell? ⟨g1, 0, none⟩ = some (.int .i64 a0) ∧ w'.cell? ⟨g1, 1, none⟩ = some (.int .i64 a1) ∧ w'.cell? ⟨g1, 2, none⟩ = some (.int .i64 a2) ∧ w'.cell? ⟨g1, 3, none⟩ = some (.int .i64 a3) ∧ w'.cell? ⟨g1, 4, none⟩ = some (.int .i64 a4) ∧ w'.cell? ⟨g1, 5, none⟩ = some (.int .i64 a5) ∧ w'.cell? ⟨g1, 6, none⟩ = some (.int .i64 a6)) (first | with_reducible exact ⟨cB1_0, cB1_1, cB1_2, cB1_3, cB1_4, cB1_5, cB1_6⟩ | with_reducible exact ⟨drewc cB1_0, drewc cB1_1, drewc cB1_2, drewc cB1_3, drewc cB1_4, drewc cB1_5, drewc cB1_6⟩ | with_reducible exact ⟨(ho.keepc (by omega) cB1_0), (ho.keepc (by omega) cB1_1), (ho.keepc (by omega) cB1_2), (ho.keepc (by omega) cB1_3), (ho.keepc (by omega) cB1_4), (ho.keepc (by omega) cB1_5), (ho.keepc (by omega) cB1_6)⟩ | with_reducible exact ⟨(setfar (p := ⟨_, 6, none⟩) (setfar (p := ⟨_, 5, none⟩) (setfar (p := ⟨_, 4, none⟩) (setfar (p := ⟨_, 3, none⟩) (setfar (p := ⟨_, 2, none⟩) (setfar (p := ⟨_, 1, none⟩) (setfar (p := ⟨_, 0, none⟩) (ho.keepc (by omega) cB1_0) (by dsimp only; omega)) (by dsimp only; omega)) (by dsimp only; omega)) (by dsimp only; omega)) (by dsimp only; omega)) (by dsimp only; omega)) (by dsimp only; omega)), (setfar (p := ⟨_, 6, none⟩) (setfar (p := ⟨_, 5, none⟩) (setfar (p := ⟨_, 4, none⟩) (setfar (p := ⟨_, 3, none⟩) (setfar (p := ⟨_, 2, none⟩) (setfar (p := ⟨_, 1, none⟩) (setfar (p := ⟨_, 0, none⟩) (ho.keepc (by omega) cB1_1) (by dsimp only; omega)) (by dsimp only; omega)) (by dsimp only; omega)) (by dsimp only; omega)) (by dsimp only; omega)) (by dsimp only; omega)) (by dsimp only; omega)), (setfar (p := ⟨_, 6, none⟩) (setfar (p := ⟨_, 5, none⟩) (setfar (p := ⟨_, 4, none⟩) (setfar (p := ⟨_, 3, none⟩) (setfar (p := ⟨_, 2, none⟩) (setfar (p := ⟨_, 1, none⟩) (setfar (p := ⟨_, 0, none⟩) (ho.keepc (by omega) cB1_2) (by dsimp only; omega)) (by dsimp only; omega)) (by dsimp only; omega)) (by dsimp only; omega)) (by dsimp only; omega)) (by dsimp only; omega)) (by dsimp only; omega)), (setfar (p := ⟨_, 6, none⟩) (setfar (p := ⟨_, 5, none⟩) (setfar (p := ⟨_, 4, none⟩) (setfar (p := ⟨_, 3, none⟩) (setfar (p := ⟨_, 2, none⟩) (setfar (p := ⟨_, 1, none⟩) (setfar (p := ⟨_, 0, none⟩) (ho.keepc (by omega) cB1_3) (by dsimp only; omega)) (by dsimp only; omega)) (by dsimp only; omega)) (by dsimp only; omega)) (by dsimp only; omega)) (by dsimp only; omega)) (by dsimp only; omega)), (setfar (p := ⟨_, 6, none⟩) (setfar (p := ⟨_, 5, none⟩) (setfar (p := ⟨_, 4, none⟩) (setfar (p := ⟨_, 3, none⟩) (setfar (p := ⟨_, 2, none⟩) (setfar (p := ⟨_, 1, none⟩) (setfar (p := ⟨_, 0, none⟩) (ho.keepc (by omega) cB1_4) (by dsimp only; omega)) (by dsimp only; omega)) (by dsimp only; omega)) (by dsimp only; omega)) (by dsimp only; omega)) (by dsimp only; omega)) (by dsimp only; omega)), (setfar (p := ⟨_, 6, none⟩) (setfar (p := ⟨_, 5, none⟩) (setfar (p := ⟨_, 4, none⟩) (setfar (p := ⟨_, 3, none⟩) (setfar (p := ⟨_, 2, none⟩) (setfar (p := ⟨_, 1, none⟩) (setfar (p := ⟨_, 0, none⟩) (ho.keepc (by omega) cB1_5) (by dsimp only; omega)) (by dsimp only; omega)) (by dsimp only; omega)) (by dsimp only; omega)) (by dsimp only; omega)) (by dsimp only; omega)) (by dsimp only; omega)), (setfar (p := ⟨_, 6, none⟩) (setfar (p := ⟨_, 5, none⟩) (setfar (p := ⟨_, 4, none⟩) (setfar (p := ⟨_, 3, none⟩) (setfar (p := ⟨_, 2, none⟩) (setfar (p := ⟨_, 1, none⟩) (setfar (p := ⟨_, 0, none⟩) (ho.keepc (by omega) cB1_6) (by dsimp only; omega)) (by dsimp only; omega)) (by dsimp only; omega)) (by dsimp only; omega)) (by dsimp only; omega)) (by dsimp only; omega)) (by dsimp only; omega))⟩) (first | (go_at_call 17; (with_reducible refine (drawPc_any p _ _ (by omega) HS3.out.drew).mono ?_); rintro e w4 ⟨pc, rfl, hk, hs, ho'⟩; have ho := (Only.drew (Only.refl p (p + 1) w3)).trans ho'; clear ho'; have z4 := ho.size; have d0 := ho.keepc (by omega) cB0_0; have m0 := (B0.out.only ho (by omega)).free 0; have d1 := ho.keepc (by omega) cB0_1; have m1 := (B0.out.only ho (by omega)).free 1; have d2 := ho.keepc (by omega) cB0_2; have m2 := (B0.out.only ho (by omega)).free 2; have d3 := ho.keepc (by omega) cB0_3; have m3 := (B0.out.only ho (by omega)).free 3; have d4 := ho.keepc (by omega) cB0_4; have m4 := (B0.out.only ho (by omega)).free 4; have d5 := ho.keepc (by omega) cB0_5; have m5 := (B0.out.only ho (by omega)).free 5; have d6 := ho.keepc (by omega) cB0_6; have m6 := (B0.out.only ho (by omega)).free 6; have HS4 := Lib.hid hs; have HO4 := Lib.hid ho))
  have hz4 := HO4.out.size
  replace B0 := Lib.hid (B0.out.only HO4.out (by omega))
  replace B1 := Lib.hid (B1.out.only HO4.out (by omega))
  replace HO := Lib.hid (HO.out.trans HO4.out)
  have HK := Lib.hid hk
  have HZ := Lib.hid (Only.after HB.out HO.out (by omega) (by omega))
  go_wp2
  refine ret_box (g := w.heap.size) (zs := [a0, a1, a2, a3, a4, a5, a6]) (v := .tuple #[.agg #[.int .i64 a0, .int .i64 a1, .int .i64 a2, .int .i64 a3, .int .i64 a4, .int .i64 a5, .int .i64 a6], .int .i64 r, .int .i64 pc]) (by first | with_reducible exact BI.put_7 B0.out _ _ _ _ _ _ _ | with_reducible exact (BI.put_7 B0.out _ _ _ _ _ _ _).alloc _ | with_reducible exact ((BI.put_7 B0.out _ _ _ _ _ _ _).alloc _).alloc _) rfl ?_ ?_
  · intro W hW
    have e0 := hW.cell 0 (by simp)
    have e1 := hW.cell 1 (by simp)
    have e2 := hW.cell 2 (by simp)
    have e3 := hW.cell 3 (by simp)
    have e4 := hW.cell 4 (by simp)
    have e5 := hW.cell 5 (by simp)
    have e6 := hW.cell 6 (by simp)
    simp only [List.getD_cons_zero, List.getD_cons_succ] at e0 e1 e2 e3 e4 e5 e6
    simp [results, Try.results8, go_sem, e0, e1, e2, e3, e4, e5, e6]
  · exact ⟨_, _, _, _, _, _, _, _, _, rfl, HQ1.out, HR.out, HK.out, by repeat' (first | with_reducible exact HZ.out | (with_reducible refine gr_set (by dsimp only; omega) ?_) | (with_reducible refine gr_alloc ?_) | (with_reducible refine gr_drewN ?_) | (with_reducible refine gr_drew ?_))⟩
end Go.Proofs.Ytmalbgbmapfiiaa
