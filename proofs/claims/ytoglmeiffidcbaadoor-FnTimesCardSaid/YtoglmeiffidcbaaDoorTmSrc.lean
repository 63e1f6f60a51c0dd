/- The draws of speeds and of places. -/
import Derived.Test.YtoglmeiffidcbaaDoorCrSrc
import Derived.Test.YtoglmeiffidcbaaDoorSpeeds
namespace Go.Proofs.YtoglmeiffidcbaaDoor
open Go.RowKit Go.Deep
theorem SV.later {α : Type} {f : α → Value} {w w' : World} {A : Option Addr} {xs : List α} (h : SV f w w.heap.size A xs) (hb : Below w.heap.size w w') : SV f w' w'.heap.size A xs := (h.below hb).more hb.size
theorem BI.drew {w : World} {g t : Nat} {zs : List Int} (h : BI w g t zs) : BI w.drew g t zs := h
theorem BI.far_2 {w : World} {g t g' : Nat} {zs : List Int} (h : BI w g t zs) (hn : g ≠ g') (x0 x1 : Int) : BI ((w.setCell ⟨g', 0, none⟩ (.int .i64 x0)).setCell ⟨g', 1, none⟩ (.int .i64 x1)) g t zs := (h.far (p := ⟨g', 0, none⟩) hn _).far (p := ⟨g', 1, none⟩) hn _
theorem ret_bi3 {P : Program} {fn : Func} {R : Ending → World → Prop} {a : Act} {w : World} {g0 g1 g2 t : Nat} {z0 z1 z2 : List Int} {v : Value} (h0 : BI w g0 t z0) (h1 : BI w g1 t z1) (h2 : BI w g2 t z2) (hd : a.defers = []) (hr : ∀ W, BI W g0 t z0 → BI W g1 t z1 → BI W g2 t z2 → (results fn a.tmps).run P W = .ok v W) (hR : R (.returned v) w) : bodyPost P fn R .ret a w := ⟨hd, v, hr w h0 h1 h2, hR⟩
set_option maxHeartbeats 8000000 in
set_option maxRecDepth 20000 in
theorem drawSp_any (p N : Nat) (w : World) (hN : N + 8 ≤ 1000000) (h : Src w p N) : Calls Tryd.prog 45 #[.pointer (some ⟨p, 0, none⟩)] w fun e w' => ∃ s t o g : Int, e = .returned (.agg #[.int .i64 s, .int .i64 t, .int .i64 o, .int .i64 g]) ∧ okSp s t o g = true ∧ Src w' p (N + 8) ∧ Only p (p + 1) w w' := by
  have H := Lib.hid h
  clear h
  have hpl := H.out.lt
  have hb0 : Below w.heap.size w (w.alloc (.cells #[.int .i64 0, .int .i64 0, .int .i64 0, .int .i64 0] 40)) := by repeat' first | exact gr_refl _ | with_reducible assumption | with_reducible apply gr_alloc | with_reducible apply gr_set | with_reducible apply gr_drew | with_reducible apply gr_drewN | exact Nat.le_add_right _ _ | exact Nat.le_refl _ | (refine gr_then (by with_reducible assumption) ?_)
  have B0 := Lib.hid (show BI (w.alloc (.cells #[.int .i64 0, .int .i64 0, .int .i64 0, .int .i64 0] 40)) (w.heap.size) 40 [0, 0, 0, 0] from by have h := heap_alloc_new (w) (.cells #[.int .i64 0, .int .i64 0, .int .i64 0, .int .i64 0] 40); (try simp only [World.size_alloc] at h); exact h)
  have hb1 : Below w.heap.size w ((w.alloc (.cells #[.int .i64 0, .int .i64 0, .int .i64 0, .int .i64 0] 40)).alloc (.cells #[.int .i64 0, .int .i64 0, .int .i64 0, .int .i64 0] 40)) := by repeat' first | exact gr_refl _ | with_reducible assumption | with_reducible apply gr_alloc | with_reducible apply gr_set | with_reducible apply gr_drew | with_reducible apply gr_drewN | exact Nat.le_add_right _ _ | exact Nat.le_refl _ | (refine gr_then (by with_reducible assumption) ?_)
  have B1 := Lib.hid (show BI ((w.alloc (.cells #[.int .i64 0, .int .i64 0, .int .i64 0, .int .i64 0] 40)).alloc (.cells #[.int .i64 0, .int .i64 0, .int .i64 0, .int .i64 0] 40)) (w.heap.size + 1) 40 [0, 0, 0, 0] from by have h := heap_alloc_new (w.alloc (.cells #[.int .i64 0, .int .i64 0, .int .i64 0, .int .i64 0] 40)) (.cells #[.int .i64 0, .int .i64 0, .int .i64 0, .int .i64 0] 40); (try simp only [World.size_alloc] at h); exact h)
  replace B0 := Lib.hid (B0.out.alloc (.cells #[.int .i64 0, .int .i64 0, .int .i64 0, .int .i64 0] 40))
  replace H := Lib.hid (H.out.late hb1)
  have HO := Lib.hid (Only.of_below (lo := p) (hi := p + 1) hb1)
  have hz : w.heap.size + 2 ≤ ((w.alloc (.cells #[.int .i64 0, .int .i64 0, .int .i64 0, .int .i64 0] 40)).alloc (.cells #[.int .i64 0, .int .i64 0, .int .i64 0, .int .i64 0] 40)).heap.size := by simp
  clear hb0 hb1
  go_enter Tryd.func45, Tryd.ntmps45
  go_wp2_with fail
  generalize (w.alloc (.cells #[.int .i64 0, .int .i64 0, .int .i64 0, .int .i64 0] 40)).alloc (.cells #[.int .i64 0, .int .i64 0, .int .i64 0, .int .i64 0] 40) = v0 at *
  have hg0 : w.heap.size < v0.heap.size := by omega
  have hg1 : w.heap.size + 1 < v0.heap.size := by omega
  have hp0 : p + 1 ≤ w.heap.size := hpl
  go_at_call 71
  (with_reducible refine (pick_any p _ _ _ (by omega) (i64_of (by omega)) H.out).mono ?_)
  rintro e w1 ⟨x1, rfl, hx1, hy1, hm1, hn1, hs, ho⟩
  have HS1 := Lib.hid hs
  have HO1 := Lib.hid ho
  clear hs ho
  have hz1 := HO1.out.size
  replace B0 := Lib.hid (B0.out.only HO1.out (by omega))
  replace B1 := Lib.hid (B1.out.only HO1.out (by omega))
  replace HO := Lib.hid (HO.out.trans HO1.out)
  have cB1_0 := B1.out.cell 0 (by simp)
  have cB1_1 := B1.out.cell 1 (by simp)
  have cB1_2 := B1.out.cell 2 (by simp)
  have cB1_3 := B1.out.cell 3 (by simp)
  have fB1_0 := B1.out.free 0
  simp only [List.getD_cons_zero, List.getD_cons_succ] at cB1_0 cB1_1 cB1_2 cB1_3
  have ltB1 := B1.out.lt
  have B1' := Lib.hid (show BI (w1.setCell ⟨(w.heap.size + 1), 0, none⟩ (.int .i64 (1 + x1))) (w.heap.size + 1) _ [1 + x1, 0, 0, 0] from B1.out.put 0 (1 + x1))
  clear B1
  have B1 := B1'
  clear B1'
  replace B0 := Lib.hid (B0.out.far (p := ⟨(w.heap.size + 1), 0, none⟩) (by dsimp only; omega) (.int .i64 (1 + x1)))
  replace HO := Lib.hid (HO.out.setNew (q := ⟨(w.heap.size + 1), 0, none⟩) (.int .i64 (1 + x1)) (by dsimp only; omega))
  have HS2 := Lib.hid (HS1.out.setNew (q := ⟨(w.heap.size + 1), 0, none⟩) (.int .i64 (1 + x1)) (by dsimp only; omega))
  have hz2 : w1.heap.size ≤ (w1.setCell ⟨(w.heap.size + 1), 0, none⟩ (.int .i64 (1 + x1))).heap.size := by simp
  have hs2 : (w1.setCell ⟨(w.heap.size + 1), 0, none⟩ (.int .i64 (1 + x1))).heap.size = w1.heap.size := by simp
  go_wp2_with fail
  generalize w1.setCell ⟨(w.heap.size + 1), 0, none⟩ (.int .i64 (1 + x1)) = w2 at *
  clear cB1_0 cB1_1 cB1_2 cB1_3 fB1_0 ltB1
  (try rw [← hs2])
  clear hs2
  go_at_call 71
  (with_reducible refine (pick_any p _ _ _ (by omega) (i64_of (by omega)) HS2.out).mono ?_)
  rintro e w3 ⟨x3, rfl, hx3, hy3, hm3, hn3, hs, ho⟩
  have HS3 := Lib.hid hs
  have HO3 := Lib.hid ho
  clear hs ho
  have hz3 := HO3.out.size
  replace B0 := Lib.hid (B0.out.only HO3.out (by omega))
  replace B1 := Lib.hid (B1.out.only HO3.out (by omega))
  replace HO := Lib.hid (HO.out.trans HO3.out)
  have cB1_0 := B1.out.cell 0 (by simp)
  have cB1_1 := B1.out.cell 1 (by simp)
  have cB1_2 := B1.out.cell 2 (by simp)
  have cB1_3 := B1.out.cell 3 (by simp)
  have fB1_1 := B1.out.free 1
  simp only [List.getD_cons_zero, List.getD_cons_succ] at cB1_0 cB1_1 cB1_2 cB1_3
  have ltB1 := B1.out.lt
  have B1' := Lib.hid (show BI (w3.setCell ⟨(w.heap.size + 1), 1, none⟩ (.int .i64 (1 + x3))) (w.heap.size + 1) _ [1 + x1, 1 + x3, 0, 0] from B1.out.put 1 (1 + x3))
  clear B1
  have B1 := B1'
  clear B1'
  replace B0 := Lib.hid (B0.out.far (p := ⟨(w.heap.size + 1), 1, none⟩) (by dsimp only; omega) (.int .i64 (1 + x3)))
  replace HO := Lib.hid (HO.out.setNew (q := ⟨(w.heap.size + 1), 1, none⟩) (.int .i64 (1 + x3)) (by dsimp only; omega))
  have HS4 := Lib.hid (HS3.out.setNew (q := ⟨(w.heap.size + 1), 1, none⟩) (.int .i64 (1 + x3)) (by dsimp only; omega))
  have hz4 : w3.heap.size ≤ (w3.setCell ⟨(w.heap.size + 1), 1, none⟩ (.int .i64 (1 + x3))).heap.size := by simp
  have hs4 : (w3.setCell ⟨(w.heap.size + 1), 1, none⟩ (.int .i64 (1 + x3))).heap.size = w3.heap.size := by simp
  go_wp2_with fail
  generalize w3.setCell ⟨(w.heap.size + 1), 1, none⟩ (.int .i64 (1 + x3)) = w4 at *
  clear cB1_0 cB1_1 cB1_2 cB1_3 fB1_1 ltB1
  (try rw [← hs4])
  clear hs4
  go_at_call 71
  (with_reducible refine (pick_any p _ _ _ (by omega) (i64_of (by omega)) HS4.out).mono ?_)
  rintro e w5 ⟨x5, rfl, hx5, hy5, hm5, hn5, hs, ho⟩
  have HS5 := Lib.hid hs
  have HO5 := Lib.hid ho
  clear hs ho
  have hz5 := HO5.out.size
  replace B0 := Lib.hid (B0.out.only HO5.out (by omega))
  replace B1 := Lib.hid (B1.out.only HO5.out (by omega))
  replace HO := Lib.hid (HO.out.trans HO5.out)
  have cB1_0 := B1.out.cell 0 (by simp)
  have cB1_1 := B1.out.cell 1 (by simp)
  have cB1_2 := B1.out.cell 2 (by simp)
  have cB1_3 := B1.out.cell 3 (by simp)
  have fB1_2 := B1.out.free 2
  simp only [List.getD_cons_zero, List.getD_cons_succ] at cB1_0 cB1_1 cB1_2 cB1_3
  have ltB1 := B1.out.lt
  have B1' := Lib.hid (show BI (w5.setCell ⟨(w.heap.size + 1), 2, none⟩ (.int .i64 (1 + x5))) (w.heap.size + 1) _ [1 + x1, 1 + x3, 1 + x5, 0] from B1.out.put 2 (1 + x5))
  clear B1
  have B1 := B1'
  clear B1'
  replace B0 := Lib.hid (B0.out.far (p := ⟨(w.heap.size + 1), 2, none⟩) (by dsimp only; omega) (.int .i64 (1 + x5)))
  replace HO := Lib.hid (HO.out.setNew (q := ⟨(w.heap.size + 1), 2, none⟩) (.int .i64 (1 + x5)) (by dsimp only; omega))
  have HS6 := Lib.hid (HS5.out.setNew (q := ⟨(w.heap.size + 1), 2, none⟩) (.int .i64 (1 + x5)) (by dsimp only; omega))
  have hz6 : w5.heap.size ≤ (w5.setCell ⟨(w.heap.size + 1), 2, none⟩ (.int .i64 (1 + x5))).heap.size := by simp
  have hs6 : (w5.setCell ⟨(w.heap.size + 1), 2, none⟩ (.int .i64 (1 + x5))).heap.size = w5.heap.size := by simp
  go_wp2_with fail
  generalize w5.setCell ⟨(w.heap.size + 1), 2, none⟩ (.int .i64 (1 + x5)) = w6 at *
  clear cB1_0 cB1_1 cB1_2 cB1_3 fB1_2 ltB1
  (try rw [← hs6])
  clear hs6
  go_at_call 71
  (with_reducible refine (pick_any p _ _ _ (by omega) (i64_of (by omega)) HS6.out).mono ?_)
  rintro e w7 ⟨x7, rfl, hx7, hy7, hm7, hn7, hs, ho⟩
  have HS7 := Lib.hid hs
  have HO7 := Lib.hid ho
  clear hs ho
  have hz7 := HO7.out.size
  replace B0 := Lib.hid (B0.out.only HO7.out (by omega))
  replace B1 := Lib.hid (B1.out.only HO7.out (by omega))
  replace HO := Lib.hid (HO.out.trans HO7.out)
  have cB0_0 := B0.out.cell 0 (by simp)
  have cB0_1 := B0.out.cell 1 (by simp)
  have cB0_2 := B0.out.cell 2 (by simp)
  have cB0_3 := B0.out.cell 3 (by simp)
  have fB0_0 := B0.out.free 0
  have fB0_1 := B0.out.free 1
  have fB0_2 := B0.out.free 2
  have fB0_3 := B0.out.free 3
  simp only [List.getD_cons_zero, List.getD_cons_succ] at cB0_0 cB0_1 cB0_2 cB0_3
  have ltB0 := B0.out.lt
  have cB1_0 := B1.out.cell 0 (by simp)
  have cB1_1 := B1.out.cell 1 (by simp)
  have cB1_2 := B1.out.cell 2 (by simp)
  have cB1_3 := B1.out.cell 3 (by simp)
  have fB1_3 := B1.out.free 3
  simp only [List.getD_cons_zero, List.getD_cons_succ] at cB1_0 cB1_1 cB1_2 cB1_3
  have ltB1 := B1.out.lt
  have B1' := Lib.hid (show BI (w7.setCell ⟨(w.heap.size + 1), 3, none⟩ (.int .i64 (1 + x7))) (w.heap.size + 1) _ [1 + x1, 1 + x3, 1 + x5, 1 + x7] from B1.out.put 3 (1 + x7))
  clear B1
  have B1 := B1'
  clear B1'
  replace B0 := Lib.hid (B0.out.far (p := ⟨(w.heap.size + 1), 3, none⟩) (by dsimp only; omega) (.int .i64 (1 + x7)))
  replace HO := Lib.hid (HO.out.setNew (q := ⟨(w.heap.size + 1), 3, none⟩) (.int .i64 (1 + x7)) (by dsimp only; omega))
  have HS8 := Lib.hid (HS7.out.setNew (q := ⟨(w.heap.size + 1), 3, none⟩) (.int .i64 (1 + x7)) (by dsimp only; omega))
  have hz8 : w7.heap.size ≤ (w7.setCell ⟨(w.heap.size + 1), 3, none⟩ (.int .i64 (1 + x7))).heap.size := by simp
  have hs8 : (w7.setCell ⟨(w.heap.size + 1), 3, none⟩ (.int .i64 (1 + x7))).heap.size = w7.heap.size := by simp
  go_wp2
  refine ret_box (g := w.heap.size) (zs := [1 + x1, 1 + x3, 1 + x5, 1 + x7]) (v := .agg #[.int .i64 (1 + x1), .int .i64 (1 + x3), .int .i64 (1 + x5), .int .i64 (1 + x7)]) (by first | with_reducible exact BI.put_4 B0.out _ _ _ _ | with_reducible exact (BI.put_4 B0.out _ _ _ _).alloc _ | with_reducible exact ((BI.put_4 B0.out _ _ _ _).alloc _).alloc _) rfl ?_ ?_
  · intro W hW
    have e0 := hW.cell 0 (by simp)
    have e1 := hW.cell 1 (by simp)
    have e2 := hW.cell 2 (by simp)
    have e3 := hW.cell 3 (by simp)
    simp only [List.getD_cons_zero, List.getD_cons_succ] at e0 e1 e2 e3
    simp [results, Tryd.results45, go_sem, e0, e1, e2, e3]
  · exact ⟨_, _, _, _, rfl, okSp_y (by omega), by repeat' (first | with_reducible exact HS8.out.more (by omega) | (with_reducible refine Src.setNew ?_ _ (by dsimp only; omega)) | (with_reducible refine Src.alloc ?_ _) | (with_reducible refine Src.drewN ?_ _)), by repeat' (first | with_reducible exact HO.out | (with_reducible refine Only.setNew ?_ _ (by dsimp only; omega)) | (with_reducible refine Only.alloc ?_ _) | (with_reducible refine Only.drewN ?_) | (with_reducible refine Only.drew ?_))⟩
set_option maxHeartbeats 4000000 in
set_option maxRecDepth 20000 in
theorem speeds_any (A : Option Addr) (c : Nat) (bs : List Int) (w : World) (hn : bs.length ≤ 1048576) (hq : ∀ x ∈ bs, U8 x) (h : SV (.int .u8) w w.heap.size A bs) : Calls Tryd.prog 17 #[.slice A bs.length c] w fun e w' => ∃ s t o g : Int, e = .returned (.agg #[.int .i64 s, .int .i64 t, .int .i64 o, .int .i64 g]) ∧ okSp s t o g = true ∧ Below w.heap.size w w' := by
  have H := Lib.hid h
  have HQ := Lib.hid hq
  clear h hq
  have hb0 : Below w.heap.size w (w.alloc (.cells #[.int .i64 0, .int .i64 0, .int .i64 0, .int .i64 0] 40)) := by repeat' first | exact gr_refl _ | with_reducible assumption | with_reducible apply gr_alloc | with_reducible apply gr_set | with_reducible apply gr_drew | with_reducible apply gr_drewN | exact Nat.le_add_right _ _ | exact Nat.le_refl _ | (refine gr_then (by with_reducible assumption) ?_)
  have B0 := Lib.hid (show BI (w.alloc (.cells #[.int .i64 0, .int .i64 0, .int .i64 0, .int .i64 0] 40)) (w.heap.size) 40 [0, 0, 0, 0] from by have h := heap_alloc_new (w) (.cells #[.int .i64 0, .int .i64 0, .int .i64 0, .int .i64 0] 40); (try simp only [World.size_alloc] at h); exact h)
  replace H := Lib.hid (H.out.later hb0)
  have HB := Lib.hid hb0
  have hz : w.heap.size + 1 ≤ (w.alloc (.cells #[.int .i64 0, .int .i64 0, .int .i64 0, .int .i64 0] 40)).heap.size := by simp
  clear hb0
  go_enter Tryd.func17, Tryd.ntmps17
  go_wp2_with fail
  generalize w.alloc (.cells #[.int .i64 0, .int .i64 0, .int .i64 0, .int .i64 0] 40) = v0 at *
  have hg0 : w.heap.size < v0.heap.size := by omega
  go_at_call 44
  (with_reducible refine (from_any _ _ bs _ hn HQ.out H.out).mono ?_)
  rintro e w1 ⟨rfl, hs, hb⟩
  have HS1 := Lib.hid hs
  have hpl := hs.lt
  have hz1 := hb.size
  replace B0 := Lib.hid (B0.out.late hb)
  replace H := Lib.hid (H.out.later hb)
  replace HB := Lib.hid (gr_then hb HB.out)
  clear hs hb
  have HO := Lib.hid (Only.refl v0.heap.size (v0.heap.size + 1) w1)
  have hwp : w.heap.size ≤ v0.heap.size := by omega
  generalize hpp : v0.heap.size = p at *
  go_wp2_with fail
  go_at_call 45
  (with_reducible refine (drawSp_any p _ _ (by omega) HS1.out).mono ?_)
  rintro e w2 ⟨s, t, o, g, rfl, hk, hs, ho⟩
  have HS2 := Lib.hid hs
  have HO2 := Lib.hid ho
  clear hs ho
  have hz2 := HO2.out.size
  replace B0 := Lib.hid (B0.out.only HO2.out (by omega))
  replace HO := Lib.hid (HO.out.trans HO2.out)
  have HK := Lib.hid hk
  clear hk
  have cB0_0 := B0.out.cell 0 (by simp)
  have cB0_1 := B0.out.cell 1 (by simp)
  have cB0_2 := B0.out.cell 2 (by simp)
  have cB0_3 := B0.out.cell 3 (by simp)
  have fB0_0 := B0.out.free 0
  have fB0_1 := B0.out.free 1
  have fB0_2 := B0.out.free 2
  have fB0_3 := B0.out.free 3
  simp only [List.getD_cons_zero, List.getD_cons_succ] at cB0_0 cB0_1 cB0_2 cB0_3
  have ltB0 := B0.out.lt
  have HZ := Lib.hid (Only.after HB.out HO.out (by omega) (by omega))
  go_wp2
  refine ret_box (g := w.heap.size) (zs := [s, t, o, g]) (v := .agg #[.int .i64 s, .int .i64 t, .int .i64 o, .int .i64 g]) (by first | with_reducible exact BI.put_4 B0.out _ _ _ _ | with_reducible exact (BI.put_4 B0.out _ _ _ _).alloc _ | with_reducible exact ((BI.put_4 B0.out _ _ _ _).alloc _).alloc _) rfl ?_ ?_
  · intro W hW
    have e0 := hW.cell 0 (by simp)
    have e1 := hW.cell 1 (by simp)
    have e2 := hW.cell 2 (by simp)
    have e3 := hW.cell 3 (by simp)
    simp only [List.getD_cons_zero, List.getD_cons_succ] at e0 e1 e2 e3
    simp [results, Tryd.results17, go_sem, e0, e1, e2, e3]
  · exact ⟨_, _, _, _, rfl, HK.out, by repeat' (first | with_reducible exact HZ.out | (with_reducible refine gr_set (by dsimp only; omega) ?_) | (with_reducible refine gr_alloc ?_) | (with_reducible refine gr_drewN ?_) | (with_reducible refine gr_drew ?_))⟩
set_option maxHeartbeats 16000000 in
set_option maxRecDepth 20000 in
theorem places_any (A : Option Addr) (c : Nat) (bs : List Int) (w : World) (hn : bs.length ≤ 1048576) (hq : ∀ x ∈ bs, U8 x) (h : SV (.int .u8) w w.heap.size A bs) : Calls Tryd.prog 18 #[.slice A bs.length c] w fun e w' => ∃ a b d e' x y : Int, e = .returned (.tuple #[.agg #[.int .i64 a, .int .i64 b], .agg #[.int .i64 d, .int .i64 e'], .agg #[.int .i64 x, .int .i64 y]]) ∧ (okPl a b = true ∧ okPl d e' = true ∧ okPl x y = true) ∧ Below w.heap.size w w' := by
  have H := Lib.hid h
  have HQ := Lib.hid hq
  clear h hq
  have hb0 : Below w.heap.size w (w.alloc (.cells #[.int .i64 0, .int .i64 0] 35)) := by repeat' first | exact gr_refl _ | with_reducible assumption | with_reducible apply gr_alloc | with_reducible apply gr_set | with_reducible apply gr_drew | with_reducible apply gr_drewN | exact Nat.le_add_right _ _ | exact Nat.le_refl _ | (refine gr_then (by with_reducible assumption) ?_)
  have B0 := Lib.hid (show BI (w.alloc (.cells #[.int .i64 0, .int .i64 0] 35)) (w.heap.size) 35 [0, 0] from by have h := heap_alloc_new (w) (.cells #[.int .i64 0, .int .i64 0] 35); (try simp only [World.size_alloc] at h); exact h)
  have hb1 : Below w.heap.size w ((w.alloc (.cells #[.int .i64 0, .int .i64 0] 35)).alloc (.cells #[.int .i64 0, .int .i64 0] 35)) := by repeat' first | exact gr_refl _ | with_reducible assumption | with_reducible apply gr_alloc | with_reducible apply gr_set | with_reducible apply gr_drew | with_reducible apply gr_drewN | exact Nat.le_add_right _ _ | exact Nat.le_refl _ | (refine gr_then (by with_reducible assumption) ?_)
  have B1 := Lib.hid (show BI ((w.alloc (.cells #[.int .i64 0, .int .i64 0] 35)).alloc (.cells #[.int .i64 0, .int .i64 0] 35)) (w.heap.size + 1) 35 [0, 0] from by have h := heap_alloc_new (w.alloc (.cells #[.int .i64 0, .int .i64 0] 35)) (.cells #[.int .i64 0, .int .i64 0] 35); (try simp only [World.size_alloc] at h); exact h)
  replace B0 := Lib.hid (B0.out.alloc (.cells #[.int .i64 0, .int .i64 0] 35))
  have hb2 : Below w.heap.size w (((w.alloc (.cells #[.int .i64 0, .int .i64 0] 35)).alloc (.cells #[.int .i64 0, .int .i64 0] 35)).alloc (.cells #[.int .i64 0, .int .i64 0] 35)) := by repeat' first | exact gr_refl _ | with_reducible assumption | with_reducible apply gr_alloc | with_reducible apply gr_set | with_reducible apply gr_drew | with_reducible apply gr_drewN | exact Nat.le_add_right _ _ | exact Nat.le_refl _ | (refine gr_then (by with_reducible assumption) ?_)
  have B2 := Lib.hid (show BI (((w.alloc (.cells #[.int .i64 0, .int .i64 0] 35)).alloc (.cells #[.int .i64 0, .int .i64 0] 35)).alloc (.cells #[.int .i64 0, .int .i64 0] 35)) (w.heap.size + 1 + 1) 35 [0, 0] from by have h := heap_alloc_new ((w.alloc (.cells #[.int .i64 0, .int .i64 0] 35)).alloc (.cells #[.int .i64 0, .int .i64 0] 35)) (.cells #[.int .i64 0, .int .i64 0] 35); (try simp only [World.size_alloc] at h); exact h)
  replace B0 := Lib.hid (B0.out.alloc (.cells #[.int .i64 0, .int .i64 0] 35))
  replace B1 := Lib.hid (B1.out.alloc (.cells #[.int .i64 0, .int .i64 0] 35))
  replace H := Lib.hid (H.out.later hb2)
  have HB := Lib.hid hb2
  have hz : w.heap.size + 3 ≤ (((w.alloc (.cells #[.int .i64 0, .int .i64 0] 35)).alloc (.cells #[.int .i64 0, .int .i64 0] 35)).alloc (.cells #[.int .i64 0, .int .i64 0] 35)).heap.size := by simp
  clear hb0 hb1 hb2
  go_enter Tryd.func18, Tryd.ntmps18
  go_wp2_with fail
  generalize ((w.alloc (.cells #[.int .i64 0, .int .i64 0] 35)).alloc (.cells #[.int .i64 0, .int .i64 0] 35)).alloc (.cells #[.int .i64 0, .int .i64 0] 35) = v0 at *
  have hg0 : w.heap.size < v0.heap.size := by omega
  have hg1 : w.heap.size + 1 < v0.heap.size := by omega
  have hg2 : w.heap.size + 2 < v0.heap.size := by omega
  go_at_call 44
  (with_reducible refine (from_any _ _ bs _ hn HQ.out H.out).mono ?_)
  rintro e w1 ⟨rfl, hs, hb⟩
  have HS1 := Lib.hid hs
  have hpl := hs.lt
  have hz1 := hb.size
  replace B0 := Lib.hid (B0.out.late hb)
  replace B1 := Lib.hid (B1.out.late hb)
  replace B2 := Lib.hid (B2.out.late hb)
  replace H := Lib.hid (H.out.later hb)
  replace HB := Lib.hid (gr_then hb HB.out)
  clear hs hb
  have HO := Lib.hid (Only.refl v0.heap.size (v0.heap.size + 1) w1)
  have hwp : w.heap.size ≤ v0.heap.size := by omega
  generalize hpp : v0.heap.size = p at *
  go_wp2_with fail
  go_at_call 46
  (with_reducible refine (drawPt_any p _ _ (by omega) HS1.out).mono ?_)
  rintro e w2 ⟨a, b, rfl, ha, hb', hs, ho⟩
  have HS2 := Lib.hid hs
  have HO2 := Lib.hid ho
  clear hs ho
  have hz2 := HO2.out.size
  replace B0 := Lib.hid (B0.out.only HO2.out (by omega))
  replace B1 := Lib.hid (B1.out.only HO2.out (by omega))
  replace B2 := Lib.hid (B2.out.only HO2.out (by omega))
  replace HO := Lib.hid (HO.out.trans HO2.out)
  have hb : Below w2.heap.size w2 (w2.alloc (.cells #[.int .i64 a, .int .i64 b] 35)) := gr_alloc (gr_refl _)
  have B3 := Lib.hid (show BI (w2.alloc (.cells #[.int .i64 a, .int .i64 b] 35)) w2.heap.size 35 [a, b] from heap_alloc_new _ _)
  replace B0 := Lib.hid (B0.out.late hb)
  replace B1 := Lib.hid (B1.out.late hb)
  replace B2 := Lib.hid (B2.out.late hb)
  replace HO := Lib.hid (HO.out.trans (Only.of_below hb))
  have hp3 : p + 1 ≤ w2.heap.size := HS2.out.lt
  have HS3 := Lib.hid (HS2.out.late hb)
  have hz3 : w2.heap.size + 1 ≤ (w2.alloc (.cells #[.int .i64 a, .int .i64 b] 35)).heap.size := by simp
  clear hb
  go_wp2_with fail
  generalize w2.alloc (.cells #[.int .i64 a, .int .i64 b] 35) = w3 at *
  generalize hgg3 : w2.heap.size = g3 at *
  go_at_call 46
  (with_reducible refine (drawPt_any p _ _ (by omega) HS3.out).mono ?_)
  rintro e w4 ⟨d, e', rfl, hd, he', hs, ho⟩
  have HS4 := Lib.hid hs
  have HO4 := Lib.hid ho
  clear hs ho
  have hz4 := HO4.out.size
  replace B0 := Lib.hid (B0.out.only HO4.out (by omega))
  replace B1 := Lib.hid (B1.out.only HO4.out (by omega))
  replace B2 := Lib.hid (B2.out.only HO4.out (by omega))
  replace B3 := Lib.hid (B3.out.only HO4.out (by omega))
  replace HO := Lib.hid (HO.out.trans HO4.out)
  have hb : Below w4.heap.size w4 (w4.alloc (.cells #[.int .i64 d, .int .i64 e'] 35)) := gr_alloc (gr_refl _)
  have B4 := Lib.hid (show BI (w4.alloc (.cells #[.int .i64 d, .int .i64 e'] 35)) w4.heap.size 35 [d, e'] from heap_alloc_new _ _)
  replace B0 := Lib.hid (B0.out.late hb)
  replace B1 := Lib.hid (B1.out.late hb)
  replace B2 := Lib.hid (B2.out.late hb)
  replace B3 := Lib.hid (B3.out.late hb)
  replace HO := Lib.hid (HO.out.trans (Only.of_below hb))
  have hp5 : p + 1 ≤ w4.heap.size := HS4.out.lt
  have HS5 := Lib.hid (HS4.out.late hb)
  have hz5 : w4.heap.size + 1 ≤ (w4.alloc (.cells #[.int .i64 d, .int .i64 e'] 35)).heap.size := by simp
  clear hb
  go_wp2_with fail
  generalize w4.alloc (.cells #[.int .i64 d, .int .i64 e'] 35) = w5 at *
  generalize hgg5 : w4.heap.size = g4 at *
  have cB3_0 := B3.out.cell 0 (by simp)
  have cB3_1 := B3.out.cell 1 (by simp)
  simp only [List.getD_cons_zero, List.getD_cons_succ] at cB3_0 cB3_1
  have ltB3 := B3.out.lt
  have cB4_0 := B4.out.cell 0 (by simp)
  have cB4_1 := B4.out.cell 1 (by simp)
  simp only [List.getD_cons_zero, List.getD_cons_succ] at cB4_0 cB4_1
  have ltB4 := B4.out.lt
  have cB0_0 := B0.out.cell 0 (by simp)
  have cB0_1 := B0.out.cell 1 (by simp)
  have fB0_0 := B0.out.free 0
  have fB0_1 := B0.out.free 1
  simp only [List.getD_cons_zero, List.getD_cons_succ] at cB0_0 cB0_1
  have ltB0 := B0.out.lt
  have cB1_0 := B1.out.cell 0 (by simp)
  have cB1_1 := B1.out.cell 1 (by simp)
  have fB1_0 := B1.out.free 0
  have fB1_1 := B1.out.free 1
  simp only [List.getD_cons_zero, List.getD_cons_succ] at cB1_0 cB1_1
  have ltB1 := B1.out.lt
  have cB2_0 := B2.out.cell 0 (by simp)
  have cB2_1 := B2.out.cell 1 (by simp)
  have fB2_0 := B2.out.free 0
  have fB2_1 := B2.out.free 1
  simp only [List.getD_cons_zero, List.getD_cons_succ] at cB2_0 cB2_1
  have ltB2 := B2.out.lt
  have HA := Lib.hid (Only.refl p (p + 1) w5)
  go_region_held3 (fun w' => w'.cell? ⟨g3, 0, none⟩ = some (.int .i64 a) ∧ w'.cell? ⟨g3, 1, none⟩ = some (.int .i64 b) ∧ w'.cell? ⟨g4, 0, none⟩ = some (.int .i64 d) ∧ w'.cell? ⟨g4, 1, none⟩ = some (.int .i64 e')) (first | with_reducible exact ⟨cB3_0, cB3_1, cB4_0, cB4_1⟩ | with_reducible exact ⟨drewc cB3_0, drewc cB3_1, drewc cB4_0, drewc cB4_1⟩ | with_reducible exact ⟨(HA.out.keepc (by omega) cB3_0), (HA.out.keepc (by omega) cB3_1), (HA.out.keepc (by omega) cB4_0), (HA.out.keepc (by omega) cB4_1)⟩ | with_reducible exact ⟨(setfar (p := ⟨w.heap.size, 1, none⟩) (setfar (p := ⟨w.heap.size, 0, none⟩) (HA.out.keepc (by omega) cB3_0) (by dsimp only; omega)) (by dsimp only; omega)), (setfar (p := ⟨w.heap.size, 1, none⟩) (setfar (p := ⟨w.heap.size, 0, none⟩) (HA.out.keepc (by omega) cB3_1) (by dsimp only; omega)) (by dsimp only; omega)), (setfar (p := ⟨w.heap.size, 1, none⟩) (setfar (p := ⟨w.heap.size, 0, none⟩) (HA.out.keepc (by omega) cB4_0) (by dsimp only; omega)) (by dsimp only; omega)), (setfar (p := ⟨w.heap.size, 1, none⟩) (setfar (p := ⟨w.heap.size, 0, none⟩) (HA.out.keepc (by omega) cB4_1) (by dsimp only; omega)) (by dsimp only; omega))⟩ | with_reducible exact ⟨(setfar (p := ⟨(w.heap.size + 1), 1, none⟩) (setfar (p := ⟨(w.heap.size + 1), 0, none⟩) (setfar (p := ⟨w.heap.size, 1, none⟩) (setfar (p := ⟨w.heap.size, 0, none⟩) (HA.out.keepc (by omega) cB3_0) (by dsimp only; omega)) (by dsimp only; omega)) (by dsimp only; omega)) (by dsimp only; omega)), (setfar (p := ⟨(w.heap.size + 1), 1, none⟩) (setfar (p := ⟨(w.heap.size + 1), 0, none⟩) (setfar (p := ⟨w.heap.size, 1, none⟩) (setfar (p := ⟨w.heap.size, 0, none⟩) (HA.out.keepc (by omega) cB3_1) (by dsimp only; omega)) (by dsimp only; omega)) (by dsimp only; omega)) (by dsimp only; omega)), (setfar (p := ⟨(w.heap.size + 1), 1, none⟩) (setfar (p := ⟨(w.heap.size + 1), 0, none⟩) (setfar (p := ⟨w.heap.size, 1, none⟩) (setfar (p := ⟨w.heap.size, 0, none⟩) (HA.out.keepc (by omega) cB4_0) (by dsimp only; omega)) (by dsimp only; omega)) (by dsimp only; omega)) (by dsimp only; omega)), (setfar (p := ⟨(w.heap.size + 1), 1, none⟩) (setfar (p := ⟨(w.heap.size + 1), 0, none⟩) (setfar (p := ⟨w.heap.size, 1, none⟩) (setfar (p := ⟨w.heap.size, 0, none⟩) (HA.out.keepc (by omega) cB4_1) (by dsimp only; omega)) (by dsimp only; omega)) (by dsimp only; omega)) (by dsimp only; omega))⟩ | with_reducible exact ⟨(setfar (p := ⟨(w.heap.size + 1 + 1), 1, none⟩) (setfar (p := ⟨(w.heap.size + 1 + 1), 0, none⟩) (setfar (p := ⟨(w.heap.size + 1), 1, none⟩) (setfar (p := ⟨(w.heap.size + 1), 0, none⟩) (setfar (p := ⟨w.heap.size, 1, none⟩) (setfar (p := ⟨w.heap.size, 0, none⟩) (HA.out.keepc (by omega) cB3_0) (by dsimp only; omega)) (by dsimp only; omega)) (by dsimp only; omega)) (by dsimp only; omega)) (by dsimp only; omega)) (by dsimp only; omega)), (setfar (p := ⟨(w.heap.size + 1 + 1), 1, none⟩) (setfar (p := ⟨(w.heap.size + 1 + 1), 0, none⟩) (setfar (p := ⟨(w.heap.size + 1), 1, none⟩) (setfar (p := ⟨(w.heap.size + 1), 0, none⟩) (setfar (p := ⟨w.heap.size, 1, none⟩) (setfar (p := ⟨w.heap.size, 0, none⟩) (HA.out.keepc (by omega) cB3_1) (by dsimp only; omega)) (by dsimp only; omega)) (by dsimp only; omega)) (by dsimp only; omega)) (by dsimp only; omega)) (by dsimp only; omega)), (setfar (p := ⟨(w.heap.size + 1 + 1), 1, none⟩) (setfar (p := ⟨(w.heap.size + 1 + 1), 0, none⟩) (setfar (p := ⟨(w.heap.size + 1), 1, none⟩) (setfar (p := ⟨(w.heap.size + 1), 0, none⟩) (setfar (p := ⟨w.heap.size, 1, none⟩) (setfar (p := ⟨w.heap.size, 0, none⟩) (HA.out.keepc (by omega) cB4_0) (by dsimp only; omega)) (by dsimp only; omega)) (by dsimp only; omega)) (by dsimp only; omega)) (by dsimp only; omega)) (by dsimp only; omega)), (setfar (p := ⟨(w.heap.size + 1 + 1), 1, none⟩) (setfar (p := ⟨(w.heap.size + 1 + 1), 0, none⟩) (setfar (p := ⟨(w.heap.size + 1), 1, none⟩) (setfar (p := ⟨(w.heap.size + 1), 0, none⟩) (setfar (p := ⟨w.heap.size, 1, none⟩) (setfar (p := ⟨w.heap.size, 0, none⟩) (HA.out.keepc (by omega) cB4_1) (by dsimp only; omega)) (by dsimp only; omega)) (by dsimp only; omega)) (by dsimp only; omega)) (by dsimp only; omega)) (by dsimp only; omega))⟩) (first | (go_at_call 46; (with_reducible refine (drawPt_any p _ _ (by omega) HS5.out.drew).mono ?_); rintro r u1 ⟨x, y, rfl, hx, hy, hs, ho'⟩; replace HA := Lib.hid ((Only.drew (Only.refl p (p + 1) w5)).trans ho'); clear hs ho'; have zu1 := HA.out.size; have d0_0 := HA.out.keepc (by omega) cB0_0; have m0_0 := (B0.out.only HA.out (by omega)).free 0; have d0_1 := HA.out.keepc (by omega) cB0_1; have m0_1 := (B0.out.only HA.out (by omega)).free 1; have d1_0 := HA.out.keepc (by omega) cB1_0; have m1_0 := (B1.out.only HA.out (by omega)).free 0; have d1_1 := HA.out.keepc (by omega) cB1_1; have m1_1 := (B1.out.only HA.out (by omega)).free 1; have d2_0 := HA.out.keepc (by omega) cB2_0; have m2_0 := (B2.out.only HA.out (by omega)).free 0; have d2_1 := HA.out.keepc (by omega) cB2_1; have m2_1 := (B2.out.only HA.out (by omega)).free 1))
  replace B0 := Lib.hid (B0.out.only HA.out (by omega))
  replace B1 := Lib.hid (B1.out.only HA.out (by omega))
  replace B2 := Lib.hid (B2.out.only HA.out (by omega))
  replace HO := Lib.hid (HO.out.trans HA.out)
  clear HA
  have HZ := Lib.hid (Only.after HB.out HO.out (by omega) (by omega))
  go_wp2
  refine ret_bi3 (g0 := w.heap.size) (g1 := (w.heap.size + 1)) (g2 := (w.heap.size + 1 + 1)) (z0 := [a, b]) (z1 := [d, e']) (z2 := [x, y]) (v := .tuple #[.agg #[.int .i64 a, .int .i64 b], .agg #[.int .i64 d, .int .i64 e'], .agg #[.int .i64 x, .int .i64 y]]) (by first | with_reducible exact BI.drew (BI.far_2 (BI.far_2 (BI.put_2 B0.out _ _) (by omega) _ _) (by omega) _ _) | with_reducible exact (BI.far_2 (BI.far_2 (BI.put_2 B0.out _ _) (by omega) _ _) (by omega) _ _)) (by first | with_reducible exact BI.drew (BI.far_2 (BI.put_2 (BI.far_2 B1.out (by omega) _ _) _ _) (by omega) _ _) | with_reducible exact (BI.far_2 (BI.put_2 (BI.far_2 B1.out (by omega) _ _) _ _) (by omega) _ _)) (by first | with_reducible exact BI.drew (BI.put_2 (BI.far_2 (BI.far_2 B2.out (by omega) _ _) (by omega) _ _) _ _) | with_reducible exact (BI.put_2 (BI.far_2 (BI.far_2 B2.out (by omega) _ _) (by omega) _ _) _ _)) rfl ?_ ?_
  · intro W h0 h1 h2
    have e0_0 := h0.cell 0 (by simp)
    have e0_1 := h0.cell 1 (by simp)
    have e1_0 := h1.cell 0 (by simp)
    have e1_1 := h1.cell 1 (by simp)
    have e2_0 := h2.cell 0 (by simp)
    have e2_1 := h2.cell 1 (by simp)
    simp only [List.getD_cons_zero, List.getD_cons_succ] at e0_0 e0_1 e1_0 e1_1 e2_0 e2_1
    simp [results, Tryd.results18, go_sem, e0_0, e0_1, e1_0, e1_1, e2_0, e2_1]
  · exact ⟨_, _, _, _, _, _, rfl, ⟨(by unfold okPl; rw [inI_y (by omega), inI_y (by omega)]; rfl), (by unfold okPl; rw [inI_y (by omega), inI_y (by omega)]; rfl), (by unfold okPl; rw [inI_y (by omega), inI_y (by omega)]; rfl)⟩, by repeat' (first | with_reducible exact HZ.out | (with_reducible refine gr_set (by dsimp only; omega) ?_) | (with_reducible refine gr_alloc ?_) | (with_reducible refine gr_drewN ?_) | (with_reducible refine gr_drew ?_))⟩
end Go.Proofs.YtoglmeiffidcbaaDoor
