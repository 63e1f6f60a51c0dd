/- The draws of cranes. -/
import Derived.Test.YtmgbbkglafnibaaEnds
import Derived.Test.YtmgbbkglafnibaaChSrc
import Derived.Deep.RegionHeld3
import Derived.IntWalk
namespace Go.Proofs.Ytmgbbkglafnibaa
open Go.RowKit Go.Deep
/-- block g is just these values -/
def VB (w : World) (g t : Nat) (vs : List Value) : Prop := w.heap[g]? = some (.cells vs.toArray t (0, 0))
theorem VB.lt {w : World} {g t : Nat} {vs : List Value} (h : VB w g t vs) : g < w.heap.size := lt_of_block h
theorem VB.cell {w : World} {g t j : Nat} {vs : List Value} {v : Value} (h : VB w g t vs) (hj : vs[j]? = some v) : w.cell? ⟨g, j, none⟩ = some v := by rw [cell_of_row w g j _ _ _ h]; simpa using hj
theorem VB.free {w : World} {g t : Nat} {vs : List Value} (h : VB w g t vs) (j : Nat) : w.frozen? ⟨g, j, none⟩ = false := by unfold VB at h; simp [World.frozen?, h]
theorem VB.only {w w' : World} {g t lo hi : Nat} {vs : List Value} (h : VB w g t vs) (hb : Only lo hi w w') (hd : g < lo ∨ hi ≤ g) : VB w' g t vs := (hb.block g h.lt hd).trans h
theorem VB.late {w w' : World} {g t : Nat} {vs : List Value} (h : VB w g t vs) (hb : Below w.heap.size w w') : VB w' g t vs := (hb.block g h.lt).trans h
theorem VB.alloc {w : World} {g t : Nat} {vs : List Value} (h : VB w g t vs) (o : Obj) : VB (w.alloc o) g t vs := (Below.heap_alloc w o g h.lt).trans h
theorem VB.far {w : World} {g t : Nat} {vs : List Value} (h : VB w g t vs) {p : Addr} (hp : g ≠ p.block) (u : Value) : VB (w.setCell p u) g t vs := (Below.heap_setCell w p u g hp).trans h
theorem VB.put {w : World} {g t : Nat} {vs : List Value} (h : VB w g t vs) (j : Nat) (v : Value) : VB (w.setCell ⟨g, j, none⟩ v) g t (vs.set j v) := by unfold VB at h ⊢; rw [heap_setCell_same w g j _ _ _ h]; simp
/-- a chart in a block of its own between lo and hi -/
def CH (w : World) (lo hi : Nat) (A : Option Addr) (zs : List Int) : Prop := ∃ g, A = some ⟨g, 0, none⟩ ∧ lo ≤ g ∧ g < hi ∧ g < w.heap.size ∧ ∀ j, j < zs.length → w.cell? ⟨g, j, none⟩ = some (.int .i64 (zs.getD j 0))
theorem CH.of_rm {w : World} {m e lo hi n c : Nat} {A : Option Addr} {zs : List Int} (h : RM m e w lo hi A n c zs) (hn : 1 ≤ n) : CH w lo hi A zs := by
  obtain ⟨g, h1, h2, h3, h4⟩ := h.isAt (by omega)
  exact ⟨g, h1, h2, h3, h4, fun j hj => (h.cellAt h1 hj).1⟩
theorem CH.late {w w' : World} {lo hi : Nat} {A : Option Addr} {zs : List Int} (h : CH w lo hi A zs) (hb : Below w.heap.size w w') : CH w' lo hi A zs := by
  obtain ⟨g, h1, h2, h3, h4, h5⟩ := h
  exact ⟨g, h1, h2, h3, Nat.lt_of_lt_of_le h4 hb.size, fun j hj => (hb.cell (p := ⟨g, j, none⟩) h4).trans (h5 j hj)⟩
theorem CH.only {w w' : World} {lo hi lo' hi' : Nat} {A : Option Addr} {zs : List Int} (h : CH w lo hi A zs) (hb : Only lo' hi' w w') (hd : hi ≤ lo' ∨ hi' ≤ lo) : CH w' lo hi A zs := by
  obtain ⟨g, h1, h2, h3, h4, h5⟩ := h
  exact ⟨g, h1, h2, h3, Nat.lt_of_lt_of_le h4 hb.size, fun j hj => hb.keepc (by omega) (h5 j hj)⟩
theorem CH.far {w : World} {lo hi : Nat} {A : Option Addr} {zs : List Int} (h : CH w lo hi A zs) {p : Addr} (hp : p.block < lo ∨ hi ≤ p.block) (u : Value) : CH (w.setCell p u) lo hi A zs := by
  obtain ⟨g, h1, h2, h3, h4, h5⟩ := h
  exact ⟨g, h1, h2, h3, by simpa using h4, fun j hj => setfar (h5 j hj) (by omega)⟩
theorem CH.si {w : World} {lo hi : Nat} {A : Option Addr} {zs : List Int} (h : CH w lo hi A zs) : SI w w.heap.size A zs := by
  obtain ⟨g, h1, _, _, h4, h5⟩ := h
  exact fun _ => ⟨g, 0, h1, h4, fun j hj => by rw [Nat.zero_add]; exact h5 j hj⟩
theorem CH.wide {w : World} {lo hi lo' hi' : Nat} {A : Option Addr} {zs : List Int} (h : CH w lo hi A zs) (h1 : lo' ≤ lo) (h2 : hi ≤ hi') : CH w lo' hi' A zs := by
  obtain ⟨g, a, b, c, d, e⟩ := h
  exact ⟨g, a, by omega, by omega, d, e⟩
theorem VB.put_7 {w : World} {g t : Nat} {y0 y1 y2 y3 y4 y5 y6 : Value} (h : VB w g t [y0, y1, y2, y3, y4, y5, y6]) (x0 x1 x2 x3 x4 x5 x6 : Value) : VB (((((((w.setCell ⟨g, 0, none⟩ x0).setCell ⟨g, 1, none⟩ x1).setCell ⟨g, 2, none⟩ x2).setCell ⟨g, 3, none⟩ x3).setCell ⟨g, 4, none⟩ x4).setCell ⟨g, 5, none⟩ x5).setCell ⟨g, 6, none⟩ x6) g t [x0, x1, x2, x3, x4, x5, x6] := (((((((h.put 0 x0).put 1 x1).put 2 x2).put 3 x3).put 4 x4).put 5 x5).put 6 x6)
theorem ret_vb {P : Program} {fn : Func} {R : Ending → World → Prop} {a : Act} {w : World} {g t : Nat} {vs : List Value} {v : Value} (hB : VB w g t vs) (hd : a.defers = []) (hr : ∀ W, VB W g t vs → (results fn a.tmps).run P W = .ok v W) (hR : R (.returned v) w) : bodyPost P fn R .ret a w := ⟨hd, v, hr w hB, hR⟩
theorem VB.drew {w : World} {g t : Nat} {vs : List Value} (h : VB w g t vs) : VB w.drew g t vs := h
theorem CH.drew {w : World} {lo hi : Nat} {A : Option Addr} {zs : List Int} (h : CH w lo hi A zs) : CH w.drew lo hi A zs := h
theorem VB.far_7 {w : World} {g t g' : Nat} {vs : List Value} (h : VB w g t vs) (hn : g ≠ g') (x0 x1 x2 x3 x4 x5 x6 : Value) : VB (((((((w.setCell ⟨g', 0, none⟩ x0).setCell ⟨g', 1, none⟩ x1).setCell ⟨g', 2, none⟩ x2).setCell ⟨g', 3, none⟩ x3).setCell ⟨g', 4, none⟩ x4).setCell ⟨g', 5, none⟩ x5).setCell ⟨g', 6, none⟩ x6) g t vs := ((((((h.far hn x0).far hn x1).far hn x2).far hn x3).far hn x4).far hn x5).far hn x6
theorem ret_vb2 {P : Program} {fn : Func} {R : Ending → World → Prop} {a : Act} {w : World} {g t g' t' : Nat} {vs vs' : List Value} {v : Value} (hB : VB w g t vs) (hB' : VB w g' t' vs') (hd : a.defers = []) (hr : ∀ W, VB W g t vs → VB W g' t' vs' → (results fn a.tmps).run P W = .ok v W) (hR : R (.returned v) w) : bodyPost P fn R .ret a w := ⟨hd, v, hr w hB hB', hR⟩
/-- a crane as it is drawn -/
def Drawn (a b : Int) (x : Cr) (n : Nat) : Prop := (-2000 ≤ x.px ∧ x.px ≤ 2000) ∧ (-2000 ≤ x.py ∧ x.py ≤ 2000) ∧ (a ≤ x.hg ∧ x.hg ≤ b) ∧ (200 ≤ x.jb ∧ x.jb ≤ 599) ∧ (0 ≤ x.bk ∧ x.bk ≤ 149) ∧ 1 ≤ n ∧ x.zs.length = n * 2 ∧ okCh x.zs n = true ∧ rdC x.zs (n - 1) ≤ x.jb
set_option maxHeartbeats 4000000 in
set_option maxRecDepth 20000 in
theorem drawPt_any (p N : Nat) (w : World) (hN : N + 4 ≤ 1000000) (h : Src w p N) : Calls Try.prog 85 #[.pointer (some ⟨p, 0, none⟩)] w fun e w' => ∃ a b : Int, e = .returned (.agg #[.int .i64 a, .int .i64 b]) ∧ (-600 ≤ a ∧ a ≤ 600) ∧ (-600 ≤ b ∧ b ≤ 600) ∧ Src w' p (N + 4) ∧ Only p (p + 1) w w' := by
  have H := Lib.hid h
  clear h
  have hpl := H.out.lt
  have hb0 : Below w.heap.size w (w.alloc (.cells #[.int .i64 0, .int .i64 0] 79)) := by repeat' first | exact gr_refl _ | with_reducible assumption | with_reducible apply gr_alloc | with_reducible apply gr_set | with_reducible apply gr_drew | with_reducible apply gr_drewN | exact Nat.le_add_right _ _ | exact Nat.le_refl _ | (refine gr_then (by with_reducible assumption) ?_)
  have B0 := Lib.hid (show BI (w.alloc (.cells #[.int .i64 0, .int .i64 0] 79)) (w.heap.size) 79 [0, 0] from heap_alloc_new w _)
  replace H := Lib.hid (H.out.late hb0)
  have HO := Lib.hid (Only.of_below (lo := p) (hi := p + 1) hb0)
  have hz : w.heap.size + 1 ≤ (w.alloc (.cells #[.int .i64 0, .int .i64 0] 79)).heap.size := by simp
  clear hb0
  go_enter Try.func85, Try.ntmps85
  go_wp2_with fail
  generalize w.alloc (.cells #[.int .i64 0, .int .i64 0] 79) = v0 at *
  have hg0 : w.heap.size < v0.heap.size := by omega
  have hp0 : p + 1 ≤ w.heap.size := hpl
  generalize hgg : w.heap.size = g0 at *
  go_at_call 74
  (with_reducible refine (pick_any p _ _ _ (by omega) (i64_of (by omega)) H.out).mono ?_)
  rintro e w1 ⟨x1, rfl, hx1, hy1, hm1, hn1, hs, ho⟩
  have HS1 := Lib.hid hs
  have HO1 := Lib.hid ho
  clear hs ho
  have hz1 := HO1.out.size
  replace B0 := Lib.hid (B0.out.only HO1.out (by omega))
  replace HO := Lib.hid (HO.out.trans HO1.out)
  go_wp2_with fail
  go_at_call 74
  (with_reducible refine (pick_any p _ _ _ (by omega) (i64_of (by omega)) HS1.out).mono ?_)
  rintro e w2 ⟨x2, rfl, hx2, hy2, hm2, hn2, hs, ho⟩
  have HS2 := Lib.hid hs
  have HO2 := Lib.hid ho
  clear hs ho
  have hz2 := HO2.out.size
  replace B0 := Lib.hid (B0.out.only HO2.out (by omega))
  replace HO := Lib.hid (HO.out.trans HO2.out)
  have cB0_0 := B0.out.cell 0 (by simp)
  have cB0_1 := B0.out.cell 1 (by simp)
  have fB0_0 := B0.out.free 0
  have fB0_1 := B0.out.free 1
  simp only [List.getD_cons_zero, List.getD_cons_succ] at cB0_0 cB0_1
  have ltB0 := B0.out.lt
  go_wp2
  refine ret_box (g := g0) (zs := [x1 - 600, x2 - 600]) (v := .agg #[.int .i64 (x1 - 600), .int .i64 (x2 - 600)]) (by first | with_reducible exact BI.put_2 B0.out _ _ | with_reducible exact (BI.put_2 B0.out _ _).alloc _ | with_reducible exact ((BI.put_2 B0.out _ _).alloc _).alloc _) rfl ?_ ?_
  · intro W hW
    have e0 := hW.cell 0 (by simp)
    have e1 := hW.cell 1 (by simp)
    simp only [List.getD_cons_zero, List.getD_cons_succ] at e0 e1
    simp [results, Try.results85, go_sem, e0, e1]
  · exact ⟨_, _, rfl, by omega, by omega, by repeat' (first | with_reducible exact HS2.out.more (by omega) | (with_reducible refine Src.setNew ?_ _ (by dsimp only; omega)) | (with_reducible refine Src.alloc ?_ _) | (with_reducible refine Src.drewN ?_ _)), by repeat' (first | with_reducible exact HO.out | (with_reducible refine Only.setNew ?_ _ (by dsimp only; omega)) | (with_reducible refine Only.alloc ?_ _) | (with_reducible refine Only.drewN ?_) | (with_reducible refine Only.drew ?_))⟩
set_option maxHeartbeats 16000000 in
set_option maxRecDepth 20000 in
theorem drawCr_any (p N : Nat) (nm : ByteArray) (w : World) (hN : N + 40 ≤ 1000000) (h : Src w p N) : Calls Try.prog 79 #[.pointer (some ⟨p, 0, none⟩), .string nm] w fun e w' => ∃ (x : Cr) (A : Option Addr) (n c : Nat), e = .returned (.agg #[.string x.nm, .int .i64 x.px, .int .i64 x.py, .int .i64 x.hg, .int .i64 x.jb, .int .i64 x.bk, .slice A n c]) ∧ x.nm = nm ∧ Drawn 200 599 x n ∧ CH w' w.heap.size w'.heap.size A x.zs ∧ Src w' p (N + 40) ∧ Only p (p + 1) w w' := by
  have H := Lib.hid h
  clear h
  have hpl := H.out.lt
  have hb0 : Below w.heap.size w (w.alloc (.cells #[.string ⟨#[]⟩, .int .i64 0, .int .i64 0, .int .i64 0, .int .i64 0, .int .i64 0, .slice none 0 0] 82)) := by repeat' first | exact gr_refl _ | with_reducible assumption | with_reducible apply gr_alloc | with_reducible apply gr_set | with_reducible apply gr_drew | with_reducible apply gr_drewN | exact Nat.le_add_right _ _ | exact Nat.le_refl _ | (refine gr_then (by with_reducible assumption) ?_)
  have B0 := Lib.hid (show VB (w.alloc (.cells #[.string ⟨#[]⟩, .int .i64 0, .int .i64 0, .int .i64 0, .int .i64 0, .int .i64 0, .slice none 0 0] 82)) w.heap.size 82 [.string ⟨#[]⟩, .int .i64 0, .int .i64 0, .int .i64 0, .int .i64 0, .int .i64 0, .slice none 0 0] from heap_alloc_new w _)
  replace H := Lib.hid (H.out.late hb0)
  have HO := Lib.hid (Only.of_below (lo := p) (hi := p + 1) hb0)
  have hz : w.heap.size + 1 ≤ (w.alloc (.cells #[.string ⟨#[]⟩, .int .i64 0, .int .i64 0, .int .i64 0, .int .i64 0, .int .i64 0, .slice none 0 0] 82)).heap.size := by simp
  clear hb0
  go_enter Try.func79, Try.ntmps79
  go_wp2_with fail
  generalize w.alloc (.cells #[.string ⟨#[]⟩, .int .i64 0, .int .i64 0, .int .i64 0, .int .i64 0, .int .i64 0, .slice none 0 0] 82) = v0 at *
  have hg0 : w.heap.size < v0.heap.size := by omega
  have hp0 : p + 1 ≤ w.heap.size := hpl
  go_at_call 85
  (with_reducible refine (drawPt_any p _ _ (by omega) H.out).mono ?_)
  rintro e w1 ⟨px, py, rfl, hpx, hpy, hs, ho⟩
  have HS1 := Lib.hid hs
  have HO1 := Lib.hid ho
  clear hs ho
  have hz1 := HO1.out.size
  replace B0 := Lib.hid (B0.out.only HO1.out (by omega))
  replace HO := Lib.hid (HO.out.trans HO1.out)
  have hb : Below w1.heap.size w1 (w1.alloc (.cells #[.string nm, .int .i64 px, .int .i64 py, .int .i64 0, .int .i64 0, .int .i64 0, .slice none 0 0] 82)) := gr_alloc (gr_refl _)
  have B1 := Lib.hid (show VB (w1.alloc (.cells #[.string nm, .int .i64 px, .int .i64 py, .int .i64 0, .int .i64 0, .int .i64 0, .slice none 0 0] 82)) w1.heap.size 82 [.string nm, .int .i64 px, .int .i64 py, .int .i64 0, .int .i64 0, .int .i64 0, .slice none 0 0] from heap_alloc_new _ _)
  replace B0 := Lib.hid (B0.out.late hb)
  replace HO := Lib.hid (HO.out.trans (Only.of_below hb))
  have hp2 : p + 1 ≤ w1.heap.size := HS1.out.lt
  have HS2 := Lib.hid (HS1.out.late hb)
  have hz2 : w1.heap.size + 1 ≤ (w1.alloc (.cells #[.string nm, .int .i64 px, .int .i64 py, .int .i64 0, .int .i64 0, .int .i64 0, .slice none 0 0] 82)).heap.size := by simp
  clear hb
  go_wp2_with fail
  generalize w1.alloc (.cells #[.string nm, .int .i64 px, .int .i64 py, .int .i64 0, .int .i64 0, .int .i64 0, .slice none 0 0] 82) = w2 at *
  obtain ⟨g1, hgg2⟩ : ∃ g, w1.heap.size = g := ⟨_, rfl⟩
  rw [hgg2] at B1 hp2 hz2 ⊢
  go_at_call 74
  (with_reducible refine (pick_any p _ _ _ (by omega) (i64_of (by omega)) HS2.out).mono ?_)
  rintro e w3 ⟨x3, rfl, hx3, hy3, hm3, hn3, hs, ho⟩
  have HS3 := Lib.hid hs
  have HO3 := Lib.hid ho
  clear hs ho
  have hz3 := HO3.out.size
  replace B0 := Lib.hid (B0.out.only HO3.out (by omega))
  replace B1 := Lib.hid (B1.out.only HO3.out (by omega))
  replace HO := Lib.hid (HO.out.trans HO3.out)
  have cB1_0 := B1.out.cell (j := 0) rfl
  have cB1_1 := B1.out.cell (j := 1) rfl
  have cB1_2 := B1.out.cell (j := 2) rfl
  have cB1_3 := B1.out.cell (j := 3) rfl
  have cB1_4 := B1.out.cell (j := 4) rfl
  have cB1_5 := B1.out.cell (j := 5) rfl
  have cB1_6 := B1.out.cell (j := 6) rfl
  have fB1_3 := B1.out.free 3
  have ltB1 := B1.out.lt
  replace B1 := Lib.hid (B1.out.put 3 (.int .i64 (200 + x3)))
  replace B0 := Lib.hid (B0.out.far (p := ⟨g1, 3, none⟩) (by dsimp only; omega) (.int .i64 (200 + x3)))
  replace HO := Lib.hid (HO.out.setNew (q := ⟨g1, 3, none⟩) (.int .i64 (200 + x3)) (by dsimp only; omega))
  replace HS3 := Lib.hid (HS3.out.setNew (q := ⟨g1, 3, none⟩) (.int .i64 (200 + x3)) (by dsimp only; omega))
  have hs4 : (w3.setCell ⟨g1, 3, none⟩ (.int .i64 (200 + x3))).heap.size = w3.heap.size := by simp
  go_wp2_with fail
  generalize w3.setCell ⟨g1, 3, none⟩ (.int .i64 (200 + x3)) = w4 at *
  clear cB1_0 cB1_1 cB1_2 cB1_3 cB1_4 cB1_5 cB1_6 fB1_3 ltB1
  (try rw [← hs4])
  go_at_call 74
  (with_reducible refine (pick_any p _ _ _ (by omega) (i64_of (by omega)) HS3.out).mono ?_)
  rintro e w5 ⟨x5, rfl, hx5, hy5, hm5, hn5, hs, ho⟩
  have HS5 := Lib.hid hs
  have HO5 := Lib.hid ho
  clear hs ho
  have hz5 := HO5.out.size
  replace B0 := Lib.hid (B0.out.only HO5.out (by omega))
  replace B1 := Lib.hid (B1.out.only HO5.out (by omega))
  replace HO := Lib.hid (HO.out.trans HO5.out)
  have cB1_0 := B1.out.cell (j := 0) rfl
  have cB1_1 := B1.out.cell (j := 1) rfl
  have cB1_2 := B1.out.cell (j := 2) rfl
  have cB1_3 := B1.out.cell (j := 3) rfl
  have cB1_4 := B1.out.cell (j := 4) rfl
  have cB1_5 := B1.out.cell (j := 5) rfl
  have cB1_6 := B1.out.cell (j := 6) rfl
  have fB1_4 := B1.out.free 4
  have ltB1 := B1.out.lt
  replace B1 := Lib.hid (B1.out.put 4 (.int .i64 (200 + x5)))
  replace B0 := Lib.hid (B0.out.far (p := ⟨g1, 4, none⟩) (by dsimp only; omega) (.int .i64 (200 + x5)))
  replace HO := Lib.hid (HO.out.setNew (q := ⟨g1, 4, none⟩) (.int .i64 (200 + x5)) (by dsimp only; omega))
  replace HS5 := Lib.hid (HS5.out.setNew (q := ⟨g1, 4, none⟩) (.int .i64 (200 + x5)) (by dsimp only; omega))
  have hs6 : (w5.setCell ⟨g1, 4, none⟩ (.int .i64 (200 + x5))).heap.size = w5.heap.size := by simp
  go_wp2_with fail
  generalize w5.setCell ⟨g1, 4, none⟩ (.int .i64 (200 + x5)) = w6 at *
  clear cB1_0 cB1_1 cB1_2 cB1_3 cB1_4 cB1_5 cB1_6 fB1_4 ltB1
  (try rw [← hs6])
  go_at_call 74
  (with_reducible refine (pick_any p _ _ _ (by omega) (i64_of (by omega)) HS5.out).mono ?_)
  rintro e w7 ⟨x7, rfl, hx7, hy7, hm7, hn7, hs, ho⟩
  have HS7 := Lib.hid hs
  have HO7 := Lib.hid ho
  clear hs ho
  have hz7 := HO7.out.size
  replace B0 := Lib.hid (B0.out.only HO7.out (by omega))
  replace B1 := Lib.hid (B1.out.only HO7.out (by omega))
  replace HO := Lib.hid (HO.out.trans HO7.out)
  have cB1_0 := B1.out.cell (j := 0) rfl
  have cB1_1 := B1.out.cell (j := 1) rfl
  have cB1_2 := B1.out.cell (j := 2) rfl
  have cB1_3 := B1.out.cell (j := 3) rfl
  have cB1_4 := B1.out.cell (j := 4) rfl
  have cB1_5 := B1.out.cell (j := 5) rfl
  have cB1_6 := B1.out.cell (j := 6) rfl
  have fB1_5 := B1.out.free 5
  have ltB1 := B1.out.lt
  replace B1 := Lib.hid (B1.out.put 5 (.int .i64 x7))
  replace B0 := Lib.hid (B0.out.far (p := ⟨g1, 5, none⟩) (by dsimp only; omega) (.int .i64 x7))
  replace HO := Lib.hid (HO.out.setNew (q := ⟨g1, 5, none⟩) (.int .i64 x7) (by dsimp only; omega))
  replace HS7 := Lib.hid (HS7.out.setNew (q := ⟨g1, 5, none⟩) (.int .i64 x7) (by dsimp only; omega))
  have hs8 : (w7.setCell ⟨g1, 5, none⟩ (.int .i64 x7)).heap.size = w7.heap.size := by simp
  have cB1_0 := B1.out.cell (j := 0) rfl
  have cB1_1 := B1.out.cell (j := 1) rfl
  have cB1_2 := B1.out.cell (j := 2) rfl
  have cB1_3 := B1.out.cell (j := 3) rfl
  have cB1_4 := B1.out.cell (j := 4) rfl
  have cB1_5 := B1.out.cell (j := 5) rfl
  have cB1_6 := B1.out.cell (j := 6) rfl
  have ltB1 := B1.out.lt
  clear cB1_0 cB1_1 cB1_2 cB1_3 cB1_4 cB1_5 cB1_6 ltB1
  have cB1_0 := B1.out.cell (j := 0) rfl
  have cB1_1 := B1.out.cell (j := 1) rfl
  have cB1_2 := B1.out.cell (j := 2) rfl
  have cB1_3 := B1.out.cell (j := 3) rfl
  have cB1_4 := B1.out.cell (j := 4) rfl
  have cB1_5 := B1.out.cell (j := 5) rfl
  have cB1_6 := B1.out.cell (j := 6) rfl
  have ltB1 := B1.out.lt
  go_wp2_with fail
  generalize w7.setCell ⟨g1, 5, none⟩ (.int .i64 x7) = w8 at *
  clear cB1_0 cB1_1 cB1_2 cB1_3 cB1_4 cB1_5 cB1_6 ltB1
  (try rw [← hs8])
  go_at_call 86
  (with_reducible refine (drawCh_any p _ (200 + x5) _ (by omega) (by omega) HS7.out).mono ?_)
  rintro e w9 ⟨A, n, c, zs, rfl, hn1, hrm, hok, hrd, hs, ho⟩
  have HS9 := Lib.hid hs
  have HO9 := Lib.hid ho
  clear hs ho
  have hz9 := HO9.out.size
  replace B0 := Lib.hid (B0.out.only HO9.out (by omega))
  replace B1 := Lib.hid (B1.out.only HO9.out (by omega))
  replace HO := Lib.hid (HO.out.trans HO9.out)
  have hlen := hrm.len
  have HV := Lib.hid hok
  have HRD := Lib.hid hrd
  have R1 := Lib.hid (CH.of_rm hrm hn1)
  clear hrm hok hrd
  have cB0_0 := B0.out.cell (j := 0) rfl
  have cB0_1 := B0.out.cell (j := 1) rfl
  have cB0_2 := B0.out.cell (j := 2) rfl
  have cB0_3 := B0.out.cell (j := 3) rfl
  have cB0_4 := B0.out.cell (j := 4) rfl
  have cB0_5 := B0.out.cell (j := 5) rfl
  have cB0_6 := B0.out.cell (j := 6) rfl
  have fB0_0 := B0.out.free 0
  have fB0_1 := B0.out.free 1
  have fB0_2 := B0.out.free 2
  have fB0_3 := B0.out.free 3
  have fB0_4 := B0.out.free 4
  have fB0_5 := B0.out.free 5
  have fB0_6 := B0.out.free 6
  have ltB0 := B0.out.lt
  have cB1_0 := B1.out.cell (j := 0) rfl
  have cB1_1 := B1.out.cell (j := 1) rfl
  have cB1_2 := B1.out.cell (j := 2) rfl
  have cB1_3 := B1.out.cell (j := 3) rfl
  have cB1_4 := B1.out.cell (j := 4) rfl
  have cB1_5 := B1.out.cell (j := 5) rfl
  have cB1_6 := B1.out.cell (j := 6) rfl
  have fB1_6 := B1.out.free 6
  have ltB1 := B1.out.lt
  go_wp2
  refine ret_vb (g := w.heap.size) (vs := [.string nm, .int .i64 px, .int .i64 py, .int .i64 (200 + x3), .int .i64 (200 + x5), .int .i64 x7, .slice A n c]) (v := .agg #[.string nm, .int .i64 px, .int .i64 py, .int .i64 (200 + x3), .int .i64 (200 + x5), .int .i64 x7, .slice A n c]) (by first | with_reducible exact VB.put_7 ((B0.out.far (by dsimp only; omega) _)) _ _ _ _ _ _ _ | with_reducible exact VB.put_7 B0.out _ _ _ _ _ _ _) rfl ?_ ?_
  · intro W hW
    have e0 := hW.cell (j := 0) rfl
    have e1 := hW.cell (j := 1) rfl
    have e2 := hW.cell (j := 2) rfl
    have e3 := hW.cell (j := 3) rfl
    have e4 := hW.cell (j := 4) rfl
    have e5 := hW.cell (j := 5) rfl
    have e6 := hW.cell (j := 6) rfl
    simp [results, Try.results79, go_sem, e0, e1, e2, e3, e4, e5, e6]
  · exact ⟨(⟨nm, px, py, 200 + x3, 200 + x5, x7, zs⟩ : Cr), A, n, c, rfl, rfl, ⟨by dsimp only; omega, by dsimp only; omega, by dsimp only; omega, by dsimp only; omega, by dsimp only; omega, hn1, hlen, HV.out, HRD.out⟩, by first | (refine CH.wide (lo := w8.heap.size) (hi := w9.heap.size) ?_ (by omega) (by simp); repeat' (first | with_reducible exact R1.out | (with_reducible refine CH.far ?_ (by dsimp only; omega) _))), by repeat' (first | with_reducible exact HS9.out.more (by omega) | (with_reducible refine Src.drew ?_) | (with_reducible refine Src.setNew ?_ _ (by dsimp only; omega)) | (with_reducible refine Src.alloc ?_ _) | (with_reducible refine Src.drewN ?_ _)), by repeat' (first | with_reducible exact HO.out | (with_reducible refine Only.setNew ?_ _ (by dsimp only; omega)) | (with_reducible refine Only.alloc ?_ _) | (with_reducible refine Only.drewN ?_) | (with_reducible refine Only.drew ?_))⟩
set_option maxHeartbeats 32000000 in
set_option maxRecDepth 20000 in
theorem two_any (p N : Nat) (w : World) (hN : N + 100 ≤ 1000000) (h : Src w p N) : Calls Try.prog 72 #[.pointer (some ⟨p, 0, none⟩)] w fun e w' => ∃ (x y : Cr) (A A' : Option Addr) (n c n' c' : Nat), e = .returned (.tuple #[.agg #[.string x.nm, .int .i64 x.px, .int .i64 x.py, .int .i64 x.hg, .int .i64 x.jb, .int .i64 x.bk, .slice A n c], .agg #[.string y.nm, .int .i64 y.px, .int .i64 y.py, .int .i64 y.hg, .int .i64 y.jb, .int .i64 y.bk, .slice A' n' c']]) ∧ (x.nm = ⟨#[97, 100, 97]⟩ ∧ y.nm = ⟨#[98, 111]⟩) ∧ ((0 ≤ x.px ∧ x.px ≤ 99) ∧ (0 ≤ x.py ∧ x.py ≤ 99)) ∧ Drawn 100 700 x n ∧ Drawn 100 700 y n' ∧ CH w' w.heap.size w'.heap.size A x.zs ∧ CH w' w.heap.size w'.heap.size A' y.zs ∧ Src w' p (N + 100) ∧ Only p (p + 1) w w' := by
  have H := Lib.hid h
  clear h
  have hpl := H.out.lt
  have hb0 : Below w.heap.size w (w.alloc (.cells #[.string ⟨#[]⟩, .int .i64 0, .int .i64 0, .int .i64 0, .int .i64 0, .int .i64 0, .slice none 0 0] 82)) := by repeat' first | exact gr_refl _ | with_reducible assumption | with_reducible apply gr_alloc | with_reducible apply gr_set | with_reducible apply gr_drew | with_reducible apply gr_drewN | exact Nat.le_add_right _ _ | exact Nat.le_refl _ | (refine gr_then (by with_reducible assumption) ?_)
  have B0 := Lib.hid (show VB (w.alloc (.cells #[.string ⟨#[]⟩, .int .i64 0, .int .i64 0, .int .i64 0, .int .i64 0, .int .i64 0, .slice none 0 0] 82)) w.heap.size 82 [.string ⟨#[]⟩, .int .i64 0, .int .i64 0, .int .i64 0, .int .i64 0, .int .i64 0, .slice none 0 0] from heap_alloc_new w _)
  have hb1 : Below w.heap.size w ((w.alloc (.cells #[.string ⟨#[]⟩, .int .i64 0, .int .i64 0, .int .i64 0, .int .i64 0, .int .i64 0, .slice none 0 0] 82)).alloc (.cells #[.string ⟨#[]⟩, .int .i64 0, .int .i64 0, .int .i64 0, .int .i64 0, .int .i64 0, .slice none 0 0] 82)) := by repeat' first | exact gr_refl _ | with_reducible assumption | with_reducible apply gr_alloc | with_reducible apply gr_set | with_reducible apply gr_drew | with_reducible apply gr_drewN | exact Nat.le_add_right _ _ | exact Nat.le_refl _ | (refine gr_then (by with_reducible assumption) ?_)
  replace B0 := Lib.hid (B0.out.alloc (.cells #[.string ⟨#[]⟩, .int .i64 0, .int .i64 0, .int .i64 0, .int .i64 0, .int .i64 0, .slice none 0 0] 82))
  have B1 := Lib.hid (show VB ((w.alloc (.cells #[.string ⟨#[]⟩, .int .i64 0, .int .i64 0, .int .i64 0, .int .i64 0, .int .i64 0, .slice none 0 0] 82)).alloc (.cells #[.string ⟨#[]⟩, .int .i64 0, .int .i64 0, .int .i64 0, .int .i64 0, .int .i64 0, .slice none 0 0] 82)) (w.heap.size + 1) 82 [.string ⟨#[]⟩, .int .i64 0, .int .i64 0, .int .i64 0, .int .i64 0, .int .i64 0, .slice none 0 0] from by have h := heap_alloc_new (w.alloc (.cells #[.string ⟨#[]⟩, .int .i64 0, .int .i64 0, .int .i64 0, .int .i64 0, .int .i64 0, .slice none 0 0] 82)) (.cells #[.string ⟨#[]⟩, .int .i64 0, .int .i64 0, .int .i64 0, .int .i64 0, .int .i64 0, .slice none 0 0] 82); simp only [World.size_alloc] at h; exact h)
  replace H := Lib.hid (H.out.late hb1)
  have HO := Lib.hid (Only.of_below (lo := p) (hi := p + 1) hb1)
  have hz : w.heap.size + 2 ≤ ((w.alloc (.cells #[.string ⟨#[]⟩, .int .i64 0, .int .i64 0, .int .i64 0, .int .i64 0, .int .i64 0, .slice none 0 0] 82)).alloc (.cells #[.string ⟨#[]⟩, .int .i64 0, .int .i64 0, .int .i64 0, .int .i64 0, .int .i64 0, .slice none 0 0] 82)).heap.size := by simp
  clear hb0 hb1
  go_enter Try.func72, Try.ntmps72
  go_wp2_with fail
  generalize (w.alloc (.cells #[.string ⟨#[]⟩, .int .i64 0, .int .i64 0, .int .i64 0, .int .i64 0, .int .i64 0, .slice none 0 0] 82)).alloc (.cells #[.string ⟨#[]⟩, .int .i64 0, .int .i64 0, .int .i64 0, .int .i64 0, .int .i64 0, .slice none 0 0] 82) = v0 at *
  have hg0 : w.heap.size < v0.heap.size := by omega
  have hg1 : w.heap.size + 1 < v0.heap.size := by omega
  have hp0 : p + 1 ≤ w.heap.size := hpl
  go_at_call 79
  (with_reducible refine (drawCr_any p _ ⟨#[97, 100, 97]⟩ _ (by omega) H.out).mono ?_)
  rintro e w1 ⟨x, A, n, c, rfl, hnm, hdr, hch, hs, ho⟩
  have HS1 := Lib.hid hs
  have HO1 := Lib.hid ho
  clear hs ho
  have hz1 := HO1.out.size
  replace B0 := Lib.hid (B0.out.only HO1.out (by omega))
  replace B1 := Lib.hid (B1.out.only HO1.out (by omega))
  replace HO := Lib.hid (HO.out.trans HO1.out)
  have NR1 := Lib.hid hnm
  have DR1 := Lib.hid hdr
  have R1 := Lib.hid hch
  clear hnm hdr hch
  have hb : Below w1.heap.size w1 (w1.alloc (.cells #[.string x.nm, .int .i64 x.px, .int .i64 x.py, .int .i64 x.hg, .int .i64 x.jb, .int .i64 x.bk, .slice A n c] 82)) := gr_alloc (gr_refl _)
  have B2 := Lib.hid (show VB (w1.alloc (.cells #[.string x.nm, .int .i64 x.px, .int .i64 x.py, .int .i64 x.hg, .int .i64 x.jb, .int .i64 x.bk, .slice A n c] 82)) w1.heap.size 82 [.string x.nm, .int .i64 x.px, .int .i64 x.py, .int .i64 x.hg, .int .i64 x.jb, .int .i64 x.bk, .slice A n c] from heap_alloc_new _ _)
  replace B0 := Lib.hid (B0.out.late hb)
  replace B1 := Lib.hid (B1.out.late hb)
  replace R1 := Lib.hid (R1.out.late hb)
  replace HO := Lib.hid (HO.out.trans (Only.of_below hb))
  have hp2 : p + 1 ≤ w1.heap.size := HS1.out.lt
  have HS2 := Lib.hid (HS1.out.late hb)
  have hz2 : w1.heap.size + 1 ≤ (w1.alloc (.cells #[.string x.nm, .int .i64 x.px, .int .i64 x.py, .int .i64 x.hg, .int .i64 x.jb, .int .i64 x.bk, .slice A n c] 82)).heap.size := by simp
  clear hb
  go_wp2_with fail
  generalize w1.alloc (.cells #[.string x.nm, .int .i64 x.px, .int .i64 x.py, .int .i64 x.hg, .int .i64 x.jb, .int .i64 x.bk, .slice A n c] 82) = w2 at *
  obtain ⟨g2, hgg2⟩ : ∃ g, w1.heap.size = g := ⟨_, rfl⟩
  rw [hgg2] at B2 hp2 hz2 ⊢
  go_at_call 79
  (with_reducible refine (drawCr_any p _ ⟨#[98, 111]⟩ _ (by omega) HS2.out).mono ?_)
  rintro e w3 ⟨y, A', n', c', rfl, hnm, hdr, hch, hs, ho⟩
  have HS3 := Lib.hid hs
  have HO3 := Lib.hid ho
  clear hs ho
  have hz3 := HO3.out.size
  replace B0 := Lib.hid (B0.out.only HO3.out (by omega))
  replace B1 := Lib.hid (B1.out.only HO3.out (by omega))
  replace B2 := Lib.hid (B2.out.only HO3.out (by omega))
  replace R1 := Lib.hid (R1.out.only HO3.out (by omega))
  replace HO := Lib.hid (HO.out.trans HO3.out)
  have NR2 := Lib.hid hnm
  have DR2 := Lib.hid hdr
  have R2 := Lib.hid hch
  clear hnm hdr hch
  have hb : Below w3.heap.size w3 (w3.alloc (.cells #[.string y.nm, .int .i64 y.px, .int .i64 y.py, .int .i64 y.hg, .int .i64 y.jb, .int .i64 y.bk, .slice A' n' c'] 82)) := gr_alloc (gr_refl _)
  have B3 := Lib.hid (show VB (w3.alloc (.cells #[.string y.nm, .int .i64 y.px, .int .i64 y.py, .int .i64 y.hg, .int .i64 y.jb, .int .i64 y.bk, .slice A' n' c'] 82)) w3.heap.size 82 [.string y.nm, .int .i64 y.px, .int .i64 y.py, .int .i64 y.hg, .int .i64 y.jb, .int .i64 y.bk, .slice A' n' c'] from heap_alloc_new _ _)
  replace B0 := Lib.hid (B0.out.late hb)
  replace B1 := Lib.hid (B1.out.late hb)
  replace B2 := Lib.hid (B2.out.late hb)
  replace R1 := Lib.hid (R1.out.late hb)
  replace R2 := Lib.hid (R2.out.late hb)
  replace HO := Lib.hid (HO.out.trans (Only.of_below hb))
  have hp4 : p + 1 ≤ w3.heap.size := HS3.out.lt
  have HS4 := Lib.hid (HS3.out.late hb)
  have hz4 : w3.heap.size + 1 ≤ (w3.alloc (.cells #[.string y.nm, .int .i64 y.px, .int .i64 y.py, .int .i64 y.hg, .int .i64 y.jb, .int .i64 y.bk, .slice A' n' c'] 82)).heap.size := by simp
  clear hb
  go_wp2_with fail
  generalize w3.alloc (.cells #[.string y.nm, .int .i64 y.px, .int .i64 y.py, .int .i64 y.hg, .int .i64 y.jb, .int .i64 y.bk, .slice A' n' c'] 82) = w4 at *
  obtain ⟨g3, hgg4⟩ : ∃ g, w3.heap.size = g := ⟨_, rfl⟩
  rw [hgg4] at B3 hp4 hz4 ⊢
  go_at_call 74
  (with_reducible refine (pick_any p _ _ _ (by omega) (i64_of (by omega)) HS4.out).mono ?_)
  rintro e w5 ⟨x5, rfl, hx5, hy5, hm5, hn5, hs, ho⟩
  have HS5 := Lib.hid hs
  have HO5 := Lib.hid ho
  clear hs ho
  have hz5 := HO5.out.size
  replace B0 := Lib.hid (B0.out.only HO5.out (by omega))
  replace B1 := Lib.hid (B1.out.only HO5.out (by omega))
  replace B2 := Lib.hid (B2.out.only HO5.out (by omega))
  replace B3 := Lib.hid (B3.out.only HO5.out (by omega))
  replace R1 := Lib.hid (R1.out.only HO5.out (by omega))
  replace R2 := Lib.hid (R2.out.only HO5.out (by omega))
  replace HO := Lib.hid (HO.out.trans HO5.out)
  have cB2_0 := B2.out.cell (j := 0) rfl
  have cB2_1 := B2.out.cell (j := 1) rfl
  have cB2_2 := B2.out.cell (j := 2) rfl
  have cB2_3 := B2.out.cell (j := 3) rfl
  have cB2_4 := B2.out.cell (j := 4) rfl
  have cB2_5 := B2.out.cell (j := 5) rfl
  have cB2_6 := B2.out.cell (j := 6) rfl
  have fB2_1 := B2.out.free 1
  have ltB2 := B2.out.lt
  replace B2 := Lib.hid (B2.out.put 1 (.int .i64 x5))
  replace B0 := Lib.hid (B0.out.far (p := ⟨g2, 1, none⟩) (by dsimp only; omega) (.int .i64 x5))
  replace B1 := Lib.hid (B1.out.far (p := ⟨g2, 1, none⟩) (by dsimp only; omega) (.int .i64 x5))
  replace B3 := Lib.hid (B3.out.far (p := ⟨g2, 1, none⟩) (by dsimp only; omega) (.int .i64 x5))
  replace R1 := Lib.hid (R1.out.far (p := ⟨g2, 1, none⟩) (by dsimp only; omega) (.int .i64 x5))
  replace R2 := Lib.hid (R2.out.far (p := ⟨g2, 1, none⟩) (by dsimp only; omega) (.int .i64 x5))
  replace HO := Lib.hid (HO.out.setNew (q := ⟨g2, 1, none⟩) (.int .i64 x5) (by dsimp only; omega))
  replace HS5 := Lib.hid (HS5.out.setNew (q := ⟨g2, 1, none⟩) (.int .i64 x5) (by dsimp only; omega))
  have hs6 : (w5.setCell ⟨g2, 1, none⟩ (.int .i64 x5)).heap.size = w5.heap.size := by simp
  go_wp2_with fail
  generalize w5.setCell ⟨g2, 1, none⟩ (.int .i64 x5) = w6 at *
  clear cB2_0 cB2_1 cB2_2 cB2_3 cB2_4 cB2_5 cB2_6 fB2_1 ltB2
  (try rw [← hs6])
  go_at_call 74
  (with_reducible refine (pick_any p _ _ _ (by omega) (i64_of (by omega)) HS5.out).mono ?_)
  rintro e w7 ⟨x7, rfl, hx7, hy7, hm7, hn7, hs, ho⟩
  have HS7 := Lib.hid hs
  have HO7 := Lib.hid ho
  clear hs ho
  have hz7 := HO7.out.size
  replace B0 := Lib.hid (B0.out.only HO7.out (by omega))
  replace B1 := Lib.hid (B1.out.only HO7.out (by omega))
  replace B2 := Lib.hid (B2.out.only HO7.out (by omega))
  replace B3 := Lib.hid (B3.out.only HO7.out (by omega))
  replace R1 := Lib.hid (R1.out.only HO7.out (by omega))
  replace R2 := Lib.hid (R2.out.only HO7.out (by omega))
  replace HO := Lib.hid (HO.out.trans HO7.out)
  have cB2_0 := B2.out.cell (j := 0) rfl
  have cB2_1 := B2.out.cell (j := 1) rfl
  have cB2_2 := B2.out.cell (j := 2) rfl
  have cB2_3 := B2.out.cell (j := 3) rfl
  have cB2_4 := B2.out.cell (j := 4) rfl
  have cB2_5 := B2.out.cell (j := 5) rfl
  have cB2_6 := B2.out.cell (j := 6) rfl
  have fB2_2 := B2.out.free 2
  have ltB2 := B2.out.lt
  replace B2 := Lib.hid (B2.out.put 2 (.int .i64 x7))
  replace B0 := Lib.hid (B0.out.far (p := ⟨g2, 2, none⟩) (by dsimp only; omega) (.int .i64 x7))
  replace B1 := Lib.hid (B1.out.far (p := ⟨g2, 2, none⟩) (by dsimp only; omega) (.int .i64 x7))
  replace B3 := Lib.hid (B3.out.far (p := ⟨g2, 2, none⟩) (by dsimp only; omega) (.int .i64 x7))
  replace R1 := Lib.hid (R1.out.far (p := ⟨g2, 2, none⟩) (by dsimp only; omega) (.int .i64 x7))
  replace R2 := Lib.hid (R2.out.far (p := ⟨g2, 2, none⟩) (by dsimp only; omega) (.int .i64 x7))
  replace HO := Lib.hid (HO.out.setNew (q := ⟨g2, 2, none⟩) (.int .i64 x7) (by dsimp only; omega))
  replace HS7 := Lib.hid (HS7.out.setNew (q := ⟨g2, 2, none⟩) (.int .i64 x7) (by dsimp only; omega))
  have hs8 : (w7.setCell ⟨g2, 2, none⟩ (.int .i64 x7)).heap.size = w7.heap.size := by simp
  go_wp2_with fail
  generalize w7.setCell ⟨g2, 2, none⟩ (.int .i64 x7) = w8 at *
  clear cB2_0 cB2_1 cB2_2 cB2_3 cB2_4 cB2_5 cB2_6 fB2_2 ltB2
  (try rw [← hs8])
  go_at_call 74
  (with_reducible refine (pick_any p _ _ _ (by omega) (i64_of (by omega)) HS7.out).mono ?_)
  rintro e w9 ⟨x9, rfl, hx9, hy9, hm9, hn9, hs, ho⟩
  have HS9 := Lib.hid hs
  have HO9 := Lib.hid ho
  clear hs ho
  have hz9 := HO9.out.size
  replace B0 := Lib.hid (B0.out.only HO9.out (by omega))
  replace B1 := Lib.hid (B1.out.only HO9.out (by omega))
  replace B2 := Lib.hid (B2.out.only HO9.out (by omega))
  replace B3 := Lib.hid (B3.out.only HO9.out (by omega))
  replace R1 := Lib.hid (R1.out.only HO9.out (by omega))
  replace R2 := Lib.hid (R2.out.only HO9.out (by omega))
  replace HO := Lib.hid (HO.out.trans HO9.out)
  obtain ⟨k, rfl⟩ := Int.eq_ofNat_of_zero_le hx9
  have hk : k ≤ 23 := by omega
  have cB2_0 := B2.out.cell (j := 0) rfl
  have cB2_1 := B2.out.cell (j := 1) rfl
  have cB2_2 := B2.out.cell (j := 2) rfl
  have cB2_3 := B2.out.cell (j := 3) rfl
  have cB2_4 := B2.out.cell (j := 4) rfl
  have cB2_5 := B2.out.cell (j := 5) rfl
  have cB2_6 := B2.out.cell (j := 6) rfl
  have ltB2 := B2.out.lt
  have cB3_0 := B3.out.cell (j := 0) rfl
  have cB3_1 := B3.out.cell (j := 1) rfl
  have cB3_2 := B3.out.cell (j := 2) rfl
  have cB3_3 := B3.out.cell (j := 3) rfl
  have cB3_4 := B3.out.cell (j := 4) rfl
  have cB3_5 := B3.out.cell (j := 5) rfl
  have cB3_6 := B3.out.cell (j := 6) rfl
  have fB3_1 := B3.out.free 1
  have fB3_2 := B3.out.free 2
  have ltB3 := B3.out.lt
  go_wp2_with fail
  have HA := Lib.hid (Only.refl p (p + 1) w9)
  go_region_held3 (fun w' => w'.cell? ⟨g2, 1, none⟩ = some (.int .i64 x5) ∧ w'.cell? ⟨g2, 2, none⟩ = some (.int .i64 x7)) (first | with_reducible exact ⟨cB2_1, cB2_2⟩ | with_reducible exact ⟨drewc cB2_1, drewc cB2_2⟩ | with_reducible exact ⟨(HA.out.keepc (by omega) cB2_1), (HA.out.keepc (by omega) cB2_2)⟩ | with_reducible exact ⟨(setfar (p := ⟨_, 2, none⟩) (setfar (p := ⟨_, 1, none⟩) (HA.out.keepc (by omega) cB2_1) (by dsimp only; omega)) (by dsimp only; omega)), (setfar (p := ⟨_, 2, none⟩) (setfar (p := ⟨_, 1, none⟩) (HA.out.keepc (by omega) cB2_2) (by dsimp only; omega)) (by dsimp only; omega))⟩) (first | (go_at_call 74; (with_reducible refine (pick_any p _ _ _ (by omega) (i64_of (by omega)) HS9.out.drew).mono ?_); rintro e u1 ⟨z, rfl, hz1, hz2, hz3, hz4, hs, ho'⟩; have hwr : IntKind.i64.wrap (60 + z) = 60 + z := IntWalk.i64_in _ (by omega); replace HA := Lib.hid ((Only.drew (Only.refl p (p + 1) w9)).trans ho'); have HSu := Lib.hid hs; clear hs ho'; have zu1 := HA.out.size) | (go_at_call 80; (with_reducible refine (at02_any _ _ (60 + z) k _ (by omega) (by omega) hk (by omega)).mono ?_); rintro e u2 ⟨rfl, hb⟩; replace HSu := Lib.hid (show Src u2 p (N + 40 + 40 + 2 + 2 + 2 + 2) by first | with_reducible exact HSu.out.late hb | with_reducible exact HSu.out.drew.late hb); replace HA := Lib.hid (show Only p (p + 1) w9 u2 by first | with_reducible exact HA.out.trans (Only.of_below hb) | with_reducible exact HA.out.drew.trans (Only.of_below hb)); clear hb; have zu2 := HA.out.size; have d1 := HA.out.keepc (by omega) cB3_1; have m1 := (B3.out.only HA.out (by omega)).free 1; have d2 := HA.out.keepc (by omega) cB3_2; have m2 := (B3.out.only HA.out (by omega)).free 2))
  clear cB2_0 cB2_1 cB2_2 cB2_3 cB2_4 cB2_5 cB2_6 ltB2
  clear cB3_0 cB3_1 cB3_2 cB3_3 cB3_4 cB3_5 cB3_6 fB3_1 fB3_2 ltB3
  have hzA := HA.out.size
  replace B0 := Lib.hid (B0.out.only HA.out (by omega))
  replace B1 := Lib.hid (B1.out.only HA.out (by omega))
  replace B2 := Lib.hid (B2.out.only HA.out (by omega))
  replace B3 := Lib.hid (B3.out.only HA.out (by omega))
  replace R1 := Lib.hid (R1.out.only HA.out (by omega))
  replace R2 := Lib.hid (R2.out.only HA.out (by omega))
  replace HO := Lib.hid (HO.out.trans HA.out)
  clear HA
  clear d1 m1 d2 m2
  have ba := atI_bd (x := x5) (v := vX k) (r := 60 + z) (vXY_bd k).1 (by omega)
  have bb := atI_bd (x := x7) (v := vY k) (r := 60 + z) (vXY_bd k).2 (by omega)
  replace B3 := Lib.hid (B3.out.put 1 (.int .i64 (atI x5 (vX k) (60 + z))))
  replace B0 := Lib.hid (B0.out.far (p := ⟨g3, 1, none⟩) (by dsimp only; omega) (.int .i64 (atI x5 (vX k) (60 + z))))
  replace B1 := Lib.hid (B1.out.far (p := ⟨g3, 1, none⟩) (by dsimp only; omega) (.int .i64 (atI x5 (vX k) (60 + z))))
  replace B2 := Lib.hid (B2.out.far (p := ⟨g3, 1, none⟩) (by dsimp only; omega) (.int .i64 (atI x5 (vX k) (60 + z))))
  replace R1 := Lib.hid (R1.out.far (p := ⟨g3, 1, none⟩) (by dsimp only; omega) (.int .i64 (atI x5 (vX k) (60 + z))))
  replace R2 := Lib.hid (R2.out.far (p := ⟨g3, 1, none⟩) (by dsimp only; omega) (.int .i64 (atI x5 (vX k) (60 + z))))
  replace HO := Lib.hid (HO.out.setNew (q := ⟨g3, 1, none⟩) (.int .i64 (atI x5 (vX k) (60 + z))) (by dsimp only; omega))
  replace HSu := Lib.hid (HSu.out.setNew (q := ⟨g3, 1, none⟩) (.int .i64 (atI x5 (vX k) (60 + z))) (by dsimp only; omega))
  replace B3 := Lib.hid (B3.out.put 2 (.int .i64 (atI x7 (vY k) (60 + z))))
  replace B0 := Lib.hid (B0.out.far (p := ⟨g3, 2, none⟩) (by dsimp only; omega) (.int .i64 (atI x7 (vY k) (60 + z))))
  replace B1 := Lib.hid (B1.out.far (p := ⟨g3, 2, none⟩) (by dsimp only; omega) (.int .i64 (atI x7 (vY k) (60 + z))))
  replace B2 := Lib.hid (B2.out.far (p := ⟨g3, 2, none⟩) (by dsimp only; omega) (.int .i64 (atI x7 (vY k) (60 + z))))
  replace R1 := Lib.hid (R1.out.far (p := ⟨g3, 2, none⟩) (by dsimp only; omega) (.int .i64 (atI x7 (vY k) (60 + z))))
  replace R2 := Lib.hid (R2.out.far (p := ⟨g3, 2, none⟩) (by dsimp only; omega) (.int .i64 (atI x7 (vY k) (60 + z))))
  replace HO := Lib.hid (HO.out.setNew (q := ⟨g3, 2, none⟩) (.int .i64 (atI x7 (vY k) (60 + z))) (by dsimp only; omega))
  replace HSu := Lib.hid (HSu.out.setNew (q := ⟨g3, 2, none⟩) (.int .i64 (atI x7 (vY k) (60 + z))) (by dsimp only; omega))
  have hs10 : ((u2.setCell ⟨g3, 1, none⟩ (.int .i64 (atI x5 (vX k) (60 + z)))).setCell ⟨g3, 2, none⟩ (.int .i64 (atI x7 (vY k) (60 + z)))).heap.size = u2.heap.size := by simp
  go_wp2_with fail
  generalize (u2.setCell ⟨g3, 1, none⟩ (.int .i64 (atI x5 (vX k) (60 + z)))).setCell ⟨g3, 2, none⟩ (.int .i64 (atI x7 (vY k) (60 + z))) = w10 at *
  (try rw [← hs10])
  generalize atI x5 (vX k) (60 + z) = qa at *
  generalize atI x7 (vY k) (60 + z) = qb at *
  go_at_call 71
  (with_reducible refine (one_any p _ _ _ (by omega) (i64_of (by omega)) HSu.out).mono ?_)
  rintro e w11 ⟨b11, rfl, hs, ho⟩
  have HS11 := Lib.hid hs
  have HO11 := Lib.hid ho
  clear hs ho
  have hz11 := HO11.out.size
  replace B0 := Lib.hid (B0.out.only HO11.out (by omega))
  replace B1 := Lib.hid (B1.out.only HO11.out (by omega))
  replace B2 := Lib.hid (B2.out.only HO11.out (by omega))
  replace B3 := Lib.hid (B3.out.only HO11.out (by omega))
  replace R1 := Lib.hid (R1.out.only HO11.out (by omega))
  replace R2 := Lib.hid (R2.out.only HO11.out (by omega))
  replace HO := Lib.hid (HO.out.trans HO11.out)
  have hxg : 200 ≤ x.hg ∧ x.hg ≤ 599 := DR1.out.2.2.1
  have hxf : 200 ≤ x.jb ∧ x.jb ≤ 599 := DR1.out.2.2.2.1
  have hyg : 200 ≤ y.hg ∧ y.hg ≤ 599 := DR2.out.2.2.1
  cases b11
  case false =>
    have cB2_0 := B2.out.cell (j := 0) rfl
    have cB2_1 := B2.out.cell (j := 1) rfl
    have cB2_2 := B2.out.cell (j := 2) rfl
    have cB2_3 := B2.out.cell (j := 3) rfl
    have cB2_4 := B2.out.cell (j := 4) rfl
    have cB2_5 := B2.out.cell (j := 5) rfl
    have cB2_6 := B2.out.cell (j := 6) rfl
    have ltB2 := B2.out.lt
    have cB3_0 := B3.out.cell (j := 0) rfl
    have cB3_1 := B3.out.cell (j := 1) rfl
    have cB3_2 := B3.out.cell (j := 2) rfl
    have cB3_3 := B3.out.cell (j := 3) rfl
    have cB3_4 := B3.out.cell (j := 4) rfl
    have cB3_5 := B3.out.cell (j := 5) rfl
    have cB3_6 := B3.out.cell (j := 6) rfl
    have ltB3 := B3.out.lt
    have cB0_0 := B0.out.cell (j := 0) rfl
    have cB0_1 := B0.out.cell (j := 1) rfl
    have cB0_2 := B0.out.cell (j := 2) rfl
    have cB0_3 := B0.out.cell (j := 3) rfl
    have cB0_4 := B0.out.cell (j := 4) rfl
    have cB0_5 := B0.out.cell (j := 5) rfl
    have cB0_6 := B0.out.cell (j := 6) rfl
    have fB0_0 := B0.out.free 0
    have fB0_1 := B0.out.free 1
    have fB0_2 := B0.out.free 2
    have fB0_3 := B0.out.free 3
    have fB0_4 := B0.out.free 4
    have fB0_5 := B0.out.free 5
    have fB0_6 := B0.out.free 6
    have ltB0 := B0.out.lt
    have cB1_0 := B1.out.cell (j := 0) rfl
    have cB1_1 := B1.out.cell (j := 1) rfl
    have cB1_2 := B1.out.cell (j := 2) rfl
    have cB1_3 := B1.out.cell (j := 3) rfl
    have cB1_4 := B1.out.cell (j := 4) rfl
    have cB1_5 := B1.out.cell (j := 5) rfl
    have cB1_6 := B1.out.cell (j := 6) rfl
    have fB1_0 := B1.out.free 0
    have fB1_1 := B1.out.free 1
    have fB1_2 := B1.out.free 2
    have fB1_3 := B1.out.free 3
    have fB1_4 := B1.out.free 4
    have fB1_5 := B1.out.free 5
    have fB1_6 := B1.out.free 6
    have ltB1 := B1.out.lt
    go_wp2_with fail
    go_region
    go_wp2
    refine ret_vb2 (g := w.heap.size) (vs := [.string x.nm, .int .i64 x5, .int .i64 x7, .int .i64 x.hg, .int .i64 x.jb, .int .i64 x.bk, .slice A n c]) (g' := (w.heap.size + 1)) (vs' := [.string y.nm, .int .i64 qa, .int .i64 qb, .int .i64 y.hg, .int .i64 y.jb, .int .i64 y.bk, .slice A' n' c']) (v := .tuple #[.agg #[.string x.nm, .int .i64 x5, .int .i64 x7, .int .i64 x.hg, .int .i64 x.jb, .int .i64 x.bk, .slice A n c], .agg #[.string y.nm, .int .i64 qa, .int .i64 qb, .int .i64 y.hg, .int .i64 y.jb, .int .i64 y.bk, .slice A' n' c']]) (by with_reducible exact VB.drew (VB.far_7 (VB.put_7 B0.out _ _ _ _ _ _ _) (by omega) _ _ _ _ _ _ _)) (by with_reducible exact VB.drew (VB.put_7 (VB.far_7 B1.out (by omega) _ _ _ _ _ _ _) _ _ _ _ _ _ _)) rfl ?_ ?_
    · intro W hW hW'
      have e0 := hW.cell (j := 0) rfl
      have e1 := hW.cell (j := 1) rfl
      have e2 := hW.cell (j := 2) rfl
      have e3 := hW.cell (j := 3) rfl
      have e4 := hW.cell (j := 4) rfl
      have e5 := hW.cell (j := 5) rfl
      have e6 := hW.cell (j := 6) rfl
      have r0 := hW'.cell (j := 0) rfl
      have r1 := hW'.cell (j := 1) rfl
      have r2 := hW'.cell (j := 2) rfl
      have r3 := hW'.cell (j := 3) rfl
      have r4 := hW'.cell (j := 4) rfl
      have r5 := hW'.cell (j := 5) rfl
      have r6 := hW'.cell (j := 6) rfl
      simp [results, Try.results72, go_sem, e0, r0, e1, r1, e2, r2, e3, r3, e4, r4, e5, r5, e6, r6]
    · exact ⟨(⟨x.nm, x5, x7, x.hg, x.jb, x.bk, x.zs⟩ : Cr), (⟨y.nm, qa, qb, y.hg, y.jb, y.bk, y.zs⟩ : Cr), A, A', n, c, n', c', rfl, ⟨NR1.out, NR2.out⟩, by dsimp only; omega, (by obtain ⟨_, _, _, dj, db, dn, dl, dc, dr⟩ := DR1.out; exact ⟨by dsimp only; omega, by dsimp only; omega, by dsimp only; omega, dj, db, dn, dl, dc, dr⟩), (by obtain ⟨_, _, _, dj, db, dn, dl, dc, dr⟩ := DR2.out; exact ⟨by dsimp only; omega, by dsimp only; omega, by dsimp only; omega, dj, db, dn, dl, dc, dr⟩), (by refine CH.wide (lo := v0.heap.size) (hi := w1.heap.size) ?_ (by omega) (by simp; omega); repeat' (first | with_reducible exact R1.out | (with_reducible refine CH.drew ?_) | (with_reducible refine CH.far ?_ (by dsimp only; omega) _))), (by refine CH.wide (lo := w2.heap.size) (hi := w3.heap.size) ?_ (by omega) (by simp; omega); repeat' (first | with_reducible exact R2.out | (with_reducible refine CH.drew ?_) | (with_reducible refine CH.far ?_ (by dsimp only; omega) _))), by repeat' (first | with_reducible exact HS11.out.more (by omega) | (with_reducible refine Src.drew ?_) | (with_reducible refine Src.setNew ?_ _ (by dsimp only; omega)) | (with_reducible refine Src.alloc ?_ _) | (with_reducible refine Src.drewN ?_ _)), by repeat' (first | with_reducible exact HO.out | (with_reducible refine Only.setNew ?_ _ (by dsimp only; omega)) | (with_reducible refine Only.alloc ?_ _) | (with_reducible refine Only.drewN ?_) | (with_reducible refine Only.drew ?_))⟩
  have cB2_0 := B2.out.cell (j := 0) rfl
  have cB2_1 := B2.out.cell (j := 1) rfl
  have cB2_2 := B2.out.cell (j := 2) rfl
  have cB2_3 := B2.out.cell (j := 3) rfl
  have cB2_4 := B2.out.cell (j := 4) rfl
  have cB2_5 := B2.out.cell (j := 5) rfl
  have cB2_6 := B2.out.cell (j := 6) rfl
  have ltB2 := B2.out.lt
  have cB3_0 := B3.out.cell (j := 0) rfl
  have cB3_1 := B3.out.cell (j := 1) rfl
  have cB3_2 := B3.out.cell (j := 2) rfl
  have cB3_3 := B3.out.cell (j := 3) rfl
  have cB3_4 := B3.out.cell (j := 4) rfl
  have cB3_5 := B3.out.cell (j := 5) rfl
  have cB3_6 := B3.out.cell (j := 6) rfl
  have fB3_3 := B3.out.free 3
  have ltB3 := B3.out.lt
  go_wp2_with fail
  have HA := Lib.hid (Only.refl p (p + 1) w11)
  go_region_held3 (fun w' => w'.cell? ⟨g2, 3, none⟩ = some (.int .i64 x.hg)) (first | with_reducible exact (cB2_3) | with_reducible exact (drewc cB2_3) | with_reducible exact ((HA.out.keepc (by omega) cB2_3)) | with_reducible exact ((setfar (p := ⟨_, 3, none⟩) (HA.out.keepc (by omega) cB2_3) (by dsimp only; omega)))) (first | (go_at_call 74; (with_reducible refine (pick_any p _ _ _ (by omega) (i64_of (by omega)) HS11.out.drew).mono ?_); rintro e u3 ⟨z2, rfl, hy1, hy2, hy3, hy4, hs, ho'⟩; have hw1 : IntKind.i64.wrap (x.hg + z2) = x.hg + z2 := IntWalk.i64_in _ (by omega); have hw2 : IntKind.i64.wrap (x.hg + z2 - 80) = x.hg + z2 - 80 := IntWalk.i64_in _ (by omega); replace HA := Lib.hid ((Only.drew (Only.refl p (p + 1) w11)).trans ho'); have HSv := Lib.hid hs; clear hs ho'; have zu3 := HA.out.size; have d3 := HA.out.keepc (by omega) cB3_3; have m3 := (B3.out.only HA.out (by omega)).free 3))
  clear cB2_0 cB2_1 cB2_2 cB2_3 cB2_4 cB2_5 cB2_6 ltB2
  clear cB3_0 cB3_1 cB3_2 cB3_3 cB3_4 cB3_5 cB3_6 fB3_3 ltB3
  have hzA := HA.out.size
  replace B0 := Lib.hid (B0.out.only HA.out (by omega))
  replace B1 := Lib.hid (B1.out.only HA.out (by omega))
  replace B2 := Lib.hid (B2.out.only HA.out (by omega))
  replace B3 := Lib.hid (B3.out.only HA.out (by omega))
  replace R1 := Lib.hid (R1.out.only HA.out (by omega))
  replace R2 := Lib.hid (R2.out.only HA.out (by omega))
  replace HO := Lib.hid (HO.out.trans HA.out)
  clear HA
  clear d3 m3
  replace B3 := Lib.hid (B3.out.put 3 (.int .i64 (x.hg + z2 - 80)))
  replace B0 := Lib.hid (B0.out.far (p := ⟨g3, 3, none⟩) (by dsimp only; omega) (.int .i64 (x.hg + z2 - 80)))
  replace B1 := Lib.hid (B1.out.far (p := ⟨g3, 3, none⟩) (by dsimp only; omega) (.int .i64 (x.hg + z2 - 80)))
  replace B2 := Lib.hid (B2.out.far (p := ⟨g3, 3, none⟩) (by dsimp only; omega) (.int .i64 (x.hg + z2 - 80)))
  replace R1 := Lib.hid (R1.out.far (p := ⟨g3, 3, none⟩) (by dsimp only; omega) (.int .i64 (x.hg + z2 - 80)))
  replace R2 := Lib.hid (R2.out.far (p := ⟨g3, 3, none⟩) (by dsimp only; omega) (.int .i64 (x.hg + z2 - 80)))
  replace HO := Lib.hid (HO.out.setNew (q := ⟨g3, 3, none⟩) (.int .i64 (x.hg + z2 - 80)) (by dsimp only; omega))
  replace HSv := Lib.hid (HSv.out.setNew (q := ⟨g3, 3, none⟩) (.int .i64 (x.hg + z2 - 80)) (by dsimp only; omega))
  have hs12 : (u3.setCell ⟨g3, 3, none⟩ (.int .i64 (x.hg + z2 - 80))).heap.size = u3.heap.size := by simp
  go_wp2_with fail
  generalize u3.setCell ⟨g3, 3, none⟩ (.int .i64 (x.hg + z2 - 80)) = w12 at *
  (try rw [← hs12])
  have hyn : 100 ≤ x.hg + z2 - 80 ∧ x.hg + z2 - 80 ≤ 700 := by omega
  generalize x.hg + z2 - 80 = qc at *
  have cB2_0 := B2.out.cell (j := 0) rfl
  have cB2_1 := B2.out.cell (j := 1) rfl
  have cB2_2 := B2.out.cell (j := 2) rfl
  have cB2_3 := B2.out.cell (j := 3) rfl
  have cB2_4 := B2.out.cell (j := 4) rfl
  have cB2_5 := B2.out.cell (j := 5) rfl
  have cB2_6 := B2.out.cell (j := 6) rfl
  have ltB2 := B2.out.lt
  have cB3_0 := B3.out.cell (j := 0) rfl
  have cB3_1 := B3.out.cell (j := 1) rfl
  have cB3_2 := B3.out.cell (j := 2) rfl
  have cB3_3 := B3.out.cell (j := 3) rfl
  have cB3_4 := B3.out.cell (j := 4) rfl
  have cB3_5 := B3.out.cell (j := 5) rfl
  have cB3_6 := B3.out.cell (j := 6) rfl
  have ltB3 := B3.out.lt
  have cB0_0 := B0.out.cell (j := 0) rfl
  have cB0_1 := B0.out.cell (j := 1) rfl
  have cB0_2 := B0.out.cell (j := 2) rfl
  have cB0_3 := B0.out.cell (j := 3) rfl
  have cB0_4 := B0.out.cell (j := 4) rfl
  have cB0_5 := B0.out.cell (j := 5) rfl
  have cB0_6 := B0.out.cell (j := 6) rfl
  have fB0_0 := B0.out.free 0
  have fB0_1 := B0.out.free 1
  have fB0_2 := B0.out.free 2
  have fB0_3 := B0.out.free 3
  have fB0_4 := B0.out.free 4
  have fB0_5 := B0.out.free 5
  have fB0_6 := B0.out.free 6
  have ltB0 := B0.out.lt
  have cB1_0 := B1.out.cell (j := 0) rfl
  have cB1_1 := B1.out.cell (j := 1) rfl
  have cB1_2 := B1.out.cell (j := 2) rfl
  have cB1_3 := B1.out.cell (j := 3) rfl
  have cB1_4 := B1.out.cell (j := 4) rfl
  have cB1_5 := B1.out.cell (j := 5) rfl
  have cB1_6 := B1.out.cell (j := 6) rfl
  have fB1_0 := B1.out.free 0
  have fB1_1 := B1.out.free 1
  have fB1_2 := B1.out.free 2
  have fB1_3 := B1.out.free 3
  have fB1_4 := B1.out.free 4
  have fB1_5 := B1.out.free 5
  have fB1_6 := B1.out.free 6
  have ltB1 := B1.out.lt
  go_region
  go_wp2
  refine ret_vb2 (g := w.heap.size) (vs := [.string x.nm, .int .i64 x5, .int .i64 x7, .int .i64 x.hg, .int .i64 x.jb, .int .i64 x.bk, .slice A n c]) (g' := (w.heap.size + 1)) (vs' := [.string y.nm, .int .i64 qa, .int .i64 qb, .int .i64 qc, .int .i64 y.jb, .int .i64 y.bk, .slice A' n' c']) (v := .tuple #[.agg #[.string x.nm, .int .i64 x5, .int .i64 x7, .int .i64 x.hg, .int .i64 x.jb, .int .i64 x.bk, .slice A n c], .agg #[.string y.nm, .int .i64 qa, .int .i64 qb, .int .i64 qc, .int .i64 y.jb, .int .i64 y.bk, .slice A' n' c']]) (by with_reducible exact VB.drew (VB.far_7 (VB.put_7 B0.out _ _ _ _ _ _ _) (by omega) _ _ _ _ _ _ _)) (by with_reducible exact VB.drew (VB.put_7 (VB.far_7 B1.out (by omega) _ _ _ _ _ _ _) _ _ _ _ _ _ _)) rfl ?_ ?_
  · intro W hW hW'
    have e0 := hW.cell (j := 0) rfl
    have e1 := hW.cell (j := 1) rfl
    have e2 := hW.cell (j := 2) rfl
    have e3 := hW.cell (j := 3) rfl
    have e4 := hW.cell (j := 4) rfl
    have e5 := hW.cell (j := 5) rfl
    have e6 := hW.cell (j := 6) rfl
    have r0 := hW'.cell (j := 0) rfl
    have r1 := hW'.cell (j := 1) rfl
    have r2 := hW'.cell (j := 2) rfl
    have r3 := hW'.cell (j := 3) rfl
    have r4 := hW'.cell (j := 4) rfl
    have r5 := hW'.cell (j := 5) rfl
    have r6 := hW'.cell (j := 6) rfl
    simp [results, Try.results72, go_sem, e0, r0, e1, r1, e2, r2, e3, r3, e4, r4, e5, r5, e6, r6]
  · exact ⟨(⟨x.nm, x5, x7, x.hg, x.jb, x.bk, x.zs⟩ : Cr), (⟨y.nm, qa, qb, qc, y.jb, y.bk, y.zs⟩ : Cr), A, A', n, c, n', c', rfl, ⟨NR1.out, NR2.out⟩, by dsimp only; omega, (by obtain ⟨_, _, _, dj, db, dn, dl, dc, dr⟩ := DR1.out; exact ⟨by dsimp only; omega, by dsimp only; omega, by dsimp only; omega, dj, db, dn, dl, dc, dr⟩), (by obtain ⟨_, _, _, dj, db, dn, dl, dc, dr⟩ := DR2.out; exact ⟨by dsimp only; omega, by dsimp only; omega, by dsimp only; omega, dj, db, dn, dl, dc, dr⟩), (by refine CH.wide (lo := v0.heap.size) (hi := w1.heap.size) ?_ (by omega) (by simp; omega); repeat' (first | with_reducible exact R1.out | (with_reducible refine CH.drew ?_) | (with_reducible refine CH.far ?_ (by dsimp only; omega) _))), (by refine CH.wide (lo := w2.heap.size) (hi := w3.heap.size) ?_ (by omega) (by simp; omega); repeat' (first | with_reducible exact R2.out | (with_reducible refine CH.drew ?_) | (with_reducible refine CH.far ?_ (by dsimp only; omega) _))), by repeat' (first | with_reducible exact HSv.out.more (by omega) | (with_reducible refine Src.drew ?_) | (with_reducible refine Src.setNew ?_ _ (by dsimp only; omega)) | (with_reducible refine Src.alloc ?_ _) | (with_reducible refine Src.drewN ?_ _)), by repeat' (first | with_reducible exact HO.out | (with_reducible refine Only.setNew ?_ _ (by dsimp only; omega)) | (with_reducible refine Only.alloc ?_ _) | (with_reducible refine Only.drewN ?_) | (with_reducible refine Only.drew ?_))⟩
end Go.Proofs.Ytmgbbkglafnibaa
