/- A base that came in. -/
import Derived.Test.YtmalbgbmapfiiaaDoorOpen
namespace Go.Proofs.YtmalbgbmapfiiaaDoor
open Go.RowKit Go.Deep Go.ChangeShapes Go.WideShapes
section
variable {H : Type} {enc : TypeId × Value → H} {w : World} {base : Nat} {spare : Nat → Bool} {held : Bool} {r : Reach} {b0 : Nat} {v : Value} {d : DataW H} {p : List MemPlace}
set_option maxRecDepth 20000 in
theorem val_base (hv : Value.okWide Tryd.prog w r b0 40 v) (h : DataW.Trod enc Tryd.prog w base spare held 40 v d p) :
    ∃ x0 x1 x2 x3 x4 x5 x6 : Int, v = .agg #[.int .i64 x0, .int .i64 x1, .int .i64 x2, .int .i64 x3, .int .i64 x4, .int .i64 x5, .int .i64 x6] ∧ (Lit.int .i64 x0).wf = true ∧ (Lit.int .i64 x1).wf = true ∧ (Lit.int .i64 x2).wf = true ∧ (Lit.int .i64 x3).wf = true ∧ (Lit.int .i64 x4).wf = true ∧ (Lit.int .i64 x5).wf = true ∧ (Lit.int .i64 x6).wf = true := by
  obtain ⟨cs, rfl, hsz⟩ := okWide_struct Tryd.underlying40 hv
  obtain ⟨fuel, hf⟩ := h
  obtain ⟨ys, n, _, _, hl, hlen, hg⟩ := DataW.trod_struct Tryd.underlying40 hf
  obtain ⟨l⟩ := cs
  have hl2 : l.length = 7 := hl.trans (by kernel_rfl)
  match l, hl2 with
  | [c0, c1, c2, c3, c4, c5, c6], _ =>
    have k0 : Tryd.prog.cellsOf 2 = 1 := by kernel_rfl
    have h0 : DataW.trod enc Tryd.prog w base spare held n 2 [c0] = ys[0]? := by have h := hg 0 _ rfl; simpa [k0, Value.cells] using h
    obtain ⟨z0, hz0⟩ : ∃ z, ys[0]? = some z := ⟨_, List.getElem?_eq_getElem (by rw [hlen]; decide)⟩
    obtain ⟨x0, e0, _, g0⟩ := DataW.trod_int Tryd.underlying2 (h0.trans hz0)
    have h1 : DataW.trod enc Tryd.prog w base spare held n 2 [c1] = ys[1]? := by have h := hg 1 _ rfl; simpa [k0, Value.cells] using h
    obtain ⟨z1, hz1⟩ : ∃ z, ys[1]? = some z := ⟨_, List.getElem?_eq_getElem (by rw [hlen]; decide)⟩
    obtain ⟨x1, e1, _, g1⟩ := DataW.trod_int Tryd.underlying2 (h1.trans hz1)
    have h2 : DataW.trod enc Tryd.prog w base spare held n 2 [c2] = ys[2]? := by have h := hg 2 _ rfl; simpa [k0, Value.cells] using h
    obtain ⟨z2, hz2⟩ : ∃ z, ys[2]? = some z := ⟨_, List.getElem?_eq_getElem (by rw [hlen]; decide)⟩
    obtain ⟨x2, e2, _, g2⟩ := DataW.trod_int Tryd.underlying2 (h2.trans hz2)
    have h3 : DataW.trod enc Tryd.prog w base spare held n 2 [c3] = ys[3]? := by have h := hg 3 _ rfl; simpa [k0, Value.cells] using h
    obtain ⟨z3, hz3⟩ : ∃ z, ys[3]? = some z := ⟨_, List.getElem?_eq_getElem (by rw [hlen]; decide)⟩
    obtain ⟨x3, e3, _, g3⟩ := DataW.trod_int Tryd.underlying2 (h3.trans hz3)
    have h4 : DataW.trod enc Tryd.prog w base spare held n 2 [c4] = ys[4]? := by have h := hg 4 _ rfl; simpa [k0, Value.cells] using h
    obtain ⟨z4, hz4⟩ : ∃ z, ys[4]? = some z := ⟨_, List.getElem?_eq_getElem (by rw [hlen]; decide)⟩
    obtain ⟨x4, e4, _, g4⟩ := DataW.trod_int Tryd.underlying2 (h4.trans hz4)
    have h5 : DataW.trod enc Tryd.prog w base spare held n 2 [c5] = ys[5]? := by have h := hg 5 _ rfl; simpa [k0, Value.cells] using h
    obtain ⟨z5, hz5⟩ : ∃ z, ys[5]? = some z := ⟨_, List.getElem?_eq_getElem (by rw [hlen]; decide)⟩
    obtain ⟨x5, e5, _, g5⟩ := DataW.trod_int Tryd.underlying2 (h5.trans hz5)
    have h6 : DataW.trod enc Tryd.prog w base spare held n 2 [c6] = ys[6]? := by have h := hg 6 _ rfl; simpa [k0, Value.cells] using h
    obtain ⟨z6, hz6⟩ : ∃ z, ys[6]? = some z := ⟨_, List.getElem?_eq_getElem (by rw [hlen]; decide)⟩
    obtain ⟨x6, e6, _, g6⟩ := DataW.trod_int Tryd.underlying2 (h6.trans hz6)
    simp only [List.cons.injEq, and_true] at e0 e1 e2 e3 e4 e5 e6
    exact ⟨x0, x1, x2, x3, x4, x5, x6, by rw [e0, e1, e2, e3, e4, e5, e6], g0, g1, g2, g3, g4, g5, g6⟩
end
end Go.Proofs.YtmalbgbmapfiiaaDoor
