/- Points and segments that came in: as the integers that they hold. -/
import Derived.Test.YtmgaefillnfchaaKit
import Derived.Deep.Fields
namespace Go.Proofs.Ytmgaefillnfchaa
open Go.RowKit Go.Deep Go.ChangeShapes Go.WideShapes Go.Joins
section
variable {H : Type} {enc : TypeId × Value → H} {w : World} {base : Nat} {spare : Nat → Bool} {held : Bool} {r : Reach} {b0 : Nat} {v : Value} {d : DataW H} {p : List MemPlace}
theorem trod_point {fuel : Nat} {cs : List Value} {x : DataW H × List MemPlace} (h : DataW.trod enc Try.prog w base spare held fuel 23 cs = some x) :
    ∃ x0 x1 : Int, cs = [.int .i64 x0, .int .i64 x1] ∧ (Lit.int .i64 x0).wf = true ∧ (Lit.int .i64 x1).wf = true := by
  obtain ⟨ys, n, _, _, hl, hlen, hg⟩ := DataW.trod_struct Try.underlying23 h
  have hl2 : cs.length = 2 := hl.trans (by kernel_rfl)
  match cs, hl2 with
  | [c0, c1], _ =>
    have k2 : Try.prog.cellsOf 2 = 1 := by kernel_rfl
    have h0 : DataW.trod enc Try.prog w base spare held n 2 [c0] = ys[0]? := by have h := hg 0 _ rfl; simpa [k2] using h
    have h1 : DataW.trod enc Try.prog w base spare held n 2 [c1] = ys[1]? := by have h := hg 1 _ rfl; simpa [k2] using h
    obtain ⟨z0, hz0⟩ : ∃ z, ys[0]? = some z := ⟨_, List.getElem?_eq_getElem (by rw [hlen]; decide)⟩
    obtain ⟨z1, hz1⟩ : ∃ z, ys[1]? = some z := ⟨_, List.getElem?_eq_getElem (by rw [hlen]; decide)⟩
    obtain ⟨x0, e0, _, w0⟩ := DataW.trod_int Try.underlying2 (h0.trans hz0)
    obtain ⟨x1, e1, _, w1⟩ := DataW.trod_int Try.underlying2 (h1.trans hz1)
    simp only [List.cons.injEq, and_true] at e0 e1
    exact ⟨x0, x1, by rw [e0, e1], w0, w1⟩
theorem val_point (hv : Value.okWide Try.prog w r b0 23 v) (h : DataW.Trod enc Try.prog w base spare held 23 v d p) :
    ∃ x0 x1 : Int, v = .agg #[.int .i64 x0, .int .i64 x1] ∧ (Lit.int .i64 x0).wf = true ∧ (Lit.int .i64 x1).wf = true := by
  obtain ⟨cs, rfl, hsz⟩ := okWide_struct Try.underlying23 hv
  obtain ⟨fuel, hf⟩ := h
  obtain ⟨x0, x1, e, w0, w1⟩ := trod_point hf
  refine ⟨x0, x1, ?_, w0, w1⟩
  have e2 : cs.toList = [.int .i64 x0, .int .i64 x1] := e
  rw [show cs = #[.int .i64 x0, .int .i64 x1] from Array.toList_inj.1 e2]
theorem val_segment (hv : Value.okWide Try.prog w r b0 25 v) (h : DataW.Trod enc Try.prog w base spare held 25 v d p) :
    ∃ x0 x1 x2 x3 : Int, v = .agg #[.int .i64 x0, .int .i64 x1, .int .i64 x2, .int .i64 x3] ∧ (Lit.int .i64 x0).wf = true ∧ (Lit.int .i64 x1).wf = true ∧ (Lit.int .i64 x2).wf = true ∧ (Lit.int .i64 x3).wf = true := by
  obtain ⟨cs, rfl, hsz⟩ := okWide_struct Try.underlying25 hv
  obtain ⟨fuel, hf⟩ := h
  obtain ⟨ys, n, _, _, hl, hlen, hg⟩ := DataW.trod_struct Try.underlying25 hf
  obtain ⟨l⟩ := cs
  have hl2 : l.length = 4 := hl.trans (by kernel_rfl)
  match l, hl2 with
  | [c0, c1, c2, c3], _ =>
    have k2 : Try.prog.cellsOf 23 = 2 := by kernel_rfl
    have h0 : DataW.trod enc Try.prog w base spare held n 23 [c0, c1] = ys[0]? := by have h := hg 0 _ rfl; simpa [k2, Value.cells] using h
    have h1 : DataW.trod enc Try.prog w base spare held n 23 [c2, c3] = ys[1]? := by have h := hg 1 _ rfl; simpa [k2, Value.cells] using h
    obtain ⟨z0, hz0⟩ : ∃ z, ys[0]? = some z := ⟨_, List.getElem?_eq_getElem (by rw [hlen]; decide)⟩
    obtain ⟨z1, hz1⟩ : ∃ z, ys[1]? = some z := ⟨_, List.getElem?_eq_getElem (by rw [hlen]; decide)⟩
    obtain ⟨x0, x1, e0, w0, w1⟩ := trod_point (h0.trans hz0)
    obtain ⟨x2, x3, e1, w2, w3⟩ := trod_point (h1.trans hz1)
    simp only [List.cons.injEq, and_true] at e0 e1
    exact ⟨x0, x1, x2, x3, by rw [e0.1, e0.2, e1.1, e1.2], w0, w1, w2, w3⟩
end
end Go.Proofs.Ytmgaefillnfchaa
