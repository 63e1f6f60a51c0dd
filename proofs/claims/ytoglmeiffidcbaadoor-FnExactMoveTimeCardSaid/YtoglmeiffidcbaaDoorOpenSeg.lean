/- Points and segments that came in: as the integers that they hold. -/
import Derived.Test.YtoglmeiffidcbaaDoorKit
import Derived.Deep.Fields
namespace Go.Proofs.YtoglmeiffidcbaaDoor
open Go.RowKit Go.Deep Go.ChangeShapes Go.WideShapes Go.Joins
section
variable {H : Type} {enc : TypeId × Value → H} {w : World} {base : Nat} {spare : Nat → Bool} {held : Bool} {r : Reach} {b0 : Nat} {v : Value} {d : DataW H} {p : List MemPlace}
set_option maxRecDepth 20000 in
theorem trod_point {fuel : Nat} {cs : List Value} {x : DataW H × List MemPlace} (h : DataW.trod enc Tryd.prog w base spare held fuel 26 cs = some x) :
    ∃ x0 x1 : Int, cs = [.int .i64 x0, .int .i64 x1] ∧ (Lit.int .i64 x0).wf = true ∧ (Lit.int .i64 x1).wf = true := by
  obtain ⟨ys, n, _, _, hl, hlen, hg⟩ := DataW.trod_struct Tryd.underlying26 h
  have hl2 : cs.length = 2 := hl.trans (by kernel_rfl)
  match cs, hl2 with
  | [c0, c1], _ =>
    have k2 : Tryd.prog.cellsOf 2 = 1 := by kernel_rfl
    have h0 : DataW.trod enc Tryd.prog w base spare held n 2 [c0] = ys[0]? := by have h := hg 0 _ rfl; simpa [k2] using h
    have h1 : DataW.trod enc Tryd.prog w base spare held n 2 [c1] = ys[1]? := by have h := hg 1 _ rfl; simpa [k2] using h
    obtain ⟨z0, hz0⟩ : ∃ z, ys[0]? = some z := ⟨_, List.getElem?_eq_getElem (by rw [hlen]; decide)⟩
    obtain ⟨z1, hz1⟩ : ∃ z, ys[1]? = some z := ⟨_, List.getElem?_eq_getElem (by rw [hlen]; decide)⟩
    obtain ⟨x0, e0, _, w0⟩ := DataW.trod_int Tryd.underlying2 (h0.trans hz0)
    obtain ⟨x1, e1, _, w1⟩ := DataW.trod_int Tryd.underlying2 (h1.trans hz1)
    simp only [List.cons.injEq, and_true] at e0 e1
    exact ⟨x0, x1, by rw [e0, e1], w0, w1⟩
set_option maxRecDepth 20000 in
theorem val_point (hv : Value.okWide Tryd.prog w r b0 26 v) (h : DataW.Trod enc Tryd.prog w base spare held 26 v d p) :
    ∃ x0 x1 : Int, v = .agg #[.int .i64 x0, .int .i64 x1] ∧ (Lit.int .i64 x0).wf = true ∧ (Lit.int .i64 x1).wf = true := by
  obtain ⟨cs, rfl, hsz⟩ := okWide_struct Tryd.underlying26 hv
  obtain ⟨fuel, hf⟩ := h
  obtain ⟨x0, x1, e, w0, w1⟩ := trod_point hf
  refine ⟨x0, x1, ?_, w0, w1⟩
  have e2 : cs.toList = [.int .i64 x0, .int .i64 x1] := e
  rw [show cs = #[.int .i64 x0, .int .i64 x1] from Array.toList_inj.1 e2]
end
end Go.Proofs.YtoglmeiffidcbaaDoor
