/- Cranes: whether one is valid, both sides. -/
import Derived.Test.YtmgbbkglafnibaaPlc
import Derived.Test.YtmgbbkglafnibaaCht
import Derived.Test.YtmgbbkglafnibaaName
import Derived.Test.YtmgbbkglafnibaaOpenCrane
import Derived.Test.YtmgbbkglafnibaaGrow
import Derived.BigQuiet
namespace Go.Proofs.Ytmgbbkglafnibaa
open Go.RowKit Go.Deep
theorem SI.later {w w' : World} {A : Option Addr} {zs : List Int} (h : SI w w.heap.size A zs) (hb : Below w.heap.size w w') : SI w' w'.heap.size A zs := (h.below hb).more hb.size
def okPl (x y : Int) : Bool := inI x (-10000) 10000 && inI y (-10000) 10000
theorem okPl_t {x y : Int} (h : okPl x y = true) : (-10000 ≤ x ∧ x ≤ 10000) ∧ (-10000 ≤ y ∧ y ≤ 10000) := by unfold okPl at h; simp only [Bool.and_eq_true] at h; exact ⟨inI_t h.1, inI_t h.2⟩
def okCr (x : Cr) (n : Nat) : Bool := okNm x.nm && (okPl x.px x.py && (inI x.hg 1 2000 && (inI x.jb 1 1000 && (inI x.bk 0 x.jb && (okCh x.zs n && decide (rdC x.zs (n - 1) ≤ x.jb))))))
theorem okCr_t {x : Cr} {n : Nat} (h : okCr x n = true) : ((-10000 ≤ x.px ∧ x.px ≤ 10000) ∧ (-10000 ≤ x.py ∧ x.py ≤ 10000)) ∧ (1 ≤ x.hg ∧ x.hg ≤ 2000) ∧ (1 ≤ x.jb ∧ x.jb ≤ 1000) ∧ (0 ≤ x.bk ∧ x.bk ≤ x.jb) ∧ okCh x.zs n = true ∧ rdC x.zs (n - 1) ≤ x.jb := by
  unfold okCr at h
  simp only [Bool.and_eq_true, decide_eq_true_eq] at h
  exact ⟨okPl_t h.2.1, inI_t h.2.2.1, inI_t h.2.2.2.1, inI_t h.2.2.2.2.1, h.2.2.2.2.2⟩
end Go.Proofs.Ytmgbbkglafnibaa
