/- A region that draws its order, whose operations read old cells and whose callees make new blocks alone: one walk, in the text's order, serves every order. -/
import Derived.Test.YtnmldhkcbekecaaDoorKit
namespace Go.Proofs.YtnmldhkcbekecaaDoor
open Go.RowKit
/-- a world that has grown from W (W itself where X has not) -/
noncomputable def grw (W X : World) : World := by classical exact if Below W.heap.size W X then X else W
theorem grw_below (W X : World) : Below W.heap.size W (grw W X) := by
  unfold grw
  split
  · assumption
  · exact Below.refl _ _
theorem grw_of {W X : World} (h : Below W.heap.size W X) : grw W X = X := by
  unfold grw
  exact if_pos h
theorem grw_cell {W : World} {b o : Nat} {v : Value} (h : W.cell? ⟨b, o, none⟩ = some v) (X : World) : (grw W X).cell? ⟨b, o, none⟩ = some v := by
  have hb : b < W.heap.size := by
    rcases Nat.lt_or_ge b W.heap.size with hl | hg
    · exact hl
    · simp [World.cell?, Array.getElem?_eq_none hg] at h
  exact ((grw_below W X).cell (p := ⟨b, o, none⟩) hb).trans h
theorem wp_region_grow {P : Program} {id : Nat} {Q : Exit → Act → World → Prop} {a : Act} {w : World} {l : List Oper} (hm : P.follows .mixedOrders = true) (hB : Region.lexB .any l.toArray = true)
    (h : wpQuiet P l.toArray (fun w' => ∃ X, w' = grw w X) (fun a' => ∀ w', (∃ X, w' = grw w X) → Q .normal a' w') l a) : (Code.region id l.toArray true).wp P Q a w :=
  wp_region_quiet (C := fun w' => ∃ X, w' = grw w X) hm hB ⟨_, (grw_of (gr_drew (gr_refl w))).symm⟩ (by simpa using h)
/-- a callee's contract, met in a grown world -/
theorem grow_of {P : Program} {f : FuncId} {args : Array Value} {W X : World} {v : Value}
    (h : Calls P f args (grw W X) fun e w' => e = .returned v ∧ Below (grw W X).heap.size (grw W X) w') : Calls P f args (grw W X) fun e w'' => e = .returned v ∧ ∃ Y, w'' = grw W Y :=
  h.mono fun _ _ ⟨he, hb⟩ => ⟨he, _, (grw_of (gr_then hb (grw_below W X))).symm⟩
theorem grow_same {P : Program} {f : FuncId} {args : Array Value} {W X : World} {v : Value}
    (h : Calls P f args (grw W X) fun e w' => e = .returned v ∧ grw W X = w') : Calls P f args (grw W X) fun e w'' => e = .returned v ∧ ∃ Y, w'' = grw W Y :=
  h.mono fun _ _ ⟨he, hb⟩ => ⟨he, X, hb.symm⟩
theorem grow_drew {P : Program} {f : FuncId} {args : Array Value} {W X : World} {v : Value}
    (h : Calls P f args (grw W X) fun e w' => e = .returned v ∧ ∃ n, w' = (grw W X).drewN n) : Calls P f args (grw W X) fun e w'' => e = .returned v ∧ ∃ Y, w'' = grw W Y :=
  h.mono fun _ _ ⟨he, _, hb⟩ => ⟨he, _, hb.trans (grw_of (gr_drewN (grw_below W X))).symm⟩
end Go.Proofs.YtnmldhkcbekecaaDoor
