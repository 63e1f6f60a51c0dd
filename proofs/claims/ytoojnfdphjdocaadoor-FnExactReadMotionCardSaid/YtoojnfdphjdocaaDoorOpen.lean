/- Slices of integers and of structs of integers that came in: as the integers that they hold. -/
import Derived.Test.YtoojnfdphjdocaaDoorSlices
import Derived.Deep.Fields
namespace Go.Proofs.YtoojnfdphjdocaaDoor
open Go.RowKit Go.Deep Go.ChangeShapes Go.WideShapes
section
variable {H : Type} {enc : TypeId × Value → H} {P : Program} {w : World} {base : Nat} {held : Bool}
theorem lt_of_cell {w : World} {a : Addr} {v : Value} (h : w.cell? a = some v) : a.block < w.heap.size := by
  rcases Nat.lt_or_ge a.block w.heap.size with hl | hg
  · exact hl
  · simp [World.cell?, Array.getElem?_eq_none hg] at h
/-- the integer in a cell -/
def intAt (w : World) (a : Addr) : Int := match w.cell? a with | some (.int _ x) => x | _ => 0
theorem SI_of_cells {w : World} {a : Addr} {n : Nat} (h : ∀ j, j < n → ∃ x : Int, w.cell? (a.add j) = some (.int .i64 x)) :
    SI w w.heap.size (some a) ((List.range n).map fun j => intAt w (a.add j)) := by
  intro hp
  have hp' : 0 < n := by simpa using hp
  have hc : ∀ i, i < ((List.range n).map fun j => intAt w (a.add j)).length → w.cell? (a.add i) = some (.int .i64 (((List.range n).map fun j => intAt w (a.add j)).getD i 0)) := by
    intro i hi
    have hi' : i < n := by simpa using hi
    obtain ⟨x, hx⟩ := h i hi'
    simp [List.getD_eq_getElem?_getD, hi', intAt, hx]
  obtain ⟨b, off, rfl, hcell⟩ := ints_at hc hp
  refine ⟨b, off, rfl, ?_, hcell⟩
  have := lt_of_cell (hcell 0 hp)
  exact this
theorem SI_nil {w : World} {A : Option Addr} : SI w w.heap.size A [] := fun h => absurd h (by simp)
/-- A slice of structs, each field an int64. -/
theorem val_structs {r : Reach} {b0 : Nat} {t e : TypeId} {fs : Array Field} {v : Value} {d : DataW H} {p : List MemPlace} (m : Nat) (hm : fs.size = m) (ht : P.underlying t = some (.slice e)) (he : P.underlying e = some (.struct fs))
    (hone : oneCellFields P fs = true) (hC : P.cellsOf e = fs.size) (hk : ∀ (j : Nat) (f : Field), fs[j]? = some f → P.underlying f.type = some (.int .i64))
    (hv : Value.okWide P w r b0 t v) (h : DataW.Trod enc P w base (fun _ => true) held t v d p) :
    ∃ (A : Option Addr) (n c : Nat) (zs : List Int), v = .slice A n c ∧ n ≤ 9223372036854775807 ∧ zs.length = n * m ∧ (∀ z ∈ zs, -9223372036854775808 ≤ z ∧ z ≤ 9223372036854775807) ∧ SI w w.heap.size A zs := by
  obtain ⟨A, n, c, rfl⟩ := okWide_slice ht hv
  obtain ⟨fuel, hf⟩ := h
  subst hm
  rcases open_slice ht hf with ⟨hcs, _⟩ | ⟨a, len, cap, m, n1, D, Pl, hcs, hb, hl, hmx, hmm, hx, hi⟩
  · simp [Value.cells] at hcs
    obtain ⟨rfl, rfl, rfl⟩ := hcs
    exact ⟨none, 0, 0, [], rfl, by omega, by simp, by simp, SI_nil⟩
  · simp [Value.cells] at hcs
    obtain ⟨rfl, rfl, rfl⟩ := hcs
    have hcell : ∀ j, j < n * fs.size → ∃ x : Int, w.cell? (a.add j) = some (.int .i64 x) ∧ (Lit.int .i64 x).wf = true := by
      intro j hj
      have hs : 0 < fs.size := by
        rcases Nat.eq_zero_or_pos fs.size with h0 | h0
        · rw [h0] at hj; simp at hj
        · exact h0
      have hdi : j / fs.size < n := Nat.div_lt_of_lt_mul (by rw [Nat.mul_comm]; exact hj)
      have hmi : j % fs.size < fs.size := Nat.mod_lt _ hs
      obtain ⟨cs', hc, ht'⟩ := hi (j / fs.size) (by rw [hmm]; simp; omega)
      rw [hC] at hc
      obtain ⟨ys, n', hn', hy, hlen, hyl, hfd⟩ := DataW.trod_struct he ht'
      obtain ⟨_, hcl, hat⟩ := World.cells?_some hc
      have hjf : fs[j % fs.size]? = some (fs[j % fs.size]'hmi) := Array.getElem?_eq_getElem hmi
      obtain ⟨ho, hk1⟩ := hone_of hone _ _ hjf
      have h1 := hfd _ _ hjf
      rw [ho, hk1] at h1
      have hone' : (cs'.drop (j % fs.size)).take 1 = [cs'[j % fs.size]'(by omega)] := by
        rw [List.drop_eq_getElem_cons (by omega)]
        rfl
      rw [hone'] at h1
      have hys : ys[j % fs.size]? = some (ys[j % fs.size]'(by omega)) := List.getElem?_eq_getElem (by omega)
      obtain ⟨x, ex, _, wx⟩ := DataW.trod_int (hk _ _ hjf) (h1.trans hys)
      have hcellj := hat _ hmi
      have hv' : cs'[j % fs.size]? = some (cs'[j % fs.size]'(by omega)) := List.getElem?_eq_getElem (by omega)
      simp only [List.cons.injEq, and_true] at ex
      refine ⟨x, ?_, wx⟩
      have e : j / fs.size * fs.size + j % fs.size = j := by rw [Nat.mul_comm]; exact Nat.div_add_mod j fs.size
      rw [← e, ← Go.Deep.add_add, hcellj, hv', ex]
    refine ⟨some a, n, c, (List.range (n * fs.size)).map fun j => intAt w (a.add j), rfl, by unfold maxLen at hmx; omega, by simp, ?_, SI_of_cells fun j hj => (hcell j hj).imp fun _ hx => hx.1⟩
    intro z hz
    simp only [List.mem_map, List.mem_range] at hz
    obtain ⟨j, hj, rfl⟩ := hz
    obtain ⟨x, hx, wx⟩ := hcell j hj
    rw [show intAt w (a.add j) = x by simp [intAt, hx]]
    exact bd wx
end
end Go.Proofs.YtoojnfdphjdocaaDoor
