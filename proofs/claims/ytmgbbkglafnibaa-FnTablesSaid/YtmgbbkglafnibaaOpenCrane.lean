/- Cranes in memory, and cranes that came in. -/
import Derived.Test.YtmgbbkglafnibaaOpenVec
import Derived.Test.YtmgbbkglafnibaaOpen
import Derived.Deep.Fields
namespace Go.Proofs.Ytmgbbkglafnibaa
open Go.RowKit Go.Deep Go.ChangeShapes Go.WideShapes
structure Cr where
  nm : ByteArray
  px : Int
  py : Int
  hg : Int
  jb : Int
  bk : Int
  zs : List Int
/-- the cells of a crane -/
def cellsC (x : Cr) (A : Option Addr) (n c : Nat) : List Value := [.string x.nm, .int .i64 x.px, .int .i64 x.py, .int .i64 x.hg, .int .i64 x.jb, .int .i64 x.bk, .slice A n c]
def Cr.ok (x : Cr) : Prop := x.nm.size ≤ maxLen ∧ I64 x.px ∧ I64 x.py ∧ I64 x.hg ∧ I64 x.jb ∧ I64 x.bk ∧ ∀ z ∈ x.zs, I64 z
/-- the seven cells of a crane, and its chart -/
def Cc (w : World) (b : Nat) (x : Cr) (A : Option Addr) (n c : Nat) : Prop := w.cell? ⟨b, 0, none⟩ = some (.string x.nm) ∧ w.cell? ⟨b, 1, none⟩ = some (.int .i64 x.px) ∧ w.cell? ⟨b, 2, none⟩ = some (.int .i64 x.py) ∧ w.cell? ⟨b, 3, none⟩ = some (.int .i64 x.hg) ∧ w.cell? ⟨b, 4, none⟩ = some (.int .i64 x.jb) ∧ w.cell? ⟨b, 5, none⟩ = some (.int .i64 x.bk) ∧ w.cell? ⟨b, 6, none⟩ = some (.slice A n c)
theorem Cc.below {w w' : World} {B b n c : Nat} {x : Cr} {A : Option Addr} (h : Cc w b x A n c) (hb : Below B w w') (hB : b < B) : Cc w' b x A n c := by
  obtain ⟨c0, c1, c2, c3, c4, c5, c6⟩ := h
  exact ⟨(hb.cell (p := ⟨b, 0, none⟩) hB).trans c0, (hb.cell (p := ⟨b, 1, none⟩) hB).trans c1, (hb.cell (p := ⟨b, 2, none⟩) hB).trans c2, (hb.cell (p := ⟨b, 3, none⟩) hB).trans c3, (hb.cell (p := ⟨b, 4, none⟩) hB).trans c4, (hb.cell (p := ⟨b, 5, none⟩) hB).trans c5, (hb.cell (p := ⟨b, 6, none⟩) hB).trans c6⟩
theorem Cc.lt {w : World} {b n c : Nat} {x : Cr} {A : Option Addr} (h : Cc w b x A n c) : b < w.heap.size := lt_of_cell h.1
theorem Cc.late {w w' : World} {b n c : Nat} {x : Cr} {A : Option Addr} (h : Cc w b x A n c) (hb : Below w.heap.size w w') : Cc w' b x A n c := h.below hb h.lt
theorem Cc.box (w : World) (t : TypeId) (x : Cr) (A : Option Addr) (n c : Nat) : Cc (w.alloc (.cells #[.string x.nm, .int .i64 x.px, .int .i64 x.py, .int .i64 x.hg, .int .i64 x.jb, .int .i64 x.bk, .slice A n c] t)) w.heap.size x A n c := by
  refine ⟨?_, ?_, ?_, ?_, ?_, ?_, ?_⟩ <;> (rw [cell_of_row _ _ _ _ _ _ (heap_alloc_new w _)]; rfl)
section
variable {H : Type} {enc : TypeId × Value → H} {P : Program} {w : World} {base : Nat} {held : Bool} {r : Reach} {b0 : Nat} {v : Value} {d : DataW H} {p : List MemPlace}
theorem open_structs {t e : TypeId} {fs : Array Field} {fuel : Nat} {cs : List Value} {y : DataW H × List MemPlace} (m : Nat) (hm : fs.size = m) (ht : P.underlying t = some (.slice e)) (he : P.underlying e = some (.struct fs))
    (hone : oneCellFields P fs = true) (hC : P.cellsOf e = fs.size) (hk : ∀ (j : Nat) (f : Field), fs[j]? = some f → P.underlying f.type = some (.int .i64))
    (h : DataW.trod enc P w base (fun _ => true) held fuel t cs = some y) :
    ∃ (A : Option Addr) (n c : Nat) (zs : List Int), cs = [.slice A n c] ∧ n ≤ 9223372036854775807 ∧ zs.length = n * m ∧ (∀ z ∈ zs, I64 z) ∧ SI w w.heap.size A zs := by
  subst hm
  rcases open_slice ht h with ⟨hcs, _⟩ | ⟨a, n, c, m, n1, D, Pl, hcs, hb, hl, hmx, hmm, hx, hi⟩
  · exact ⟨none, 0, 0, [], hcs, by omega, by simp, by simp, SI_nil⟩
  · have hcell : ∀ j, j < n * fs.size → ∃ x : Int, w.cell? (a.add j) = some (.int .i64 x) ∧ (Lit.int .i64 x).wf = true := by
      intro j hj
      have hs : 0 < fs.size := by
        rcases Nat.eq_zero_or_pos fs.size with h0 | h0
        · rw [h0] at hj; simp at hj
        · exact h0
      have hdi : j / fs.size < n := Nat.div_lt_of_lt_mul (by rw [Nat.mul_comm]; exact hj)
      have hmi : j % fs.size < fs.size := Nat.mod_lt _ hs
      obtain ⟨cs', hc, ht'⟩ := hi (j / fs.size) (by rw [hmm]; simp; omega)
      rw [hC] at hc
      obtain ⟨ys, n', hn', hy, hlen, hyl, hfd⟩ := DataW.trod_struct he ht'
      obtain ⟨_, hcl, hat⟩ := World.cells?_some hc
      have hjf : fs[j % fs.size]? = some (fs[j % fs.size]'hmi) := Array.getElem?_eq_getElem hmi
      obtain ⟨ho, hk1⟩ := hone_of hone _ _ hjf
      have h1 := hfd _ _ hjf
      rw [ho, hk1] at h1
      have hone' : (cs'.drop (j % fs.size)).take 1 = [cs'[j % fs.size]'(by omega)] := by
        rw [List.drop_eq_getElem_cons (by omega)]
        rfl
      rw [hone'] at h1
      have hys : ys[j % fs.size]? = some (ys[j % fs.size]'(by omega)) := List.getElem?_eq_getElem (by omega)
      obtain ⟨x, ex, _, wx⟩ := DataW.trod_int (hk _ _ hjf) (h1.trans hys)
      have hcellj := hat _ hmi
      have hv' : cs'[j % fs.size]? = some (cs'[j % fs.size]'(by omega)) := List.getElem?_eq_getElem (by omega)
      simp only [List.cons.injEq, and_true] at ex
      refine ⟨x, ?_, wx⟩
      have e : j / fs.size * fs.size + j % fs.size = j := by rw [Nat.mul_comm]; exact Nat.div_add_mod j fs.size
      rw [← e, ← Go.Deep.add_add, hcellj, hv', ex]
    refine ⟨some a, n, c, (List.range (n * fs.size)).map fun j => intAt w (a.add j), hcs, by unfold maxLen at hmx; omega, by simp, ?_, SI_of_cells fun j hj => (hcell j hj).imp fun _ hx => hx.1⟩
    intro z hz
    simp only [List.mem_map, List.mem_range] at hz
    obtain ⟨j, hj, rfl⟩ := hz
    obtain ⟨x, hx, wx⟩ := hcell j hj
    rw [show intAt w (a.add j) = x by simp [intAt, hx]]
    exact bd wx
end
end Go.Proofs.Ytmgbbkglafnibaa
