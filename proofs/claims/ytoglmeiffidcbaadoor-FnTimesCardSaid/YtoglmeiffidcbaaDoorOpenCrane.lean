/- Cranes in memory, and cranes that came in. -/
import Derived.Test.YtoglmeiffidcbaaDoorOpenVec
import Derived.Test.YtoglmeiffidcbaaDoorOpen
import Derived.Deep.Fields
namespace Go.Proofs.YtoglmeiffidcbaaDoor
open Go.RowKit Go.Deep Go.ChangeShapes Go.WideShapes
structure Cr where
  nm : ByteArray
  px : Int
  py : Int
  hg : Int
  jb : Int
  bk : Int
  zs : List Int
/-- the cells of a crane -/
def cellsC (x : Cr) (A : Option Addr) (n c : Nat) : List Value := [.string x.nm, .int .i64 x.px, .int .i64 x.py, .int .i64 x.hg, .int .i64 x.jb, .int .i64 x.bk, .slice A n c]
def Cr.ok (x : Cr) : Prop := x.nm.size ≤ maxLen ∧ I64 x.px ∧ I64 x.py ∧ I64 x.hg ∧ I64 x.jb ∧ I64 x.bk ∧ ∀ z ∈ x.zs, I64 z
/-- the seven cells of a crane, and its chart -/
def Cc (w : World) (b : Nat) (x : Cr) (A : Option Addr) (n c : Nat) : Prop := w.cell? ⟨b, 0, none⟩ = some (.string x.nm) ∧ w.cell? ⟨b, 1, none⟩ = some (.int .i64 x.px) ∧ w.cell? ⟨b, 2, none⟩ = some (.int .i64 x.py) ∧ w.cell? ⟨b, 3, none⟩ = some (.int .i64 x.hg) ∧ w.cell? ⟨b, 4, none⟩ = some (.int .i64 x.jb) ∧ w.cell? ⟨b, 5, none⟩ = some (.int .i64 x.bk) ∧ w.cell? ⟨b, 6, none⟩ = some (.slice A n c)
theorem Cc.below {w w' : World} {B b n c : Nat} {x : Cr} {A : Option Addr} (h : Cc w b x A n c) (hb : Below B w w') (hB : b < B) : Cc w' b x A n c := by
  obtain ⟨c0, c1, c2, c3, c4, c5, c6⟩ := h
  exact ⟨(hb.cell (p := ⟨b, 0, none⟩) hB).trans c0, (hb.cell (p := ⟨b, 1, none⟩) hB).trans c1, (hb.cell (p := ⟨b, 2, none⟩) hB).trans c2, (hb.cell (p := ⟨b, 3, none⟩) hB).trans c3, (hb.cell (p := ⟨b, 4, none⟩) hB).trans c4, (hb.cell (p := ⟨b, 5, none⟩) hB).trans c5, (hb.cell (p := ⟨b, 6, none⟩) hB).trans c6⟩
theorem Cc.lt {w : World} {b n c : Nat} {x : Cr} {A : Option Addr} (h : Cc w b x A n c) : b < w.heap.size := lt_of_cell h.1
theorem Cc.late {w w' : World} {b n c : Nat} {x : Cr} {A : Option Addr} (h : Cc w b x A n c) (hb : Below w.heap.size w w') : Cc w' b x A n c := h.below hb h.lt
theorem Cc.box (w : World) (t : TypeId) (x : Cr) (A : Option Addr) (n c : Nat) : Cc (w.alloc (.cells #[.string x.nm, .int .i64 x.px, .int .i64 x.py, .int .i64 x.hg, .int .i64 x.jb, .int .i64 x.bk, .slice A n c] t)) w.heap.size x A n c := by
  refine ⟨?_, ?_, ?_, ?_, ?_, ?_, ?_⟩ <;> (rw [cell_of_row _ _ _ _ _ _ (heap_alloc_new w _)]; rfl)
section
variable {H : Type} {enc : TypeId × Value → H} {P : Program} {w : World} {base : Nat} {held : Bool} {r : Reach} {b0 : Nat} {v : Value} {d : DataW H} {p : List MemPlace}
theorem open_structs {t e : TypeId} {fs : Array Field} {fuel : Nat} {cs : List Value} {y : DataW H × List MemPlace} (m : Nat) (hm : fs.size = m) (ht : P.underlying t = some (.slice e)) (he : P.underlying e = some (.struct fs))
    (hone : oneCellFields P fs = true) (hC : P.cellsOf e = fs.size) (hk : ∀ (j : Nat) (f : Field), fs[j]? = some f → P.underlying f.type = some (.int .i64))
    (h : DataW.trod enc P w base (fun _ => true) held fuel t cs = some y) :
    ∃ (A : Option Addr) (n c : Nat) (zs : List Int), cs = [.slice A n c] ∧ n ≤ 9223372036854775807 ∧ zs.length = n * m ∧ (∀ z ∈ zs, I64 z) ∧ SI w w.heap.size A zs := by
  subst hm
  rcases open_slice ht h with ⟨hcs, _⟩ | ⟨a, n, c, m, n1, D, Pl, hcs, hb, hl, hmx, hmm, hx, hi⟩
  · exact ⟨none, 0, 0, [], hcs, by omega, by simp, by simp, SI_nil⟩
  · have hcell : ∀ j, j < n * fs.size → ∃ x : Int, w.cell? (a.add j) = some (.int .i64 x) ∧ (Lit.int .i64 x).wf = true := by
      intro j hj
      have hs : 0 < fs.size := by
        rcases Nat.eq_zero_or_pos fs.size with h0 | h0
        · rw [h0] at hj; simp at hj
        · exact h0
      have hdi : j / fs.size < n := Nat.div_lt_of_lt_mul (by rw [Nat.mul_comm]; exact hj)
      have hmi : j % fs.size < fs.size := Nat.mod_lt _ hs
      obtain ⟨cs', hc, ht'⟩ := hi (j / fs.size) (by rw [hmm]; simp; omega)
      rw [hC] at hc
      obtain ⟨ys, n', hn', hy, hlen, hyl, hfd⟩ := DataW.trod_struct he ht'
      obtain ⟨_, hcl, hat⟩ := World.cells?_some hc
      have hjf : fs[j % fs.size]? = some (fs[j % fs.size]'hmi) := Array.getElem?_eq_getElem hmi
      obtain ⟨ho, hk1⟩ := hone_of hone _ _ hjf
      have h1 := hfd _ _ hjf
      rw [ho, hk1] at h1
      have hone' : (cs'.drop (j % fs.size)).take 1 = [cs'[j % fs.size]'(by omega)] := by
        rw [List.drop_eq_getElem_cons (by omega)]
        rfl
      rw [hone'] at h1
      have hys : ys[j % fs.size]? = some (ys[j % fs.size]'(by omega)) := List.getElem?_eq_getElem (by omega)
      obtain ⟨x, ex, _, wx⟩ := DataW.trod_int (hk _ _ hjf) (h1.trans hys)
      have hcellj := hat _ hmi
      have hv' : cs'[j % fs.size]? = some (cs'[j % fs.size]'(by omega)) := List.getElem?_eq_getElem (by omega)
      simp only [List.cons.injEq, and_true] at ex
      refine ⟨x, ?_, wx⟩
      have e : j / fs.size * fs.size + j % fs.size = j := by rw [Nat.mul_comm]; exact Nat.div_add_mod j fs.size
      rw [← e, ← Go.Deep.add_add, hcellj, hv', ex]
    refine ⟨some a, n, c, (List.range (n * fs.size)).map fun j => intAt w (a.add j), hcs, by unfold maxLen at hmx; omega, by simp, ?_, SI_of_cells fun j hj => (hcell j hj).imp fun _ hx => hx.1⟩
    intro z hz
    simp only [List.mem_map, List.mem_range] at hz
    obtain ⟨j, hj, rfl⟩ := hz
    obtain ⟨x, hx, wx⟩ := hcell j hj
    rw [show intAt w (a.add j) = x by simp [intAt, hx]]
    exact bd wx
set_option maxRecDepth 20000 in
theorem el_pt {n : Nat} {cs : List Value} {y : DataW H × List MemPlace} (h : DataW.trod enc Tryd.prog w base (fun _ => true) held n 26 cs = some y) : ∃ a b : Int, cs = [.int .i64 a, .int .i64 b] ∧ I64 a ∧ I64 b := by
  obtain ⟨ys, n', _, _, hl, hlen, hg⟩ := DataW.trod_struct Tryd.underlying26 h
  have hl2 : cs.length = 2 := hl.trans (by kernel_rfl)
  match cs, hl2 with
  | [c0, c1], _ =>
    have k0 : Tryd.prog.cellsOf 2 = 1 := by kernel_rfl
    have h0 : DataW.trod enc Tryd.prog w base (fun _ => true) held n' 2 [c0] = ys[0]? := by have h := hg 0 _ rfl; simpa [k0] using h
    have h1 : DataW.trod enc Tryd.prog w base (fun _ => true) held n' 2 [c1] = ys[1]? := by have h := hg 1 _ rfl; simpa [k0] using h
    obtain ⟨z0, hz0⟩ : ∃ z, ys[0]? = some z := ⟨_, List.getElem?_eq_getElem (by rw [hlen]; decide)⟩
    obtain ⟨z1, hz1⟩ : ∃ z, ys[1]? = some z := ⟨_, List.getElem?_eq_getElem (by rw [hlen]; decide)⟩
    obtain ⟨s0, e0, _, w0⟩ := DataW.trod_int Tryd.underlying2 (h0.trans hz0)
    obtain ⟨s1, e1, _, w1⟩ := DataW.trod_int Tryd.underlying2 (h1.trans hz1)
    simp only [List.cons.injEq, and_true] at e0 e1
    exact ⟨s0, s1, by rw [e0, e1], bd w0, bd w1⟩
set_option maxRecDepth 20000 in
theorem val_crane (hv : Value.okWide Tryd.prog w r b0 29 v) (h : DataW.Trod enc Tryd.prog w base (fun _ => true) held 29 v d p) :
    ∃ (x : Cr) (A : Option Addr) (n c : Nat), v = .agg #[.string x.nm, .int .i64 x.px, .int .i64 x.py, .int .i64 x.hg, .int .i64 x.jb, .int .i64 x.bk, .slice A n c] ∧ x.ok ∧ n ≤ 9223372036854775807 ∧ x.zs.length = n * 2 ∧ SI w w.heap.size A x.zs := by
  obtain ⟨cs, rfl, hsz⟩ := okWide_struct Tryd.underlying29 hv
  obtain ⟨fuel, hf⟩ := h
  obtain ⟨ys, n', _, _, hl, hlen, hg⟩ := DataW.trod_struct Tryd.underlying29 hf
  obtain ⟨l⟩ := cs
  have hl2 : l.length = 7 := hl.trans (by kernel_rfl)
  match l, hl2 with
  | [c0, c1, c2, c3, c4, c5, c6], _ =>
    have ks : Tryd.prog.cellsOf 9 = 1 := by kernel_rfl
    have k0 : Tryd.prog.cellsOf 2 = 1 := by kernel_rfl
    have kp : Tryd.prog.cellsOf 26 = 2 := by kernel_rfl
    have kl : Tryd.prog.cellsOf 27 = 1 := by kernel_rfl
    have h0 : DataW.trod enc Tryd.prog w base (fun _ => true) held n' 9 [c0] = ys[0]? := by have h := hg 0 _ rfl; simpa [ks, k0, kp, kl, Value.cells] using h
    obtain ⟨z0, hz0⟩ : ∃ z, ys[0]? = some z := ⟨_, List.getElem?_eq_getElem (by rw [hlen]; decide)⟩
    have h1 : DataW.trod enc Tryd.prog w base (fun _ => true) held n' 26 [c1, c2] = ys[1]? := by have h := hg 1 _ rfl; simpa [ks, k0, kp, kl, Value.cells] using h
    obtain ⟨z1, hz1⟩ : ∃ z, ys[1]? = some z := ⟨_, List.getElem?_eq_getElem (by rw [hlen]; decide)⟩
    have h2 : DataW.trod enc Tryd.prog w base (fun _ => true) held n' 2 [c3] = ys[2]? := by have h := hg 2 _ rfl; simpa [ks, k0, kp, kl, Value.cells] using h
    obtain ⟨z2, hz2⟩ : ∃ z, ys[2]? = some z := ⟨_, List.getElem?_eq_getElem (by rw [hlen]; decide)⟩
    have h3 : DataW.trod enc Tryd.prog w base (fun _ => true) held n' 2 [c4] = ys[3]? := by have h := hg 3 _ rfl; simpa [ks, k0, kp, kl, Value.cells] using h
    obtain ⟨z3, hz3⟩ : ∃ z, ys[3]? = some z := ⟨_, List.getElem?_eq_getElem (by rw [hlen]; decide)⟩
    have h4 : DataW.trod enc Tryd.prog w base (fun _ => true) held n' 2 [c5] = ys[4]? := by have h := hg 4 _ rfl; simpa [ks, k0, kp, kl, Value.cells] using h
    obtain ⟨z4, hz4⟩ : ∃ z, ys[4]? = some z := ⟨_, List.getElem?_eq_getElem (by rw [hlen]; decide)⟩
    have h5 : DataW.trod enc Tryd.prog w base (fun _ => true) held n' 27 [c6] = ys[5]? := by have h := hg 5 _ rfl; simpa [ks, k0, kp, kl, Value.cells] using h
    obtain ⟨z5, hz5⟩ : ∃ z, ys[5]? = some z := ⟨_, List.getElem?_eq_getElem (by rw [hlen]; decide)⟩
    obtain ⟨nm, e0, _, g0⟩ := DataW.trod_string Tryd.underlying9 (h0.trans hz0)
    obtain ⟨px, py, e1, g1, g1'⟩ := el_pt (h1.trans hz1)
    obtain ⟨hg', e2, _, g2⟩ := DataW.trod_int Tryd.underlying2 (h2.trans hz2)
    obtain ⟨jb, e3, _, g3⟩ := DataW.trod_int Tryd.underlying2 (h3.trans hz3)
    obtain ⟨bk, e4, _, g4⟩ := DataW.trod_int Tryd.underlying2 (h4.trans hz4)
    obtain ⟨A, m, c, zs, e5, q1, q2, q3, q4⟩ := open_structs 2 rfl Tryd.underlying27 Tryd.underlying86 (by kernel_rfl) (by kernel_rfl) (by intro j f hj; match j, hj with | 0, hj => simp at hj; subst hj; exact Tryd.underlying2 | 1, hj => simp at hj; subst hj; exact Tryd.underlying2 | q + 2, hj => simp at hj) (h5.trans hz5)
    simp only [List.cons.injEq, and_true] at e0 e1 e2 e3 e4 e5
    refine ⟨⟨nm, px, py, hg', jb, bk, zs⟩, A, m, c, ?_, ⟨g0, g1, g1', bd g2, bd g3, bd g4, q3⟩, q1, q2, q4⟩
    rw [e0, e1.1, e1.2, e2, e3, e4, e5]
end
end Go.Proofs.YtoglmeiffidcbaaDoor
