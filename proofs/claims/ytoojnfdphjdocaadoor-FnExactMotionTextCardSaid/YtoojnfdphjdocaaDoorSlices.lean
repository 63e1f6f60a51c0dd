/- Words for slices of integers and of structs of integers: what a slice that came in, or that the call made, reads as. -/
import Derived.Test.YtoojnfdphjdocaaDoorKit
import Derived.Deep.Slices
namespace Go.Proofs.YtoojnfdphjdocaaDoor
open Go.RowKit Go.Deep Go.ChangeShapes Go.WideShapes
/-- The slice at A reads as the integers zs (elements of several cells one after the other), below block B. -/
def SI (w : World) (B : Nat) (A : Option Addr) (zs : List Int) : Prop :=
  0 < zs.length → ∃ b off, A = some ⟨b, off, none⟩ ∧ b < B ∧ ∀ j, j < zs.length → w.cell? ⟨b, off + j, none⟩ = some (.int .i64 (zs.getD j 0))
theorem SI.below {w w' : World} {B : Nat} {A : Option Addr} {zs : List Int} (h : SI w B A zs) (hb : Below B w w') : SI w' B A zs := fun hp => by
  obtain ⟨b, off, e, hB, hc⟩ := h hp
  exact ⟨b, off, e, hB, fun j hj => (hb.cell (p := ⟨b, off + j, none⟩) hB).trans (hc j hj)⟩
theorem SI.more {w : World} {B B' : Nat} {A : Option Addr} {zs : List Int} (h : SI w B A zs) (hB : B ≤ B') : SI w B' A zs := fun hp => by
  obtain ⟨b, off, e, hb, hc⟩ := h hp
  exact ⟨b, off, e, Nat.lt_of_lt_of_le hb hB, hc⟩
theorem SI.nil {w : World} {B : Nat} {A : Option Addr} : SI w B A [] := fun h => absurd h (by simp)
/-- Block g is just the integers zs, cells of type t. -/
def BI (w : World) (g t : Nat) (zs : List Int) : Prop := w.heap[g]? = some (.cells (zs.map (Value.int .i64)).toArray t (0, 0))
theorem BI.lt {w : World} {g t : Nat} {zs : List Int} (h : BI w g t zs) : g < w.heap.size := by
  rcases Nat.lt_or_ge g w.heap.size with hl | hg
  · exact hl
  · unfold BI at h; rw [Array.getElem?_eq_none hg] at h; cases h
theorem BI.cell {w : World} {g t : Nat} {zs : List Int} (h : BI w g t zs) (j : Nat) (hj : j < zs.length) : w.cell? ⟨g, j, none⟩ = some (.int .i64 (zs.getD j 0)) := by
  unfold BI at h
  rw [cell_of_row w g j _ _ _ h]
  simp [hj]
theorem BI.free {w : World} {g t : Nat} {zs : List Int} (h : BI w g t zs) (j : Nat) : w.frozen? ⟨g, j, none⟩ = false := by
  unfold BI at h
  simp [World.frozen?, h]
theorem BI.si {w : World} {g t : Nat} {zs : List Int} (h : BI w g t zs) : SI w (g + 1) (some ⟨g, 0, none⟩) zs := fun _ =>
  ⟨g, 0, rfl, Nat.lt_succ_self g, fun j hj => by rw [Nat.zero_add]; exact h.cell j hj⟩
theorem BI.below {w w' : World} {B g t : Nat} {zs : List Int} (h : BI w g t zs) (hb : Below B w w') (hg : g < B) : BI w' g t zs := (hb.block g hg).trans h
theorem BI.late {w w' : World} {g t : Nat} {zs : List Int} (h : BI w g t zs) (hb : Below w.heap.size w w') : BI w' g t zs := (hb.block g h.lt).trans h
theorem BI.drewN {w : World} {g t : Nat} {zs : List Int} (h : BI w g t zs) (n : Nat) : BI (w.drewN n) g t zs := h
theorem BI.alloc {w : World} {g t : Nat} {zs : List Int} (h : BI w g t zs) (o : Obj) : BI (w.alloc o) g t zs := (Below.heap_alloc w o g h.lt).trans h
theorem BI.put {w : World} {g t : Nat} {zs : List Int} (h : BI w g t zs) (j : Nat) (x : Int) : BI (w.setCell ⟨g, j, none⟩ (.int .i64 x)) g t (zs.set j x) := by
  unfold BI at h ⊢
  rw [heap_setCell_same w g j _ _ _ h]
  simp [List.map_set]
theorem BI.far {w : World} {g t : Nat} {zs : List Int} (h : BI w g t zs) {p : Addr} (hp : g ≠ p.block) (u : Value) : BI (w.setCell p u) g t zs := (Below.heap_setCell w p u g hp).trans h
/-- The first k integers laid, the rest still 0. -/
def rowK (zs : List Int) (k : Nat) : List Int := zs.take k ++ List.replicate (zs.length - k) 0
theorem rowK_zero (zs : List Int) : rowK zs 0 = List.replicate zs.length 0 := by simp [rowK]
theorem rowK_all {zs : List Int} {k : Nat} (h : zs.length ≤ k) : rowK zs k = zs := by simp [rowK, List.take_of_length_le h, Nat.sub_eq_zero_of_le h]
theorem rowK_len {zs : List Int} {k : Nat} (h : k ≤ zs.length) : (rowK zs k).length = zs.length := by simp [rowK]; omega
theorem rowK_at {zs : List Int} {k : Nat} (h : k ≤ zs.length) (j : Nat) : (rowK zs k)[j]? = if j < k then zs[j]? else if j < zs.length then some 0 else none := by
  have hm : min k zs.length = k := Nat.min_eq_left h
  simp only [rowK, List.getElem?_append, List.length_take, List.getElem?_take, List.getElem?_replicate, hm]
  by_cases hj : j < k
  · rw [if_pos hj, if_pos hj, if_pos hj]
  · rw [if_neg hj, if_neg hj]
    by_cases hl : j < zs.length
    · rw [if_pos hl, if_pos (by omega)]
    · rw [if_neg hl, if_neg (by omega)]
theorem rowK_set {zs : List Int} {k : Nat} (h : k < zs.length) : (rowK zs k).set k (zs.getD k 0) = rowK zs (k + 1) := by
  apply List.ext_getElem?
  intro j
  rw [List.getElem?_set, rowK_at (by omega), rowK_at (by omega), rowK_len (by omega)]
  by_cases e : k = j
  · subst e
    rw [if_pos rfl, if_pos (by omega), if_pos (by omega)]
    simp [List.getD_eq_getElem?_getD, h]
  · rw [if_neg e]
    by_cases hj : j < k
    · rw [if_pos hj, if_pos (by omega)]
    · rw [if_neg hj, if_neg (show ¬ j < k + 1 by omega)]
/-- make([]T, n): elements of several cells. -/
theorem run_make_row {P : Program} (t e : TypeId) (i : TypeInfo) (z : Value) (ht : P.underlying t = some (.slice e)) (hi : P.info? e = some i) (hz : i.zero = some z)
    (kl : IntKind) (n : Nat) (hbytes : i.bytes * n ≤ 281474976710656) (h63 : n ≤ 9223372036854775807) (w : World) :
    (Instr.makeSlice t (.int kl (n : Int)) (.int kl (n : Int))).run P w = .ok (.slice (some ⟨w.heap.size, 0, none⟩) n n) (w.alloc (.cells (madeCells z.cells (n * i.size)) e)) := by
  have hb : (i.bytes : Int) * (n : Int) ≤ 281474976710656 := by
    have h : ((i.bytes * n : Nat) : Int) ≤ 281474976710656 := by omega
    rwa [Int.natCast_mul] at h
  have hr := run_make (P := P) w t e i z ht hi hz kl kl n n (by omega) (by omega) hb (by omega)
  simp only [Int.toNat_natCast] at hr
  exact hr
/-- cells of a value whose cells are all one and the same -/
theorem made_same (z : Array Value) (x : Value) (hz : ∀ j, j < z.size → z[j]? = some x) (hp : 0 < z.size) (n : Nat) : madeCells z n = (List.replicate n x).toArray := by
  apply Array.ext_getElem?
  intro j
  by_cases hj : j < n
  · have hm : j % z.size < z.size := Nat.mod_lt _ hp
    have h1 := hz _ hm
    have h2 : z[j % z.size]! = x := by rw [getElem!_def, h1]
    simp [madeCells, hj, h2]
  · simp [madeCells, hj]
theorem made_ints {P : Program} (t e : TypeId) (i : TypeInfo) (z : Value) (m : Nat) (ht : P.underlying t = some (.slice e)) (hi : P.info? e = some i) (hz : i.zero = some z) (hs : i.size = m)
    (hc : ∀ j, j < z.cells.size → z.cells[j]? = some (.int .i64 0)) (hp : 0 < z.cells.size)
    (n : Nat) (hbytes : i.bytes * n ≤ 281474976710656) (h63 : n ≤ 9223372036854775807) (w : World) :
    (Instr.makeSlice t (.int .i64 (n : Int)) (.int .i64 (n : Int))).run P w = .ok (.slice (some ⟨w.heap.size, 0, none⟩) n n) (w.alloc (.cells (Array.replicate (n * m) (.int .i64 0)) e)) := by
  rw [run_make_row t e i z ht hi hz .i64 n hbytes h63 w, made_same z.cells _ hc hp, hs]
  simp
theorem BI.made (w : World) (t n : Nat) : BI (w.alloc (.cells (Array.replicate n (.int .i64 0)) t)) w.heap.size t (List.replicate n 0) := by
  unfold BI
  rw [show ((List.replicate n (0 : Int)).map (Value.int .i64)).toArray = Array.replicate n (.int .i64 0) by simp]
  exact heap_alloc_new w _
end Go.Proofs.YtoojnfdphjdocaaDoor
