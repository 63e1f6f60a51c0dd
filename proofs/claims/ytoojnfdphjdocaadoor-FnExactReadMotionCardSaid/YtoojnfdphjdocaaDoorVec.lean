/- Words for slices whose elements take one cell each: what a slice that came in reads as; a block that is known whole. -/
import Derived.Test.YtoojnfdphjdocaaDoorOpen
namespace Go.Proofs.YtoojnfdphjdocaaDoor
open Go.RowKit Go.Deep Go.ChangeShapes Go.WideShapes
section
variable {α : Type} {f : α → Value} {w w' : World} {B B' g t : Nat} {A : Option Addr} {xs : List α}
/-- the slice at A reads as xs and lies below block B -/
def SV (f : α → Value) (w : World) (B : Nat) (A : Option Addr) (xs : List α) : Prop :=
  0 < xs.length → ∃ b off, A = some ⟨b, off, none⟩ ∧ b < B ∧ ∀ j x, xs[j]? = some x → w.cell? ⟨b, off + j, none⟩ = some (f x)
theorem SV.keep (h : SV f w B A xs) (hk : ∀ p : Addr, p.block < B → w'.cell? p = w.cell? p) : SV f w' B A xs := fun hp => by
  obtain ⟨b, off, e, hB, hc⟩ := h hp
  exact ⟨b, off, e, hB, fun j x hj => (hk ⟨b, off + j, none⟩ hB).trans (hc j x hj)⟩
theorem SV.below (h : SV f w B A xs) (hb : Below B w w') : SV f w' B A xs := h.keep fun _ hp => hb.cell hp
theorem SV.more (h : SV f w B A xs) (hB : B ≤ B') : SV f w B' A xs := fun hp => by
  obtain ⟨b, off, e, hb, hc⟩ := h hp
  exact ⟨b, off, e, Nat.lt_of_lt_of_le hb hB, hc⟩
theorem SV.nil : SV f w B A [] := fun h => absurd h (by simp)
/-- block g is just the values xs -/
def BV (f : α → Value) (w : World) (g t : Nat) (xs : List α) : Prop := w.heap[g]? = some (.cells (xs.map f).toArray t (0, 0))
theorem BV.lt (h : BV f w g t xs) : g < w.heap.size := by
  rcases Nat.lt_or_ge g w.heap.size with hl | hg
  · exact hl
  · unfold BV at h; rw [Array.getElem?_eq_none hg] at h; cases h
theorem BV.cell (h : BV f w g t xs) {j : Nat} {x : α} (hj : xs[j]? = some x) : w.cell? ⟨g, j, none⟩ = some (f x) := by
  unfold BV at h
  rw [cell_of_row w g j _ _ _ h]
  simp [hj]
theorem BV.free (h : BV f w g t xs) (j : Nat) : w.frozen? ⟨g, j, none⟩ = false := by
  unfold BV at h
  simp [World.frozen?, h]
theorem BV.sv (h : BV f w g t xs) (hB : g < B) : SV f w B (some ⟨g, 0, none⟩) xs := fun _ =>
  ⟨g, 0, rfl, hB, fun j x hj => by rw [Nat.zero_add]; exact h.cell hj⟩
theorem BV.below (h : BV f w g t xs) (hb : Below B w w') (hg : g < B) : BV f w' g t xs := (hb.block g hg).trans h
theorem BV.late (h : BV f w g t xs) (hb : Below w.heap.size w w') : BV f w' g t xs := h.below hb h.lt
theorem BV.drewN (h : BV f w g t xs) (n : Nat) : BV f (w.drewN n) g t xs := h
theorem BV.drew (h : BV f w g t xs) : BV f w.drew g t xs := h
theorem BV.alloc (h : BV f w g t xs) (o : Obj) : BV f (w.alloc o) g t xs := (Below.heap_alloc w o g h.lt).trans h
theorem BV.put (h : BV f w g t xs) (j : Nat) (x : α) : BV f (w.setCell ⟨g, j, none⟩ (f x)) g t (xs.set j x) := by
  unfold BV at h ⊢
  rw [heap_setCell_same w g j _ _ _ h]
  simp [List.map_set]
theorem BV.far (h : BV f w g t xs) {p : Addr} (hp : g ≠ p.block) (u : Value) : BV f (w.setCell p u) g t xs := (Below.heap_setCell w p u g hp).trans h
theorem BV.made (w : World) (t n : Nat) (z : α) : BV f (w.alloc (.cells (Array.replicate n (f z)) t)) w.heap.size t (List.replicate n z) := by
  unfold BV
  rw [show ((List.replicate n z).map f).toArray = Array.replicate n (f z) by simp]
  exact heap_alloc_new w _
/-- the first k values laid, the rest still z -/
def rowV (z : α) (xs : List α) (k : Nat) : List α := xs.take k ++ List.replicate (xs.length - k) z
theorem rowV_zero (z : α) (xs : List α) : rowV z xs 0 = List.replicate xs.length z := by simp [rowV]
theorem rowV_all {z : α} {xs : List α} {k : Nat} (h : xs.length ≤ k) : rowV z xs k = xs := by simp [rowV, List.take_of_length_le h, Nat.sub_eq_zero_of_le h]
theorem rowV_len {z : α} {xs : List α} {k : Nat} (h : k ≤ xs.length) : (rowV z xs k).length = xs.length := by simp [rowV]; omega
theorem rowV_at {z : α} {xs : List α} {k : Nat} (h : k ≤ xs.length) (j : Nat) : (rowV z xs k)[j]? = if j < k then xs[j]? else if j < xs.length then some z else none := by
  have hm : min k xs.length = k := Nat.min_eq_left h
  simp only [rowV, List.getElem?_append, List.length_take, List.getElem?_take, List.getElem?_replicate, hm]
  by_cases hj : j < k
  · rw [if_pos hj, if_pos hj, if_pos hj]
  · rw [if_neg hj, if_neg hj]
    by_cases hl : j < xs.length
    · rw [if_pos hl, if_pos (by omega)]
    · rw [if_neg hl, if_neg (by omega)]
theorem lt_of_at {xs : List α} {k : Nat} {x : α} (h : xs[k]? = some x) : k < xs.length := by
  rcases Nat.lt_or_ge k xs.length with hl | hg
  · exact hl
  · rw [List.getElem?_eq_none hg] at h; cases h
theorem at_of_lt {xs : List α} {k : Nat} (h : k < xs.length) : ∃ x, xs[k]? = some x := ⟨_, List.getElem?_eq_getElem h⟩
theorem rowV_set {z x : α} {xs : List α} {k : Nat} (h : xs[k]? = some x) : (rowV z xs k).set k x = rowV z xs (k + 1) := by
  have hk := lt_of_at h
  apply List.ext_getElem?
  intro j
  rw [List.getElem?_set, rowV_at (by omega), rowV_at (by omega), rowV_len (by omega)]
  by_cases e : k = j
  · subst e
    rw [if_pos rfl, if_pos (by omega), if_pos (by omega), h]
  · rw [if_neg e]
    by_cases hj : j < k
    · rw [if_pos hj, if_pos (by omega)]
    · rw [if_neg hj, if_neg (show ¬ j < k + 1 by omega)]
theorem made_one {P : Program} (t e : TypeId) (i : TypeInfo) (z : Value) (ht : P.underlying t = some (.slice e)) (hi : P.info? e = some i) (hz : i.zero = some z) (hs : i.size = 1) (hc : z.cells = #[z])
    (n : Nat) (hbytes : i.bytes * n ≤ 281474976710656) (h63 : n ≤ 9223372036854775807) (w : World) :
    (Instr.makeSlice t (.int .i64 (n : Int)) (.int .i64 (n : Int))).run P w = .ok (.slice (some ⟨w.heap.size, 0, none⟩) n n) (w.alloc (.cells (Array.replicate n z) e)) := by
  rw [run_make_row t e i z ht hi hz .i64 n hbytes h63 w, made_same z.cells z (by rw [hc]; intro j hj; have hj : j < 1 := hj; match j, hj with | 0, _ => rfl) (by rw [hc]; show 0 < 1; omega), hs]
  simp
end
/-- the numbers of an int64 -/
def I64 (x : Int) : Prop := -9223372036854775808 ≤ x ∧ x ≤ 9223372036854775807
theorem I64.mk {x : Int} (h : -9223372036854775808 ≤ x ∧ x ≤ 9223372036854775807) : I64 x := h
theorem I64.bd {x : Int} (h : I64 x) : -9223372036854775808 ≤ x ∧ x ≤ 9223372036854775807 := h
/-- a slice's value -/
def sl (p : Option Addr × Nat × Nat) : Value := .slice p.1 p.2.1 p.2.2
/-- a slice that reads as a list -/
def IsRow {α : Type} (f : α → Value) (Q : α → Prop) (w : World) (p : Option Addr × Nat × Nat) : Prop := p.2.1 ≤ 9223372036854775807 ∧ ∃ bs : List α, bs.length = p.2.1 ∧ (∀ x ∈ bs, Q x) ∧ SV f w w.heap.size p.1 bs
/-- slices that read as lists, one after the other -/
def Rows {α : Type} (f : α → Value) (w : World) (B : Nat) (rs : List (Option Addr × Nat × Nat)) (T : List (List α)) : Prop :=
  rs.length = T.length ∧ ∀ (j : Nat) p bs, rs[j]? = some p → T[j]? = some bs → p.2.1 = bs.length ∧ SV f w B p.1 bs
theorem Rows.below {α : Type} {f : α → Value} {w w' : World} {B : Nat} {rs : List (Option Addr × Nat × Nat)} {T : List (List α)} (h : Rows f w B rs T) (hb : Below B w w') : Rows f w' B rs T :=
  ⟨h.1, fun j p bs h1 h2 => ⟨(h.2 j p bs h1 h2).1, (h.2 j p bs h1 h2).2.below hb⟩⟩
theorem Rows.more {α : Type} {f : α → Value} {w : World} {B B' : Nat} {rs : List (Option Addr × Nat × Nat)} {T : List (List α)} (h : Rows f w B rs T) (hB : B ≤ B') : Rows f w B' rs T :=
  ⟨h.1, fun j p bs h1 h2 => ⟨(h.2 j p bs h1 h2).1, (h.2 j p bs h1 h2).2.more hB⟩⟩
end Go.Proofs.YtoojnfdphjdocaaDoor
