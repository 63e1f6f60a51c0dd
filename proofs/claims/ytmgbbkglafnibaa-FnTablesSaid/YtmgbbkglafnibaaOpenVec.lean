/- Arguments that came in: slices of integers, tables of bools, slices of slices of integers, motions. -/
import Derived.Test.YtmgbbkglafnibaaVec
namespace Go.Proofs.Ytmgbbkglafnibaa
open Go.RowKit Go.Deep Go.ChangeShapes Go.WideShapes Go.Joins
section
variable {α : Type} {H : Type} {enc : TypeId × Value → H} {P : Program} {w : World} {base : Nat} {held : Bool} {r : Reach} {b0 : Nat} {v : Value} {d : DataW H} {p : List MemPlace}
theorem list_of {R : Nat → α → Prop} : ∀ n : Nat, (∀ i, i < n → ∃ x, R i x) → ∃ xs : List α, xs.length = n ∧ ∀ j x, xs[j]? = some x → R j x
  | 0, _ => ⟨[], rfl, fun j x h => by simp at h⟩
  | n + 1, h => by
    obtain ⟨xs, hl, hx⟩ := list_of n fun i hi => h i (by omega)
    obtain ⟨y, hy⟩ := h n (by omega)
    refine ⟨xs ++ [y], by simp [hl], fun j x hj => ?_⟩
    rw [List.getElem?_append] at hj
    split at hj
    · exact hx j x hj
    · rename_i hlt
      have e : j = n := by
        rcases Nat.lt_or_ge (j - xs.length) 1 with h1 | h1
        · omega
        · rw [List.getElem?_eq_none (by simp; omega)] at hj; cases hj
      subst e
      rw [hl, Nat.sub_self] at hj
      simp only [List.getElem?_cons_zero, Option.some.injEq] at hj
      rw [← hj]; exact hy
theorem open_vec {f : α → Value} {Q : α → Prop} {fuel : Nat} {cs : List Value} {y : DataW H × List MemPlace} {t e : TypeId} (ht : P.underlying t = some (.slice e)) (ce : P.cellsOf e = 1)
    (hel : ∀ {n : Nat} {cs : List Value} {y : DataW H × List MemPlace}, DataW.trod enc P w base (fun _ => true) held n e cs = some y → ∃ x, cs = [f x] ∧ Q x)
    (h : DataW.trod enc P w base (fun _ => true) held fuel t cs = some y) :
    ∃ (A : Option Addr) (n c : Nat) (xs : List α), cs = [.slice A n c] ∧ n ≤ 9223372036854775807 ∧ xs.length = n ∧ (∀ x ∈ xs, Q x) ∧ SV f w w.heap.size A xs := by
  rcases open_slice ht h with ⟨hcs, _⟩ | ⟨a, len, cap, m, n1, D, Pl, hcs, hb, hl, hmx, hmm, hx, hi⟩
  · exact ⟨none, 0, 0, [], hcs, by omega, rfl, by simp, SV.nil⟩
  · have hcell : ∀ i, i < len → ∃ x, w.cell? (a.add i) = some (f x) ∧ Q x := by
      intro i hlt
      obtain ⟨cs', hc, ht'⟩ := hi i (by rw [hmm]; simp; omega)
      obtain ⟨x, rfl, hq⟩ := hel ht'
      rw [ce, Nat.mul_one] at hc
      obtain ⟨_, hcl, hat⟩ := World.cells?_some hc
      have h0 := hat 0 (by omega)
      refine ⟨x, ?_, hq⟩
      rw [Go.Deep.add_add] at h0
      simpa using h0
    obtain ⟨xs, hlen, hxs⟩ := list_of len hcell
    refine ⟨some a, len, cap, xs, hcs, by unfold maxLen at hmx; omega, hlen, fun x hm => ?_, fun hp => ?_⟩
    · obtain ⟨j, hj⟩ := List.mem_iff_getElem?.1 hm
      exact (hxs j x hj).2
    · obtain ⟨x0, hx0⟩ := at_of_lt hp
      have h0 := (hxs 0 x0 hx0).1
      obtain ⟨b, off, spot⟩ := a
      have hspot : spot = none := by simpa [Addr.add] using World.cell?_spot h0
      subst hspot
      have hadd : ∀ j, (⟨b, off, none⟩ : Addr).add j = ⟨b, off + j, none⟩ := fun j => by unfold Addr.add; by_cases hj : j = 0 <;> simp [hj]
      refine ⟨b, off, rfl, ?_, fun j x hj => ?_⟩
      · have := lt_of_cell h0
        rw [hadd] at this
        exact this
      · have := (hxs j x hj).1
        rw [hadd] at this
        exact this
theorem val_vec {f : α → Value} {Q : α → Prop} {t e : TypeId} (ht : P.underlying t = some (.slice e)) (ce : P.cellsOf e = 1)
    (hel : ∀ {n : Nat} {cs : List Value} {y : DataW H × List MemPlace}, DataW.trod enc P w base (fun _ => true) held n e cs = some y → ∃ x, cs = [f x] ∧ Q x)
    (hv : Value.okWide P w r b0 t v) (h : DataW.Trod enc P w base (fun _ => true) held t v d p) :
    ∃ (A : Option Addr) (n c : Nat) (xs : List α), v = .slice A n c ∧ n ≤ 9223372036854775807 ∧ xs.length = n ∧ (∀ x ∈ xs, Q x) ∧ SV f w w.heap.size A xs := by
  obtain ⟨A, n, c, rfl⟩ := okWide_slice ht hv
  obtain ⟨fuel, hf⟩ := h
  obtain ⟨A', n', c', xs, e1, h1, h2, h3, h4⟩ := open_vec ht ce hel hf
  simp [Value.cells] at e1
  obtain ⟨rfl, rfl, rfl⟩ := e1
  exact ⟨A, n, c, xs, rfl, h1, h2, h3, h4⟩
theorem el_int {n : Nat} {cs : List Value} {y : DataW H × List MemPlace} (h : DataW.trod enc Try.prog w base (fun _ => true) held n 2 cs = some y) : ∃ x : Int, cs = [.int .i64 x] ∧ I64 x := by
  obtain ⟨x, e, _, wx⟩ := DataW.trod_int Try.underlying2 h
  exact ⟨x, e, I64.mk (bd wx)⟩
theorem el_bool {n : Nat} {cs : List Value} {y : DataW H × List MemPlace} (h : DataW.trod enc Try.prog w base (fun _ => true) held n 4 cs = some y) : ∃ x : Bool, cs = [.bool x] ∧ True := by
  obtain ⟨x, e, _⟩ := DataW.trod_bool Try.underlying4 h
  exact ⟨x, e, trivial⟩
theorem open_ints' {n : Nat} {cs : List Value} {y : DataW H × List MemPlace} (h : DataW.trod enc Try.prog w base (fun _ => true) held n 31 cs = some y) : ∃ p : Option Addr × Nat × Nat, cs = [sl p] ∧ IsRow (Value.int .i64) I64 w p := by
  have ce : Try.prog.cellsOf 2 = 1 := by kernel_rfl
  obtain ⟨A, m, c, xs, e, h1, h2, h3, h4⟩ := open_vec (f := Value.int .i64) (Q := I64) Try.underlying31 ce el_int h
  exact ⟨(A, m, c), e, h1, xs, h2, h3, h4⟩
set_option maxRecDepth 20000 in
theorem val_ints (hv : Value.okWide Try.prog w r b0 31 v) (h : DataW.Trod enc Try.prog w base (fun _ => true) held 31 v d p) :
    ∃ (A : Option Addr) (n c : Nat) (xs : List Int), v = .slice A n c ∧ n ≤ 9223372036854775807 ∧ xs.length = n ∧ (∀ x ∈ xs, I64 x) ∧ SV (.int .i64) w w.heap.size A xs := by
  have ce : Try.prog.cellsOf 2 = 1 := by kernel_rfl
  exact val_vec (f := Value.int .i64) (Q := I64) Try.underlying31 ce el_int hv h
theorem open_bools {n : Nat} {cs : List Value} {y : DataW H × List MemPlace} (h : DataW.trod enc Try.prog w base (fun _ => true) held n 49 cs = some y) : ∃ p : Option Addr × Nat × Nat, cs = [sl p] ∧ IsRow Value.bool (fun _ => True) w p := by
  have ce : Try.prog.cellsOf 4 = 1 := by kernel_rfl
  obtain ⟨A, m, c, xs, e, h1, h2, h3, h4⟩ := open_vec (f := Value.bool) (Q := fun _ => True) Try.underlying49 ce el_bool h
  exact ⟨(A, m, c), e, h1, xs, h2, h3, h4⟩
set_option maxRecDepth 20000 in
theorem val_bools2 (hv : Value.okWide Try.prog w r b0 22 v) (h : DataW.Trod enc Try.prog w base (fun _ => true) held 22 v d p) :
    ∃ (A : Option Addr) (n c : Nat) (rs : List (Option Addr × Nat × Nat)), v = .slice A n c ∧ n ≤ 9223372036854775807 ∧ rs.length = n ∧ (∀ p ∈ rs, IsRow Value.bool (fun _ => True) w p) ∧ SV sl w w.heap.size A rs := by
  have ce : Try.prog.cellsOf 49 = 1 := by kernel_rfl
  exact val_vec (f := sl) (Q := IsRow Value.bool (fun _ => True) w) Try.underlying22 ce open_bools hv h
end
end Go.Proofs.Ytmgbbkglafnibaa
