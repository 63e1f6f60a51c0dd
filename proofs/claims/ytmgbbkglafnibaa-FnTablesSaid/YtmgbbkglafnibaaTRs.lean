/- A row appended to a table of new memory. -/
import Derived.Test.YtmgbbkglafnibaaTR
namespace Go.Proofs.Ytmgbbkglafnibaa
open Go.RowKit Go.Deep
section
variable {α : Type} {f : α → Value} {t ts e : TypeId} {w w' : World} {lo hi : Nat} {A : Option Addr} {c : Nat} {T : List (List α)}
theorem RS.blk {g : Nat} {xs : List α} (h : RS f e w lo hi (some ⟨g, 0, none⟩) c xs) : g < w.heap.size := by
  rcases h with ⟨h0, _⟩ | ⟨g', cur, h0, _, _, h3, _⟩
  · cases h0
  · simp only [Option.some.injEq, Addr.mk.injEq, and_true] at h0
    subst h0
    exact lt_of_block h3
theorem RS.tight {g : Nat} {xs : List α} (h : RS f e w lo hi (some ⟨g, 0, none⟩) c xs) : RS f e w g (g + 1) (some ⟨g, 0, none⟩) c xs := by
  rcases h with ⟨h0, _⟩ | ⟨g', cur, h0, _, _, h3, h4⟩
  · cases h0
  · simp only [Option.some.injEq, Addr.mk.injEq, and_true] at h0
    subst h0
    exact .inr ⟨g, cur, rfl, Nat.le_refl _, Nat.lt_succ_self _, h3, h4⟩
theorem rowsC_snoc {gs cs : List Nat} {g c : Nat} {bs : List α} (h1 : gs.length = T.length) (h2 : cs.length = T.length) : rowsC (gs ++ [g]) (cs ++ [c]) (T ++ [bs]) = rowsC gs cs T ++ [((some ⟨g, 0, none⟩ : Option Addr), bs.length, c)] := by
  unfold rowsC
  rw [List.zip_append (by omega), List.zipWith_append (by simp; omega)]
  rfl
theorem TR.outer (h : TR f t ts w lo hi A c T) : ∃ rs : List (Option Addr × Nat × Nat), rs.length = T.length ∧ RS sl ts w lo hi A c rs ∧ ∀ (w' : World) (A2 : Option Addr) (c2 gr cr : Nat) (bs : List α),
    RS f t w gr (gr + 1) (some ⟨gr, 0, none⟩) cr bs → hi ≤ gr → lo ≤ gr → lo ≤ w.heap.size → w.grownBy w' (A.map (·.block)) → (A2 = A ∨ A2 = some ⟨w.heap.size, 0, none⟩) →
    RS sl ts w' lo w'.heap.size A2 c2 (rs ++ [((some ⟨gr, 0, none⟩ : Option Addr), bs.length, cr)]) → TR f t ts w' lo w'.heap.size A2 c2 (T ++ [bs]) := by
  rcases h with ⟨rfl, rfl, rfl⟩ | ⟨g, gs, cs, rfl, h1, h2, h3, h4, h5, h6, h7⟩
  · refine ⟨[], rfl, RS.nil, fun w' A2 c2 gr cr bs hr hhi hlr hlo hg hb h2 => ?_⟩
    obtain ⟨g2, rfl, hg1, hg2, _⟩ := h2.isAt (by simp)
    have hgr := hr.blk
    have e2 : g2 = w.heap.size := by
      rcases hb with hb | hb
      · cases hb
      · simp only [Option.some.injEq, Addr.mk.injEq, and_true] at hb; exact hb
    refine .inr ⟨g2, [gr], [cr], rfl, rfl, rfl, h2.tight, fun j gj cj bj a1 a2 a3 => ?_, ⟨hg1, hg2⟩, fun j gj hj => ?_, by simp⟩
    · match j, a1, a2, a3 with
      | 0, a1, a2, a3 =>
        simp at a1 a2 a3
        subst a1; subst a2; subst a3
        exact hr.keep fun b hb _ _ => hg.block b hb (by simp)
      | j + 1, a1, _, _ => simp at a1
    · match j, hj with
      | 0, hj =>
        simp at hj
        subst hj
        have := hg.size
        exact ⟨hlr, by omega, by omega⟩
      | j + 1, hj => simp at hj
  · refine ⟨rowsC gs cs T, rowsC_len h1 h2, h3.wide h5.1 (by omega), fun w' A2 c2 gr cr bs hr hhi hlr hlo hg hb h2' => ?_⟩
    obtain ⟨g2, rfl, hg1, hg2, _⟩ := h2'.isAt (by simp)
    have hgr := hr.blk
    have hgw := h3.blk
    have hsz := hg.size
    have e2 : g2 = g ∨ g2 = w.heap.size := by
      rcases hb with hb | hb
      · simp only [Option.some.injEq, Addr.mk.injEq, and_true] at hb; exact .inl hb
      · simp only [Option.some.injEq, Addr.mk.injEq, and_true] at hb; exact .inr hb
    have hjw : ∀ (j gj : Nat), gs[j]? = some gj → gj < w.heap.size := fun j gj hj => by
      have hl := lt_of_at hj
      obtain ⟨cj, a2⟩ := at_of_lt (xs := cs) (k := j) (by omega)
      obtain ⟨bj, a3⟩ := at_of_lt (xs := T) (k := j) (by omega)
      exact (h4 j gj cj bj hj a2 a3).blk
    refine .inr ⟨g2, gs ++ [gr], cs ++ [cr], rfl, by simp [h1], by simp [h2], by rw [rowsC_snoc h1 h2]; exact h2'.tight, fun j gj cj bj a1 a2 a3 => ?_, ⟨hg1, hg2⟩, fun j gj hj => ?_, ?_⟩
    · rw [List.getElem?_append] at a1 a2 a3
      by_cases hj : j < T.length
      · rw [if_pos (by omega)] at a1 a2
        rw [if_pos hj] at a3
        have h6j := h6 j gj a1
        exact (h4 j gj cj bj a1 a2 a3).keep fun b hb hb1 hb2 => hg.block b hb (by simp; omega)
      · rw [if_neg (by omega)] at a1 a2
        rw [if_neg hj] at a3
        have e0 : j - T.length = 0 := by
          rcases Nat.lt_or_ge (j - T.length) 1 with h8 | h8
          · omega
          · rw [List.getElem?_eq_none (by simpa using h8)] at a3; cases a3
        rw [h1, e0] at a1
        rw [h2, e0] at a2
        rw [e0] at a3
        simp at a1 a2 a3
        subst a1; subst a2; subst a3
        exact hr.keep fun b hb hb1 hb2 => hg.block b hb (by simp; omega)
    · rw [List.getElem?_append] at hj
      by_cases hl : j < gs.length
      · rw [if_pos hl] at hj
        have := h6 j gj hj
        have := hjw j gj hj
        exact ⟨by omega, by omega, by omega⟩
      · rw [if_neg hl] at hj
        have e0 : j - gs.length = 0 := by
          rcases Nat.lt_or_ge (j - gs.length) 1 with h8 | h8
          · omega
          · rw [List.getElem?_eq_none (by simpa using h8)] at hj; cases hj
        rw [e0] at hj
        simp at hj
        subst hj
        exact ⟨hlr, by omega, by omega⟩
    · rw [List.nodup_append]
      refine ⟨h7, by simp, fun x hx y hy => ?_⟩
      simp at hy
      subst hy
      obtain ⟨j, hj⟩ := List.mem_iff_getElem?.1 hx
      have := h6 j x hj
      omega
end
end Go.Proofs.Ytmgbbkglafnibaa
