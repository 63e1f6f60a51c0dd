/- Tables of new memory whose rows lie in blocks of their own: written row by row. -/
import Derived.Test.YtmgbbkglafnibaaApp
namespace Go.Proofs.Ytmgbbkglafnibaa
open Go.RowKit Go.Deep
section
variable {α : Type} {f : α → Value} {t ts : TypeId} {w w' : World} {lo hi lo' hi' : Nat} {A : Option Addr} {c : Nat} {T : List (List α)}
theorem Sizes.rows (h : Sizes T) : ∀ (j : Nat) bs, T[j]? = some bs → bs.length ≤ 1048576 := h.2
/-- the rows' slices: blocks gs, rooms cs -/
def rowsC (gs cs : List Nat) (T : List (List α)) : List (Option Addr × Nat × Nat) := List.zipWith (fun (p : Nat × Nat) (bs : List α) => ((some ⟨p.1, 0, none⟩ : Option Addr), bs.length, p.2)) (gs.zip cs) T
theorem rowsC_len {gs cs : List Nat} (h : gs.length = T.length) (h2 : cs.length = T.length) : (rowsC gs cs T).length = T.length := by unfold rowsC; simp [h, h2]
theorem rowsC_at {gs cs : List Nat} {k g c : Nat} {bs : List α} (h1 : gs[k]? = some g) (h2 : cs[k]? = some c) (h3 : T[k]? = some bs) : (rowsC gs cs T)[k]? = some ((some ⟨g, 0, none⟩ : Option Addr), bs.length, c) := by
  unfold rowsC
  rw [List.getElem?_zipWith]
  have : (gs.zip cs)[k]? = some (g, c) := by rw [List.getElem?_zip_eq_some]; exact ⟨h1, h2⟩
  rw [this, h3]
/-- a table of new memory: nil, or its slices at the head of block g, each row in a block of its own -/
def TR (f : α → Value) (t ts : TypeId) (w : World) (lo hi : Nat) (A : Option Addr) (c : Nat) (T : List (List α)) : Prop :=
  (A = none ∧ c = 0 ∧ T = []) ∨ ∃ (g : Nat) (gs cs : List Nat), A = some ⟨g, 0, none⟩ ∧ gs.length = T.length ∧ cs.length = T.length ∧ RS sl ts w g (g + 1) A c (rowsC gs cs T) ∧
    (∀ (j gj cj : Nat) bs, gs[j]? = some gj → cs[j]? = some cj → T[j]? = some bs → RS f t w gj (gj + 1) (some ⟨gj, 0, none⟩) cj bs) ∧
    (lo ≤ g ∧ g < hi) ∧ (∀ (j gj : Nat), gs[j]? = some gj → lo ≤ gj ∧ gj < hi ∧ gj ≠ g) ∧ gs.Nodup
theorem TR.nil : TR f t ts w lo hi none 0 ([] : List (List α)) := .inl ⟨rfl, rfl, rfl⟩
theorem TR.keep (h : TR f t ts w lo hi A c T) (hk : ∀ b, b < w.heap.size → lo ≤ b → b < hi → w'.heap[b]? = w.heap[b]?) : TR f t ts w' lo hi A c T := by
  rcases h with h | ⟨g, gs, cs, h0, h1, h2, h3, h4, h5, h6, h7⟩
  · exact .inl h
  · refine .inr ⟨g, gs, cs, h0, h1, h2, h3.keep fun b hb hb1 hb2 => hk b hb (by omega) (by omega), fun j gj cj bs a1 a2 a3 => (h4 j gj cj bs a1 a2 a3).keep fun b hb hb1 hb2 => ?_, h5, h6, h7⟩
    have := h6 j gj a1
    exact hk b hb (by omega) (by omega)
theorem TR.late (h : TR f t ts w lo hi A c T) (hb : Below w.heap.size w w') : TR f t ts w' lo hi A c T := h.keep fun b hb' _ _ => hb.block b hb'
theorem TR.only (h : TR f t ts w lo hi A c T) (hb : Only lo' hi' w w') (hd : hi ≤ lo' ∨ hi' ≤ lo) : TR f t ts w' lo hi A c T := h.keep fun b hb' h1 h2 => hb.block b hb' (by omega)
theorem TR.wide (h : TR f t ts w lo hi A c T) (h1 : lo' ≤ lo) (h2 : hi ≤ hi') : TR f t ts w lo' hi' A c T := by
  rcases h with h | ⟨g, gs, cs, h0, a1, a2, h3, h4, h5, h6, h7⟩
  · exact .inl h
  · exact .inr ⟨g, gs, cs, h0, a1, a2, h3, h4, by omega, fun j gj hj => by have := h6 j gj hj; omega, h7⟩
theorem TR.row (h : TR f t ts w lo hi A c T) {k : Nat} {bs : List α} (hk : T[k]? = some bs) : ∃ g gk ck, A = some ⟨g, 0, none⟩ ∧ w.cell? ⟨g, k, none⟩ = some (.slice (some ⟨gk, 0, none⟩) bs.length ck) ∧
    RS f t w gk (gk + 1) (some ⟨gk, 0, none⟩) ck bs ∧ lo ≤ gk ∧ gk < hi ∧ ∀ (w' : World) (bs' : List α), Only gk (gk + 1) w w' → RS f t w' gk (gk + 1) (some ⟨gk, 0, none⟩) ck bs' → bs'.length = bs.length → TR f t ts w' lo hi A c (T.set k bs') := by
  rcases h with ⟨_, _, rfl⟩ | ⟨g, gs, cs, rfl, h1, h2, h3, h4, h5, h6, h7⟩
  · simp at hk
  · have hl := lt_of_at hk
    obtain ⟨gk, hgk⟩ := at_of_lt (xs := gs) (k := k) (by omega)
    obtain ⟨ck, hck⟩ := at_of_lt (xs := cs) (k := k) (by omega)
    have hr := rowsC_at hgk hck hk
    obtain ⟨g', e0, _, _, _, hc, _⟩ := h3.cellAt hr
    simp only [Option.some.injEq, Addr.mk.injEq, and_true] at e0
    subst e0
    have h6k := h6 k gk hgk
    refine ⟨g, gk, ck, rfl, hc, h4 k gk ck bs hgk hck hk, h6k.1, h6k.2.1, fun w' bs' ho hrs hl' => .inr ⟨g, gs, cs, rfl, by simpa using h1, by simpa using h2, ?_, ?_, h5, h6, h7⟩⟩
    · have e1 : rowsC gs cs (T.set k bs') = rowsC gs cs T := by
        apply List.ext_getElem?
        intro j
        by_cases hj : j < T.length
        · obtain ⟨gj, a1⟩ := at_of_lt (xs := gs) (k := j) (by omega)
          obtain ⟨cj, a2⟩ := at_of_lt (xs := cs) (k := j) (by omega)
          obtain ⟨bj, a3⟩ := at_of_lt hj
          rw [rowsC_at a1 a2 a3]
          by_cases e : k = j
          · subst e
            rw [hk] at a3; cases a3
            rw [rowsC_at a1 a2 (bs := bs') (by rw [List.getElem?_set, if_pos rfl, if_pos hj]), hl']
          · rw [rowsC_at a1 a2 (bs := bj) (by rw [List.getElem?_set, if_neg e]; exact a3)]
        · rw [List.getElem?_eq_none (by rw [rowsC_len (by simpa using h1) (by simpa using h2)]; simp; omega), List.getElem?_eq_none (by rw [rowsC_len h1 h2]; omega)]
      rw [e1]
      exact h3.only ho (by omega)
    · intro j gj cj bj a1 a2 a3
      by_cases e : k = j
      · subst e
        rw [List.getElem?_set, if_pos rfl, if_pos hl] at a3
        cases a3
        rw [hgk] at a1; cases a1
        rw [hck] at a2; cases a2
        exact hrs
      · rw [List.getElem?_set, if_neg e] at a3
        have hne : gj ≠ gk := by
          intro e2
          subst e2
          have p1 := (List.getElem?_eq_some_iff.1 hgk)
          have p2 := (List.getElem?_eq_some_iff.1 a1)
          obtain ⟨l1, p1⟩ := p1
          obtain ⟨l2, p2⟩ := p2
          have key := List.pairwise_iff_getElem.1 h7
          rcases Nat.lt_or_gt_of_ne e with hlt | hlt
          · exact key k j l1 l2 hlt (p1.trans p2.symm)
          · exact key j k l2 l1 hlt (p2.trans p1.symm)
        exact (h4 j gj cj bj a1 a2 a3).only ho (by omega)
theorem TR.tb (h : TR f t ts w lo hi A c T) : TB f w w.heap.size A T := by
  rcases h with ⟨rfl, rfl, rfl⟩ | ⟨g, gs, cs, rfl, h1, h2, h3, h4, h5, h6, h7⟩
  · exact ⟨[], SV.nil, rfl, fun j p bs hp _ => by simp at hp⟩
  · refine ⟨_, h3.sv, rowsC_len h1 h2, fun j p bs hp hb => ?_⟩
    have hl := lt_of_at hb
    obtain ⟨gj, a1⟩ := at_of_lt (xs := gs) (k := j) (by omega)
    obtain ⟨cj, a2⟩ := at_of_lt (xs := cs) (k := j) (by omega)
    rw [rowsC_at a1 a2 hb] at hp
    cases hp
    exact ⟨rfl, (h4 j gj cj bs a1 a2 hb).sv⟩
theorem TR.of_ft {g : Nat} (h : FT f t ts w g T) (hT : Sizes T) : TR f t ts w g w.heap.size (some ⟨g, 0, none⟩) T.length T := by
  obtain ⟨gs, hf, hb⟩ := h
  have hlen := hf.1
  refine .inr ⟨g, gs, T.map List.length, rfl, hlen, by simp, ?_, fun j gj cj bs a1 a2 a3 => ?_, ⟨Nat.le_refl _, hb.lt⟩, fun j gj hj => ?_, ?_⟩
  · have e1 : rowsC gs (T.map List.length) T = rowsOf gs T := by
      apply List.ext_getElem?
      intro j
      by_cases hj : j < T.length
      · obtain ⟨gj, a1⟩ := at_of_lt (xs := gs) (k := j) (by omega)
        obtain ⟨bj, a3⟩ := at_of_lt hj
        rw [rowsC_at a1 (c := bj.length) (by rw [List.getElem?_map, a3]; rfl) a3]
        unfold rowsOf
        rw [List.getElem?_zipWith, a1, a3]
      · rw [List.getElem?_eq_none (by rw [rowsC_len hlen (by simp)]; omega), List.getElem?_eq_none (by rw [rowsOf_len hlen]; omega)]
    have h2 := RS.of_bv (lo := g) (hi := g + 1) hb (Nat.le_refl _) (Nat.lt_succ_self _) (by rw [rowsOf_len hlen]; have := hT.1; unfold maxLen; omega)
    rw [rowsOf_len hlen] at h2
    rw [e1]
    exact h2
  · rw [List.getElem?_map, a3] at a2
    simp only [Option.map_some, Option.some.injEq] at a2
    subst a2
    have h3 := hf.2.1 j gj bs a1 a3
    exact RS.of_bv h3.1 (Nat.le_refl _) (Nat.lt_succ_self _) (by have := hT.2 j bs a3; unfold maxLen; omega)
  · obtain ⟨bs, a3⟩ := at_of_lt (xs := T) (k := j) (by rw [← hlen]; exact lt_of_at hj)
    have h3 := hf.2.1 j gj bs hj a3
    exact ⟨by omega, h3.1.lt, by omega⟩
  · exact hf.2.2.imp (fun h => Nat.ne_of_lt h)
end
end Go.Proofs.Ytmgbbkglafnibaa
