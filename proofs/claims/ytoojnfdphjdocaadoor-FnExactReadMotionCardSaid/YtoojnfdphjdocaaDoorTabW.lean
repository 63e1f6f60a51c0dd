/- Words for tables: slices of slices that read as lists of lists; tables of new memory. -/
import Derived.Test.YtoojnfdphjdocaaDoorVec
import Derived.Test.YtoojnfdphjdocaaDoorBase
namespace Go.Proofs.YtoojnfdphjdocaaDoor
open Go.RowKit Go.Deep
section
variable {α : Type} {f : α → Value} {w w' : World} {B B' : Nat} {A : Option Addr} {T : List (List α)}
/-- the slice of slices at A reads as T, below block B -/
def TB (f : α → Value) (w : World) (B : Nat) (A : Option Addr) (T : List (List α)) : Prop := ∃ rs, SV sl w B A rs ∧ Rows f w B rs T
theorem TB.below (h : TB f w B A T) (hb : Below B w w') : TB f w' B A T := h.imp fun _ h => ⟨h.1.below hb, h.2.below hb⟩
theorem TB.more (h : TB f w B A T) (hB : B ≤ B') : TB f w B' A T := h.imp fun _ h => ⟨h.1.more hB, h.2.more hB⟩
theorem TB.row (h : TB f w B A T) {k : Nat} {bs : List α} (hk : T[k]? = some bs) :
    ∃ b off A' c, A = some ⟨b, off, none⟩ ∧ b < B ∧ w.cell? ⟨b, off + k, none⟩ = some (.slice A' bs.length c) ∧ SV f w B A' bs := by
  obtain ⟨rs, h1, h2⟩ := h
  have hl : k < rs.length := by rw [h2.1]; exact lt_of_at hk
  obtain ⟨p, hp⟩ := at_of_lt hl
  obtain ⟨b, off, e, hB, hc⟩ := h1 (by omega)
  obtain ⟨e1, h3⟩ := h2.2 k p bs hp hk
  refine ⟨b, off, p.1, p.2.2, e, hB, ?_, h3⟩
  rw [hc k p hp, ← e1]; rfl
theorem SV.at_ {xs : List α} (h : SV f w B A xs) {k : Nat} {x : α} (hk : xs[k]? = some x) : ∃ b off, A = some ⟨b, off, none⟩ ∧ b < B ∧ w.cell? ⟨b, off + k, none⟩ = some (f x) := by
  have hl := lt_of_at hk
  obtain ⟨b, off, e, hB, hc⟩ := h (by omega)
  exact ⟨b, off, e, hB, hc k x hk⟩
/-- the slices at the heads of the blocks gs -/
def rowsOf (gs : List Nat) (T : List (List α)) : List (Option Addr × Nat × Nat) := List.zipWith (fun (g : Nat) (bs : List α) => ((some ⟨g, 0, none⟩ : Option Addr), bs.length, bs.length)) gs T
theorem rowsOf_snoc {gs : List Nat} {T : List (List α)} {g : Nat} {bs : List α} (h : gs.length = T.length) : rowsOf (gs ++ [g]) (T ++ [bs]) = rowsOf gs T ++ [((some ⟨g, 0, none⟩ : Option Addr), bs.length, bs.length)] := by
  unfold rowsOf
  rw [List.zipWith_append h]
  rfl
theorem rowsOf_len {gs : List Nat} {T : List (List α)} (h : gs.length = T.length) : (rowsOf gs T).length = T.length := by unfold rowsOf; simp [h]
/-- rows of new memory: each in a block of its own, the later ones behind the earlier ones, all behind block g -/
def Fr (f : α → Value) (t : Nat) (w : World) (g : Nat) (gs : List Nat) (T : List (List α)) : Prop :=
  gs.length = T.length ∧ (∀ (j : Nat) gj bs, gs[j]? = some gj → T[j]? = some bs → BV f w gj t bs ∧ g < gj) ∧ gs.Pairwise (· < ·)
theorem Fr.nil {t g : Nat} : Fr f t w g [] ([] : List (List α)) := ⟨rfl, fun j gj bs h _ => by simp at h, List.Pairwise.nil⟩
theorem Fr.keep {t g : Nat} {gs : List Nat} (h : Fr f t w g gs T) (hk : ∀ b, g < b → b < w.heap.size → w'.heap[b]? = w.heap[b]?) : Fr f t w' g gs T :=
  ⟨h.1, fun j gj bs h1 h2 => ⟨(hk gj (h.2.1 j gj bs h1 h2).2 (h.2.1 j gj bs h1 h2).1.lt).trans (h.2.1 j gj bs h1 h2).1, (h.2.1 j gj bs h1 h2).2⟩, h.2.2⟩
theorem Fr.late {t g : Nat} {gs : List Nat} (h : Fr f t w g gs T) (hb : Below w.heap.size w w') : Fr f t w' g gs T := h.keep fun b _ hl => hb.block b hl
theorem Fr.far {t g : Nat} {gs : List Nat} (h : Fr f t w g gs T) (j : Nat) (u : Value) : Fr f t (w.setCell ⟨g, j, none⟩ u) g gs T := h.keep fun b hg _ => Below.heap_setCell w ⟨g, j, none⟩ u b (by simp; omega)
theorem Fr.snoc {t g g' : Nat} {gs : List Nat} {bs : List α} (h : Fr f t w g gs T) (hb : Below w.heap.size w w') (hn : BV f w' g' t bs) (hg : w.heap.size ≤ g') (hgw : g < w.heap.size) : Fr f t w' g (gs ++ [g']) (T ++ [bs]) := by
  have h' := h.late hb
  refine ⟨by simp [h.1], fun j gj bs' h1 h2 => ?_, ?_⟩
  · rw [List.getElem?_append] at h1 h2
    by_cases hj : j < gs.length
    · rw [if_pos hj] at h1
      rw [if_pos (by rw [← h.1]; exact hj)] at h2
      exact h'.2.1 j gj bs' h1 h2
    · rw [if_neg hj] at h1
      rw [if_neg (by rw [← h.1]; exact hj)] at h2
      have e : j - gs.length = 0 := by
        rcases Nat.lt_or_ge (j - gs.length) 1 with h3 | h3
        · omega
        · rw [List.getElem?_eq_none (by simp; omega)] at h1; cases h1
      have e2 : j - T.length = 0 := by rw [← h.1]; exact e
      rw [e] at h1
      rw [e2] at h2
      simp only [List.getElem?_cons_zero, Option.some.injEq] at h1 h2
      subst h1; subst h2
      exact ⟨hn, by omega⟩
  · rw [List.pairwise_append]
    refine ⟨h.2.2, List.pairwise_singleton _ _, fun a ha b hb' => ?_⟩
    simp only [List.mem_singleton] at hb'
    subst hb'
    obtain ⟨j, hj⟩ := List.mem_iff_getElem?.1 ha
    obtain ⟨bs', hj2⟩ := at_of_lt (xs := T) (k := j) (by rw [← h.1]; exact lt_of_at hj)
    have := (h.2.1 j a bs' hj hj2).1.lt
    omega
/-- a table of new memory: its slices in block g, its rows behind -/
def FT (f : α → Value) (t ts : Nat) (w : World) (g : Nat) (T : List (List α)) : Prop := ∃ gs, Fr f t w g gs T ∧ BV sl w g ts (rowsOf gs T)
theorem FT.late {t ts g : Nat} (h : FT f t ts w g T) (hb : Below w.heap.size w w') : FT f t ts w' g T := h.imp fun _ h => ⟨h.1.late hb, h.2.late hb⟩
theorem FT.tb {t ts g : Nat} (h : FT f t ts w g T) : TB f w w.heap.size (some ⟨g, 0, none⟩) T := by
  obtain ⟨gs, h1, h2⟩ := h
  refine ⟨_, h2.sv h2.lt, by rw [rowsOf_len h1.1], fun j p bs hp hb => ?_⟩
  have hj : j < gs.length := by rw [h1.1]; exact lt_of_at hb
  obtain ⟨gj, hg⟩ := at_of_lt hj
  have hq : (rowsOf gs T)[j]? = some ((some ⟨gj, 0, none⟩ : Option Addr), bs.length, bs.length) := by unfold rowsOf; rw [List.getElem?_zipWith, hg, hb]
  rw [hq] at hp
  have e := Option.some.inj hp
  subst e
  have hv := (h1.2.1 j gj bs hg hb).1
  exact ⟨rfl, hv.sv hv.lt⟩
/-- at most so many -/
def Sizes (T : List (List α)) : Prop := T.length ≤ 1048576 ∧ ∀ (j : Nat) bs, T[j]? = some bs → bs.length ≤ 1048576
/-- the size is told; -1 where it is too great -/
def SzOk (T : List (List α)) (w : World) (e : Ending) (w' : World) : Prop := ∃ r : Int, e = .returned (.int .i64 r) ∧ w = w' ∧ r ≤ 1048576 ∧ (0 ≤ r → Sizes T)
/-- somewhere behind some draws -/
def RetDrew (v : Value) (w : World) (e : Ending) (w' : World) : Prop := e = .returned v ∧ ∃ q, w' = w.drewN q
theorem TB_of {A : Option Addr} {Q : α → Prop} {rs : List (Option Addr × Nat × Nat)} (h : ∀ p ∈ rs, IsRow f Q w p) (hs : SV sl w w.heap.size A rs) :
    ∃ T : List (List α), T.length = rs.length ∧ (∀ (j : Nat) bs, T[j]? = some bs → bs.length ≤ 9223372036854775807 ∧ ∀ x ∈ bs, Q x) ∧ TB f w w.heap.size A T := by
  have key : ∀ rs : List (Option Addr × Nat × Nat), (∀ p ∈ rs, IsRow f Q w p) → ∃ T : List (List α), (∀ (j : Nat) bs, T[j]? = some bs → bs.length ≤ 9223372036854775807 ∧ ∀ x ∈ bs, Q x) ∧ Rows f w w.heap.size rs T := by
    intro rs
    induction rs with
    | nil => exact fun _ => ⟨[], fun j bs h => by simp at h, rfl, fun j p bs h => by simp at h⟩
    | cons p rs ih =>
      intro h
      obtain ⟨T, h1, h2⟩ := ih fun q hq => h q (by simp [hq])
      obtain ⟨hp, bs, h3, h4, h5⟩ := h p (by simp)
      refine ⟨bs :: T, fun j bs' hj => ?_, by simp [h2.1], fun j q bs' hq hb => ?_⟩
      · cases j with
        | zero => simp at hj; subst hj; exact ⟨by omega, h4⟩
        | succ j => exact h1 j bs' (by simpa using hj)
      · cases j with
        | zero => simp at hq hb; subst hq; subst hb; exact ⟨h3.symm, h5⟩
        | succ j => exact h2.2 j q bs' (by simpa using hq) (by simpa using hb)
  obtain ⟨T, h1, h2⟩ := key rs h
  exact ⟨T, h2.1.symm, h1, rs, hs, h2⟩
end
end Go.Proofs.YtoojnfdphjdocaaDoor
