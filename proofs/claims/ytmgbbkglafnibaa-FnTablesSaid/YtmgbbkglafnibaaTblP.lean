/- The plain law of tables: free and blocked directions and numbers of conflicts are those of the table. -/
import Derived.Test.YtmgbbkglafnibaaTabC
import Derived.Test.YtmgbbkglafnibaaTl
namespace Go.Proofs.Ytmgbbkglafnibaa
open Go.RowKit
theorem mem_fr {bs : List Bool} : ∀ {n : Nat}, n ≤ bs.length → ∀ m : Nat, ((m : Int) ∈ fr bs n ↔ m < n ∧ bs.getD m false = false)
  | 0, _, m => by simp [fr]
  | n + 1, h, m => by
    have ih := mem_fr (bs := bs) (n := n) (by omega) m
    unfold fr
    rw [List.mem_append, ih]
    cases hb : bs.getD n false with
    | true =>
      simp only [if_true, List.not_mem_nil, or_false]
      constructor
      · intro ⟨h1, h2⟩; exact ⟨by omega, h2⟩
      · intro ⟨h1, h2⟩
        refine ⟨?_, h2⟩
        rcases Nat.lt_or_ge m n with h3 | h3
        · exact h3
        · have : m = n := by omega
          subst this; rw [hb] at h2; cases h2
    | false =>
      simp only [Bool.false_eq_true, if_false, List.mem_singleton]
      constructor
      · rintro (⟨h1, h2⟩ | h1)
        · exact ⟨by omega, h2⟩
        · have : m = n := by omega
          subst this; exact ⟨by omega, hb⟩
      · intro ⟨h1, h2⟩
        rcases Nat.lt_or_ge m n with h3 | h3
        · exact .inl ⟨h3, h2⟩
        · exact .inr (by have : m = n := by omega
                         rw [this])
theorem fr_cnt {bs : List Bool} : ∀ k : Nat, k ≤ bs.length → ((fr bs k).length : Int) + cntR bs k = k
  | 0, _ => by simp [fr, cntR]
  | k + 1, h => by
    obtain ⟨x, hx⟩ := at_of_lt (xs := bs) (k := k) (by omega)
    have ih := fr_cnt (bs := bs) k (by omega)
    rw [fr_step hx, cntR_step hx, List.length_append]
    cases x
    · rw [show (if false = true then ([] : List Int) else [(k : Int)]).length = 1 from rfl, show (if false = true then (1 : Int) else 0) = 0 from rfl]
      omega
    · rw [show (if true = true then ([] : List Int) else [(k : Int)]).length = 0 from rfl, show (if true = true then (1 : Int) else 0) = 1 from rfl]
      omega
theorem all_id {bs : List Bool} : bs.all id = true ↔ ∀ m, m < bs.length → bs.getD m false = true := by
  rw [List.all_eq_true]
  constructor
  · intro h m hm
    obtain ⟨x, hx⟩ := at_of_lt hm
    have := h x (List.mem_of_getElem? hx)
    rw [List.getD_eq_getElem?_getD, hx]
    exact this
  · intro h x hx
    obtain ⟨m, hm, e⟩ := List.getElem_of_mem hx
    have := h m hm
    rw [List.getD_eq_getElem?_getD, List.getElem?_eq_getElem hm, e] at this
    exact this
theorem mem_blk {T : List (List Bool)} : ∀ (n m : Nat), ((m : Int) ∈ blk T n ↔ m < n ∧ (T.getD m []).all id = true)
  | 0, m => by simp [blk]
  | n + 1, m => by
    have ih := mem_blk (T := T) n m
    unfold blk
    rw [List.mem_append, ih]
    by_cases hb : (T.getD n []).all id = true
    · rw [if_pos hb, List.mem_singleton]
      constructor
      · rintro (⟨h1, h2⟩ | h1)
        · exact ⟨by omega, h2⟩
        · have : m = n := by omega
          subst this; exact ⟨by omega, hb⟩
      · intro ⟨h1, h2⟩
        rcases Nat.lt_or_ge m n with h3 | h3
        · exact .inl ⟨h3, h2⟩
        · exact .inr (by have : m = n := by omega
                         rw [this])
    · rw [if_neg hb]
      simp only [List.not_mem_nil, or_false]
      constructor
      · intro ⟨h1, h2⟩; exact ⟨by omega, h2⟩
      · intro ⟨h1, h2⟩
        rcases Nat.lt_or_ge m n with h3 | h3
        · exact ⟨h3, h2⟩
        · have : m = n := by omega
          subst this; exact absurd h2 hb
/-- a direction is blocked if and only if none is free -/
theorem blk_free {T : List (List Bool)} {k : Nat} {bs : List Bool} (hk : k < 24) (hT : T[k]? = some bs) (hl : bs.length = 24) : decide ((k : Int) ∈ blk T 24) = (((fr bs 24).length : Int) == 0) := by
  have e : T.getD k [] = bs := by rw [List.getD_eq_getElem?_getD, hT]; rfl
  have h1 := mem_blk (T := T) 24 k
  rw [e] at h1
  have h2 : bs.all id = true ↔ fr bs 24 = [] := by
    rw [all_id]
    constructor
    · intro h
      rw [List.eq_nil_iff_forall_not_mem]
      intro x hx
      have hx0 : ∃ m : Nat, x = (m : Int) := by
        clear h h1
        revert hx
        generalize 24 = n
        induction n with
        | zero => intro hx; cases hx
        | succ n ih =>
          intro hx
          unfold fr at hx
          rcases List.mem_append.1 hx with h | h
          · exact ih h
          · split at h
            · cases h
            · exact ⟨n, List.mem_singleton.1 h⟩
      obtain ⟨m, rfl⟩ := hx0
      obtain ⟨h3, h4⟩ := (mem_fr (bs := bs) (n := 24) (by omega) m).1 hx
      rw [h m (by omega)] at h4
      cases h4
    · intro h m hm
      cases hb : bs.getD m false with
      | true => rfl
      | false =>
        have := (mem_fr (bs := bs) (n := 24) (by omega) m).2 ⟨by omega, hb⟩
        rw [h] at this
        cases this
  rw [Bool.eq_iff_iff, decide_eq_true_eq, h1, beq_iff_eq]
  constructor
  · intro ⟨_, h3⟩; rw [h2.1 h3]; rfl
  · intro h3; exact ⟨hk, h2.2 (List.length_eq_zero_iff.1 (by omega))⟩
theorem has_free {bs : List Bool} {m : Nat} (hm : m < 24) (hl : bs.length = 24) : decide ((m : Int) ∈ fr bs 24) = !(bs.getD m false) := by
  rw [Bool.eq_iff_iff, decide_eq_true_eq, mem_fr (by omega)]
  cases bs.getD m false <;> simp [hm]
end Go.Proofs.Ytmgbbkglafnibaa
