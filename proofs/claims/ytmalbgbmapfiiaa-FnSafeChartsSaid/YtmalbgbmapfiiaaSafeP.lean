/- Plain law of the safe chart: its radii are those of the chart, its loads are not greater, and with each the base is stable. No program in sight. -/
import Derived.Test.YtmalbgbmapfiiaaSc
import Derived.Test.YtmalbgbmapfiiaaChSrc
namespace Go.Proofs.Ytmalbgbmapfiiaa
open Go.RowKit Go.Deep
theorem minI_l (a b : Int) : minI a b ≤ a := by unfold minI; split <;> omega
theorem minI_r (a b : Int) : minI a b ≤ b := by unfold minI; split <;> omega
theorem minI_nn {a b : Int} (h : 0 ≤ a) (h1 : 0 ≤ b) : 0 ≤ minI a b := by unfold minI; split <;> omega
theorem scStep_some {P : Int → Int → Bool} {zs : List Int} {k : Nat} {bf ld : Int} (h : scStep P zs k bf = some ld) (hb : 0 ≤ bf) (hL : 0 ≤ ldC zs k) : P (rdC zs k) ld = true ∧ 0 ≤ ld ∧ ld ≤ ldC zs k ∧ ld ≤ bf := by
  unfold scStep at h
  by_cases h1 : glF (P (rdC zs k)) 1001 < 0
  · rw [if_pos h1] at h; cases h
  · rw [if_neg h1] at h
    by_cases h2 : P (rdC zs k) (minI (minI (glF (P (rdC zs k)) 1001) (ldC zs k)) bf) = true
    · rw [if_pos h2] at h
      cases h
      exact ⟨h2, minI_nn (minI_nn (by omega) hL) hb, Int.le_trans (minI_l _ _) (minI_r _ _), minI_r _ _⟩
    · rw [if_neg h2] at h; cases h
/-- o holds the first k steps of a safe chart, the last of them with the load bf -/
def Safe (P : Int → Int → Bool) (zs o : List Int) (k : Nat) (bf : Int) : Prop :=
  o.length = k * 2 ∧ (∀ i, i < k → rdC o i = rdC zs i ∧ (0 ≤ ldC o i ∧ ldC o i ≤ ldC zs i) ∧ P (rdC zs i) (ldC o i) = true) ∧ (∀ i, i + 1 < k → ldC o (i + 1) ≤ ldC o i) ∧ (0 < k → ldC o (k - 1) = bf) ∧ 0 ≤ bf
theorem Safe.step {P : Int → Int → Bool} {zs o : List Int} {k : Nat} {bf ld : Int} (h : Safe P zs o k bf) (hL : 0 ≤ ldC zs k) (hs : scStep P zs k bf = some ld) : Safe P zs (o ++ [rdC zs k, ld]) (k + 1) ld := by
  obtain ⟨h1, h2, h3, h4, h5⟩ := h
  obtain ⟨q1, q2, q3, q4⟩ := scStep_some hs h5 hL
  refine ⟨by simp [h1]; omega, fun i hi => ?_, fun i hi => ?_, fun _ => ?_, q2⟩
  · by_cases hik : i = k
    · subst hik
      rw [rdC_new _ _ h1, ldC_new _ _ h1]
      exact ⟨rfl, ⟨q2, q3⟩, q1⟩
    · rw [rdC_lt _ _ h1 (by omega), ldC_lt _ _ h1 (by omega)]
      exact h2 i (by omega)
  · by_cases hik : i + 1 = k
    · rw [hik, ldC_new _ _ h1, ldC_lt _ _ h1 (by omega)]
      have := h4 (by omega)
      rw [show k - 1 = i by omega] at this
      omega
    · rw [ldC_lt _ _ h1 (by omega), ldC_lt _ _ h1 (by omega)]
      exact h3 i (by omega)
  · rw [Nat.add_sub_cancel, ldC_new _ _ h1]
theorem scR_safe (P : Int → Int → Bool) (zs : List Int) : ∀ (f k : Nat) (o : List Int) (bf : Int), Safe P zs o k bf → (∀ i, i < k + f → 0 ≤ ldC zs i) → ∃ m bf', k ≤ m ∧ m ≤ k + f ∧ Safe P zs (scR P zs f k o bf) m bf'
  | 0, k, o, bf, h, _ => ⟨k, bf, Nat.le_refl _, Nat.le_refl _, h⟩
  | f + 1, k, o, bf, h, hL => by
    cases hs : scStep P zs k bf with
    | none => exact ⟨k, bf, Nat.le_refl _, by omega, by unfold scR; rw [hs]; exact h⟩
    | some ld =>
      obtain ⟨m, bf', h1, h2, h3⟩ := scR_safe P zs f (k + 1) (o ++ [rdC zs k, ld]) ld (h.step (hL k (by omega)) hs) (fun i hi => hL i (by omega))
      exact ⟨m, bf', by omega, by omega, by unfold scR; rw [hs]; exact h3⟩
/-- a safe chart is a chart -/
theorem safe_chart {P : Int → Int → Bool} {zs : List Int} {n : Nat} (hok : okCh zs n = true) {R : List Int} (hR : scR P zs n 0 [] 50000 = R) {m : Nat} (hm : R.length = m * 2) (hne : ¬ R = []) :
    m ≤ n ∧ okCh R m = true ∧ ∀ i, i < m → rdC R i = rdC zs i ∧ (0 ≤ ldC R i ∧ ldC R i ≤ ldC zs i) ∧ P (rdC zs i) (ldC R i) = true := by
  obtain ⟨hst, hn1, hn2⟩ := okCh_t hok
  obtain ⟨m', bf', _, h2, h3⟩ := scR_safe P zs n 0 [] 50000 ⟨rfl, fun i hi => by omega, fun i hi => by omega, fun h => by omega, by omega⟩ (fun i hi => (stepOk_t (hst i (by omega))).2.1)
  rw [hR] at h3
  obtain ⟨q1, q2, q3, _, _⟩ := h3
  obtain rfl : m = m' := by omega
  have hm0 : 1 ≤ m := by
    rcases Nat.eq_zero_or_pos m with h9 | h9
    · exact absurd (List.eq_nil_of_length_eq_zero (by omega)) hne
    · exact h9
  refine ⟨by omega, ?_, q2⟩
  rw [okCh_end (fun i hi => ?_)]
  · exact inI_y (by omega)
  · have hz := hst i (by omega)
    obtain ⟨s1, s2⟩ := stepOk_t hz
    obtain ⟨e1, e2, _⟩ := q2 i hi
    unfold stepOk at hz ⊢
    rw [e1, inI_y s1, inI_y (show 0 ≤ ldC R i ∧ ldC R i ≤ 50000 by omega)]
    by_cases hi0 : i = 0
    · simp [hi0]
    · have e0 := (q2 (i - 1) (by omega)).1
      have hl := q3 (i - 1) (by omega)
      rw [show i - 1 + 1 = i by omega] at hl
      simp only [Bool.and_eq_true, Bool.or_eq_true, decide_eq_true_eq] at hz
      have hr := (hz.2.2.resolve_left hi0).1
      rw [e0]
      simp [hr, hl]
end Go.Proofs.Ytmalbgbmapfiiaa
