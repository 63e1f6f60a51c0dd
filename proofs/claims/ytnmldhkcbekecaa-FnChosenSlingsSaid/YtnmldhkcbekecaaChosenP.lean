/- Plain law of the sling that is chosen, and of the greatest weight. No program in sight. -/
import Derived.Test.YtnmldhkcbekecaaChL
namespace Go.Proofs.Ytnmldhkcbekecaa
open Go.RowKit
theorem gw_ok {ok : Bool} {k l s r : Int} (h : gwE ok k l s r = 0) : ok = true ∧ inI k 0 50000 = true ∧ ¬ clSl l s r = 3 := by
  unfold gwE at h
  by_cases h0 : ok = true
  · rw [if_pos h0] at h
    by_cases h1 : inI k 0 50000 = true
    · rw [if_pos h1] at h
      by_cases h2 : clSl l s r = 3
      · rw [if_pos h2] at h; omega
      · exact ⟨h0, h1, h2⟩
    · rw [if_neg h1] at h; omega
  · rw [if_neg h0] at h; omega
theorem gw_val {ok : Bool} {k l s r : Int} (h : gwE ok k l s r = 0) : gwN ok k l s r = minI (k * denSl l r / dbSl s r) 50000 := if_pos (gw_ok h)
theorem gw_bd {l s r m k : Int} (h : gwE (okSl l s r m) k l s r = 0) : 0 ≤ gwN (okSl l s r m) k l s r ∧ gwN (okSl l s r m) k l s r ≤ 50000 := by
  rw [gw_val h]
  obtain ⟨h0, h1, _⟩ := gw_ok h
  obtain ⟨k0, k1, k2, k3, k4, k5, k6, k7, k8⟩ := okSl_t h0
  have hd := dbSl_bd k2 k3 k4 k5
  have hn := denSl_bd k0 k4 k5
  have hk := inI_t h1
  have hq : 0 ≤ k * denSl l r / dbSl s r := Int.ediv_nonneg (Int.mul_nonneg hk.1 (by unfold denSl; omega)) (by omega)
  unfold minI; split <;> omega
theorem gw_holds {l s r m k : Int} (h : gwE (okSl l s r m) k l s r = 0) {n : Int} (hn : n ≤ gwN (okSl l s r m) k l s r) : upSl n l s r ≤ k := by
  rw [gw_val h] at hn
  obtain ⟨h0, h1, _⟩ := gw_ok h
  obtain ⟨k0, k1, k2, k3, k4, k5, k6, k7, k8⟩ := okSl_t h0
  have hd := dbSl_bd k2 k3 k4 k5
  have hdn := denSl_bd k0 k4 k5
  rw [up_gw (by unfold denSl; omega)]
  have hq : n ≤ k * denSl l r / dbSl s r := by unfold minI at hn; split at hn <;> omega
  have h2 := Int.mul_le_of_le_ediv (show 0 < dbSl s r by omega) hq
  exact h2
theorem gw_more {l s r m k : Int} (h : gwE (okSl l s r m) k l s r = 0) (hn : gwN (okSl l s r m) k l s r < 50000) : ¬ upSl (gwN (okSl l s r m) k l s r + 1) l s r ≤ k := by
  rw [gw_val h] at hn ⊢
  obtain ⟨h0, h1, _⟩ := gw_ok h
  obtain ⟨k0, k1, k2, k3, k4, k5, k6, k7, k8⟩ := okSl_t h0
  have hd := dbSl_bd k2 k3 k4 k5
  have hdn := denSl_bd k0 k4 k5
  have hq : minI (k * denSl l r / dbSl s r) 50000 = k * denSl l r / dbSl s r := by unfold minI at hn ⊢; split at hn <;> first | omega | (split <;> omega)
  rw [hq, up_gw (by unfold denSl; omega)]
  have h2 := Int.lt_ediv_add_one_mul_self (k * denSl l r) (show 0 < dbSl s r by omega)
  omega
theorem clSl_lt {l s r : Int} (h : ¬ clSl l s r = 3) : clSl l s r < 3 := by have := clSl_bd l s r; omega
theorem gw_hld {l s r m k wt : Int} (h : gwE (okSl l s r m) k l s r = 0) (hw : wt ≤ gwN (okSl l s r m) k l s r) : hldSl wt k l s r = true :=
  decide_eq_true ⟨clSl_lt (gw_ok h).2.2, gw_holds h hw⟩
theorem bestF_succ (zs ms : List Int) (wt : Int) (k : Nat) : bestF zs ms wt (k + 1) = if (hlK zs ms wt k && (decide (bestF zs ms wt k < 0) || decide (slM zs k < slM zs (bestF zs ms wt k).toNat))) = true then (k : Int) else bestF zs ms wt k := rfl
theorem best_least (zs ms : List Int) (wt : Int) : ∀ k j : Nat, j < k → hlK zs ms wt j = true → ∃ b : Nat, bestF zs ms wt k = (b : Int) ∧ slM zs b ≤ slM zs j
  | 0, j, hj, _ => by omega
  | k + 1, j, hj, h => by
    by_cases hjk : j = k
    · subst hjk
      by_cases hc : (hlK zs ms wt j && (decide (bestF zs ms wt j < 0) || decide (slM zs j < slM zs (bestF zs ms wt j).toNat))) = true
      · exact ⟨j, by rw [bestF_succ, if_pos hc], Int.le_refl _⟩
      · refine ⟨(bestF zs ms wt j).toNat, ?_, ?_⟩
        · rw [bestF_succ, if_neg hc]
          simp only [h, Bool.true_and, Bool.or_eq_true, decide_eq_true_eq] at hc
          omega
        · simp only [h, Bool.true_and, Bool.or_eq_true, decide_eq_true_eq] at hc
          omega
    · obtain ⟨b, hb, hl⟩ := best_least zs ms wt k j (by omega) h
      by_cases hc : (hlK zs ms wt k && (decide (bestF zs ms wt k < 0) || decide (slM zs k < slM zs (bestF zs ms wt k).toNat))) = true
      · refine ⟨k, by rw [bestF_succ, if_pos hc], ?_⟩
        simp only [Bool.and_eq_true, Bool.or_eq_true, decide_eq_true_eq, hb, Int.toNat_natCast] at hc
        omega
      · exact ⟨b, by rw [bestF_succ, if_neg hc, hb], hl⟩
/-- among slings of which one is chosen none that holds is lighter -/
theorem chosen_least {zs ms : List Int} {n : Nat} {wt : Int} (h : csC zs n ms wt = 0) {j : Nat} (hj : j < n) (hg : gwE (okK zs j) (ms.getD j 0) (slL zs j) (slS zs j) (slR zs j) = 0)
    (hw : wt ≤ gwN (okK zs j) (ms.getD j 0) (slL zs j) (slS zs j) (slR zs j)) : ¬ slM zs j < slM zs (csN zs n ms wt).toNat := by
  have hh : hlK zs ms wt j = true := gw_hld (m := slM zs j) hg hw
  obtain ⟨b, hb, hl⟩ := best_least zs ms wt n j hj hh
  have : csN zs n ms wt = (b : Int) := by unfold csN; rw [if_pos h, hb]
  rw [this, Int.toNat_natCast]
  omega
theorem cs_rngN {zs ms : List Int} {n : Nat} {wt : Int} (h : csC zs n ms wt = 0) : ms.length = n ∧ 0 ≤ csN zs n ms wt ∧ csN zs n ms wt < n := by
  have hb := bestF_bd zs ms wt n
  have h2 : csN zs n ms wt = bestF zs ms wt n := by unfold csN; rw [if_pos h]
  unfold csC at h
  split at h
  · omega
  · split at h
    · omega
    · split at h
      · omega
      · rename_i h3 h4 h5
        simp only [Bool.not_eq_false, Bool.and_eq_true, decide_eq_true_eq] at h4
        exact ⟨h4.1, by omega, by omega⟩
end Go.Proofs.Ytnmldhkcbekecaa
