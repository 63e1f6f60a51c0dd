/- Names: whether a text is one, both sides. -/
import Derived.Test.YtmgbbkglafnibaaBase
import Derived.BigQuiet
namespace Go.Proofs.Ytmgbbkglafnibaa
open Go.RowKit Go.Deep
def bAt (s : ByteArray) (k : Nat) : Int := if h : k < s.size then (s[k].toNat : Int) else 0
def smN (b : Int) : Bool := decide (97 ≤ b ∧ b ≤ 122)
def dgC (b : Int) : Bool := decide (48 ≤ b ∧ b ≤ 57)
def nmC (b : Int) (k : Nat) : Bool := smN b || (decide (k ≠ 0) && (dgC b || decide (b = 45)))
def okNm (s : ByteArray) : Bool := (List.range s.size).all (fun k => nmC (bAt s k) k) && decide (1 ≤ s.size ∧ s.size ≤ 12)
theorem okNm_bad {s : ByteArray} {k : Nat} (hk : k < s.size) (h : nmC (bAt s k) k = false) : okNm s = false := by
  have : (List.range s.size).all (fun k => nmC (bAt s k) k) = false := by rw [List.all_eq_false]; exact ⟨k, List.mem_range.2 hk, by rw [h]; decide⟩
  unfold okNm; rw [this]; rfl
theorem okNm_sz {s : ByteArray} (h : ¬ (1 ≤ s.size ∧ s.size ≤ 12)) : okNm s = false := by unfold okNm; rw [decide_eq_false h]; simp
theorem okNm_end {s : ByteArray} (h : ∀ k, k < s.size → nmC (bAt s k) k = true) : okNm s = decide (1 ≤ s.size ∧ s.size ≤ 12) := by
  have : (List.range s.size).all (fun k => nmC (bAt s k) k) = true := by rw [List.all_eq_true]; intro k hk; exact h k (List.mem_range.1 hk)
  unfold okNm; rw [this]; simp
theorem bAt_y {s : ByteArray} {k : Nat} (h : k < s.size) : ((s[k]'h).toNat : Int) = bAt s k := by unfold bAt; rw [dif_pos h]
theorem smB_y {b : Int} (h : 97 ≤ b ∧ b ≤ 122) : smN b = true := decide_eq_true h
theorem smB_n {b : Int} (h : ¬ (97 ≤ b ∧ b ≤ 122)) : smN b = false := decide_eq_false h
end Go.Proofs.Ytmgbbkglafnibaa
