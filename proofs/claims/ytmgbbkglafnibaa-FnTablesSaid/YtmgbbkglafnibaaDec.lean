/- Decimal texts. -/
import Derived.Test.YtmgbbkglafnibaaApp
import Derived.Lib.ItoaNum
import Derived.Lib.SlBytesRow
namespace Go.Proofs.Ytmgbbkglafnibaa
open Go.RowKit Go.Deep
def bF (c : UInt8) : Value := .int .u8 (c.toNat : Int)
def strB (l : List UInt8) : ByteArray := ⟨l.toArray⟩
theorem strB_app (a b : List UInt8) : strB a ++ strB b = strB (a ++ b) := by
  unfold strB
  apply ByteArray.ext
  simp
theorem strB_size (l : List UInt8) : (strB l).size = l.length := by simp [strB, ByteArray.size]
/-- the text of a number -/
def dS (n : Int) : List UInt8 := Lib.itoa n
def dgB (u : Nat) : UInt8 := UInt8.ofNat (48 + u % 10)
theorem dgB_nat (u : Nat) : (dgB u).toNat = 48 + u % 10 := by
  unfold dgB
  rw [UInt8.toNat_ofNat']
  omega
theorem dgB_F (u : Nat) : Value.int .u8 (48 + (u : Int) % 10) = bF (dgB u) := by
  unfold bF; rw [dgB_nat]; congr 1
def dgs (u : Nat) : List UInt8 := if _h : u = 0 then [] else dgs (u / 10) ++ [dgB u]
termination_by u
decreasing_by omega
theorem dgs_zero : dgs 0 = [] := by rw [dgs, dif_pos rfl]
theorem dgs_succ {u : Nat} (h : ¬ u = 0) : dgs u = dgs (u / 10) ++ [dgB u] := by rw [dgs, dif_neg h]
theorem dgs_dec (u : Nat) (h : ¬ u = 0) : dgs u = Lib.decDigits u := by
  rw [dgs_succ h, Lib.decDigits]
  split
  · rename_i h1
    rw [show u / 10 = 0 by omega, dgs_zero]
    unfold dgB
    rw [Nat.mod_eq_of_lt h1]; rfl
  · rename_i h1
    rw [dgs_dec (u / 10) (by omega)]; rfl
termination_by u
decreasing_by omega
theorem dgs_len : ∀ (k u : Nat), u < 10 ^ k → (dgs u).length ≤ k
  | 0, u, h => by rw [show u = 0 by simpa using h, dgs_zero]; exact Nat.le_refl _
  | k + 1, u, h => by
    by_cases h0 : u = 0
    · subst h0; rw [dgs_zero]; exact Nat.zero_le _
    · rw [dgs_succ h0, List.length_append]
      have := dgs_len k (u / 10) (by rw [Nat.pow_succ] at h; omega)
      simp; omega
theorem dgs_20 {u : Nat} (h : u ≤ 9223372036854775808) : (dgs u).length ≤ 20 := dgs_len 20 u (by omega)
theorem dgs_ne {u : Nat} (h : ¬ u = 0) : 0 < (dgs u).length := by rw [dgs_succ h]; simp
theorem dS_zero : dS 0 = [48] := by
  unfold dS Lib.itoa
  rw [if_neg (by decide)]
  exact Lib.decDigits_one (by decide)
theorem dS_pos {u : Nat} (h : ¬ u = 0) : dS (u : Int) = dgs u := by
  unfold dS Lib.itoa
  rw [if_neg (by omega), dgs_dec u h]; rfl
theorem dS_neg {u : Nat} (h : ¬ u = 0) : dS (-(u : Int)) = 45 :: dgs u := by
  unfold dS Lib.itoa
  rw [if_pos (by omega), dgs_dec u h]; simp
theorem dS_len {n : Int} (h : -9223372036854775808 ≤ n ∧ n ≤ 9223372036854775807) : (dS n).length ≤ 21 := by
  rcases Int.lt_or_le n 0 with h0 | h0
  · have e : n = -((n.natAbs : Nat) : Int) := by omega
    rw [e, dS_neg (by omega)]
    have := dgs_20 (u := n.natAbs) (by omega)
    simp; omega
  · by_cases h1 : n = 0
    · subst h1; rw [dS_zero]; simp
    · have e : n = ((n.natAbs : Nat) : Int) := by omega
      rw [e, dS_pos (by omega)]
      have := dgs_20 (u := n.natAbs) (by omega)
      omega
theorem tmod_neg10 (u : Nat) : (-(u : Int)).tmod 10 = -((u : Int) % 10) := by rw [Int.neg_tmod, Int.tmod_eq_emod_of_nonneg (by omega)]
theorem tdiv_neg10 (u : Nat) : (-(u : Int)).tdiv 10 = -((u / 10 : Nat) : Int) := by rw [Int.neg_tdiv, Int.tdiv_eq_ediv_of_nonneg (by omega)]; rfl
/-- a row of bytes as a text -/
theorem RS.bytes {w : World} {e : TypeId} {lo hi c g : Nat} {l : List UInt8} (h : RS bF e w lo hi (some ⟨g, 0, none⟩) c l) : Lib.Bytes w g 0 (strB l) := by
  intro i hi'
  have hl : i < l.length := by simpa [strB, ByteArray.size] using hi'
  obtain ⟨g', e1, _, _, _, hc, _⟩ := h.cellAt (List.getElem?_eq_getElem hl)
  simp only [Option.some.injEq, Addr.mk.injEq, and_true] at e1
  subst e1
  rw [Nat.zero_add, hc]
  rfl
theorem RS.text {P : Program} {w : World} {e : TypeId} {lo hi c : Nat} {A : Option Addr} {l : List UInt8} (h : RS bF e w lo hi A c l) (hp : 0 < l.length) (src dst el : TypeId) (hs : P.underlying src = some (.slice el)) (he : P.underlying el = some (.int .u8)) (hd : P.underlying dst = some .string) :
    (convert src dst (.slice A l.length c)).run P w = .ok (.string (strB l)) w := by
  obtain ⟨g, rfl, _⟩ := h.isAt hp
  have h2 := Lib.run_convert_whole (P := P) w src el dst hs he hd g 0 (strB l) h.bytes c
  rw [show (strB l).size = l.length by simp [strB, ByteArray.size]] at h2
  exact h2
end Go.Proofs.Ytmgbbkglafnibaa
