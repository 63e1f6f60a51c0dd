/- Charts: their steps, whether one is valid, both sides. -/
import Derived.Test.YtmgbbkglafnibaaBase
import Derived.Test.YtmgbbkglafnibaaSlices
import Derived.Test.YtmgbbkglafnibaaApp
import Derived.BigQuiet
namespace Go.Proofs.Ytmgbbkglafnibaa
open Go.RowKit Go.Deep
def rdC (zs : List Int) (k : Nat) : Int := zs.getD (k * 2) 0
def ldC (zs : List Int) (k : Nat) : Int := zs.getD (k * 2 + 1) 0
theorem si2 {w : World} {B : Nat} {A : Option Addr} {zs : List Int} {n k : Nat} (h : SI w B A zs) (hz : zs.length = n * 2) (hk : k < n) : ∃ b off, A = some ⟨b, off, none⟩ ∧ b < B ∧ w.cell? ⟨b, off + k * 2, none⟩ = some (.int .i64 (rdC zs k)) ∧ w.cell? ⟨b, off + k * 2 + 1, none⟩ = some (.int .i64 (ldC zs k)) := by
  obtain ⟨b, off, e, hB, hc⟩ := h (by omega)
  exact ⟨b, off, e, hB, hc (k * 2) (by omega), by have := hc (k * 2 + 1) (by omega); rwa [← Nat.add_assoc] at this⟩
/-- step i is one that may stand there -/
def stepOk (zs : List Int) (i : Nat) : Bool := inI (rdC zs i) 1 1000 && (inI (ldC zs i) 0 50000 && (decide (i = 0) || (decide (rdC zs (i - 1) < rdC zs i) && decide (ldC zs i ≤ ldC zs (i - 1)))))
def okCh (zs : List Int) (n : Nat) : Bool := (List.range n).all (stepOk zs) && inI n 1 20
theorem okCh_bad {zs : List Int} {n k : Nat} (hk : k < n) (h : stepOk zs k = false) : okCh zs n = false := by
  have : (List.range n).all (stepOk zs) = false := by rw [List.all_eq_false]; exact ⟨k, List.mem_range.2 hk, by rw [h]; decide⟩
  unfold okCh; rw [this]; rfl
theorem okCh_end {zs : List Int} {n : Nat} (h : ∀ k, k < n → stepOk zs k = true) : okCh zs n = inI n 1 20 := by
  have : (List.range n).all (stepOk zs) = true := by rw [List.all_eq_true]; intro k hk; exact h k (List.mem_range.1 hk)
  unfold okCh; rw [this]; simp
theorem okCh_t {zs : List Int} {n : Nat} (h : okCh zs n = true) : (∀ k, k < n → stepOk zs k = true) ∧ 1 ≤ n ∧ n ≤ 20 := by
  unfold okCh at h
  simp only [Bool.and_eq_true, List.all_eq_true, List.mem_range] at h
  have := inI_t h.2
  exact ⟨h.1, by omega, by omega⟩
theorem stepOk_t {zs : List Int} {k : Nat} (h : stepOk zs k = true) : (1 ≤ rdC zs k ∧ rdC zs k ≤ 1000) ∧ (0 ≤ ldC zs k ∧ ldC zs k ≤ 50000) := by
  unfold stepOk at h
  simp only [Bool.and_eq_true] at h
  exact ⟨inI_t h.1, inI_t h.2.1⟩
theorem incht_is {n a b : Int} {r : Bool} (h : inI n a b = r) {P : Program} {f : FuncId} {args : Array Value} {w : World} (c : Calls P f args w fun e w' => e = .returned (.bool (inI n a b)) ∧ w = w') : Calls P f args w fun e w' => e = .returned (.bool r) ∧ w = w' := by rw [← h]; exact c
end Go.Proofs.Ytmgbbkglafnibaa
