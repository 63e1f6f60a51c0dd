/- ChooseSling in plain words. -/
import Derived.Test.YtnmldhkcbekecaaSlingG
import Derived.Test.YtnmldhkcbekecaaOpen
import Derived.Test.YtnmldhkcbekecaaInts
namespace Go.Proofs.Ytnmldhkcbekecaa
open Go.RowKit
theorem keepc {W w1 : World} {b o : Nat} {v : Value} (hb : Below W.heap.size W w1) (h : W.cell? ⟨b, o, none⟩ = some v) : w1.cell? ⟨b, o, none⟩ = some v :=
  (hb.cell (p := ⟨b, o, none⟩) (lt_of_cell h)).trans h
theorem SI.later {w w' : World} {A : Option Addr} {zs : List Int} (h : SI w w.heap.size A zs) (hb : Below w.heap.size w w') : SI w' w'.heap.size A zs := (h.below hb).more hb.size
theorem SV.later {α : Type} {f : α → Value} {w w' : World} {A : Option Addr} {xs : List α} (h : SV f w w.heap.size A xs) (hb : Below w.heap.size w w') : SV f w' w'.heap.size A xs := (h.below hb).more hb.size
def slL (zs : List Int) (k : Nat) : Int := zs.getD (k * 4) 0
def slS (zs : List Int) (k : Nat) : Int := zs.getD (k * 4 + 1) 0
def slR (zs : List Int) (k : Nat) : Int := zs.getD (k * 4 + 2) 0
def slM (zs : List Int) (k : Nat) : Int := zs.getD (k * 4 + 3) 0
theorem si4 {w : World} {B : Nat} {A : Option Addr} {zs : List Int} {n k : Nat} (h : SI w B A zs) (hz : zs.length = n * 4) (hk : k < n) : ∃ b off, A = some ⟨b, off, none⟩ ∧ b < B ∧ C4 w b (off + k * 4) (slL zs k) (slS zs k) (slR zs k) (slM zs k) := by
  obtain ⟨b, off, e, hB, hc⟩ := h (by omega)
  exact ⟨b, off, e, hB, hc (k * 4) (by omega), by have := hc (k * 4 + 1) (by omega); rwa [← Nat.add_assoc] at this, by have := hc (k * 4 + 2) (by omega); rwa [← Nat.add_assoc] at this, by have := hc (k * 4 + 3) (by omega); rwa [← Nat.add_assoc] at this⟩
def okK (zs : List Int) (k : Nat) : Bool := okSl (slL zs k) (slS zs k) (slR zs k) (slM zs k)
noncomputable def hlK (zs ms : List Int) (wt : Int) (k : Nat) : Bool := hldSl wt (ms.getD k 0) (slL zs k) (slS zs k) (slR zs k)
noncomputable def bestF (zs ms : List Int) (wt : Int) : Nat → Int
  | 0 => -1
  | k + 1 => if (hlK zs ms wt k && (decide (bestF zs ms wt k < 0) || decide (slM zs k < slM zs (bestF zs ms wt k).toNat))) = true then (k : Int) else bestF zs ms wt k
theorem bestF_bd (zs ms : List Int) (wt : Int) : ∀ k : Nat, -1 ≤ bestF zs ms wt k ∧ bestF zs ms wt k < (k : Int)
  | 0 => by simp [bestF]
  | k + 1 => by
    have h := bestF_bd zs ms wt k
    unfold bestF
    split <;> omega
theorem bestF_no {zs ms : List Int} {wt V : Int} {k : Nat} (hV : bestF zs ms wt k = V) (h : hlK zs ms wt k = false) : bestF zs ms wt (k + 1) = V := by
  unfold bestF; rw [h, hV]; simp
theorem bestF_first {zs ms : List Int} {wt V : Int} {k : Nat} (hV : bestF zs ms wt k = V) (h : hlK zs ms wt k = true) (h1 : V < 0) : bestF zs ms wt (k + 1) = k := by
  unfold bestF; rw [h, hV]; simp [h1]
theorem bestF_less {zs ms : List Int} {wt : Int} {k b : Nat} (hV : bestF zs ms wt k = (b : Int)) (h : hlK zs ms wt k = true) (h1 : slM zs k < slM zs b) : bestF zs ms wt (k + 1) = k := by
  unfold bestF; rw [h, hV]; simp [h1]
theorem bestF_more {zs ms : List Int} {wt : Int} {k b : Nat} (hV : bestF zs ms wt k = (b : Int)) (h1 : ¬ slM zs k < slM zs b) : bestF zs ms wt (k + 1) = (b : Int) := by
  unfold bestF; rw [hV, if_neg]; simp only [Bool.and_eq_true, Bool.or_eq_true, decide_eq_true_eq, Int.toNat_natCast]; omega
noncomputable def csC (zs : List Int) (n : Nat) (ms : List Int) (wt : Int) : Int :=
  if (List.range n).all (okK zs) = false then 1 else if (decide (ms.length = n) && (inI wt 0 50000 && ms.all (fun x => inI x 0 50000))) = false then 2 else if bestF zs ms wt n < 0 then 3 else 0
noncomputable def csN (zs : List Int) (n : Nat) (ms : List Int) (wt : Int) : Int := if csC zs n ms wt = 0 then bestF zs ms wt n else 0
theorem cs_of {zs : List Int} {n : Nat} {ms : List Int} {wt k : Int} (h : csC zs n ms wt = k) (hk : ¬ k = 0) : csN zs n ms wt = 0 := by unfold csN; rw [h, if_neg hk]
theorem cs_bad {zs : List Int} {n k : Nat} {ms : List Int} {wt : Int} (hk : k < n) (h : okK zs k = false) : csC zs n ms wt = 1 := by
  unfold csC; rw [if_pos]
  rw [List.all_eq_false]; exact ⟨k, List.mem_range.2 hk, by rw [h]; decide⟩
theorem cs_ok {zs : List Int} {n : Nat} (h : ∀ k, k < n → okK zs k = true) : (List.range n).all (okK zs) = true := by
  rw [List.all_eq_true]; intro k hk; exact h k (List.mem_range.1 hk)
theorem cs_rng {zs : List Int} {n : Nat} {ms : List Int} {wt : Int} (h : ∀ k, k < n → okK zs k = true) (h1 : (decide (ms.length = n) && (inI wt 0 50000 && ms.all (fun x => inI x 0 50000))) = false) : csC zs n ms wt = 2 := by
  unfold csC; rw [if_neg (by rw [cs_ok h]; decide), if_pos h1]
theorem cs_end {zs : List Int} {n : Nat} {ms : List Int} {wt V : Int} (h : ∀ k, k < n → okK zs k = true) (h0 : ms.length = n) (h1 : inI wt 0 50000 = true) (h2 : ∀ (k : Nat) x, ms[k]? = some x → inI x 0 50000 = true) (hV : bestF zs ms wt n = V) : (V < 0 → csC zs n ms wt = 3) ∧ (¬ V < 0 → csC zs n ms wt = 0 ∧ csN zs n ms wt = V) := by
  have ha : ms.all (fun x => inI x 0 50000) = true := by
    rw [List.all_eq_true]; intro x hx
    obtain ⟨k, hk⟩ := List.mem_iff_getElem?.1 hx
    exact h2 k x hk
  have hc : csC zs n ms wt = if V < 0 then 3 else 0 := by
    unfold csC; rw [if_neg (by rw [cs_ok h]; decide), if_neg (by rw [ha, h1, decide_eq_true h0]; decide), hV]
  refine ⟨fun hn => by rw [hc, if_pos hn], fun hn => ?_⟩
  have h3 : csC zs n ms wt = 0 := by rw [hc, if_neg hn]
  exact ⟨h3, by unfold csN; rw [if_pos h3, hV]⟩
theorem cs_most {ms : List Int} {k : Nat} {x : Int} (hx : ms[k]? = some x) (h : inI x 0 50000 = false) (a b : Bool) : (a && (b && ms.all (fun x => inI x 0 50000))) = false := by
  have : ms.all (fun x => inI x 0 50000) = false := by rw [List.all_eq_false]; exact ⟨x, List.mem_of_getElem? hx, by rw [h]; decide⟩
  rw [this]; simp
theorem in_is0 {n a b : Int} {r : Bool} (h : inI n a b = r) {P : Program} {f : FuncId} {w : World} (c : Calls P f #[.int .i64 n, .int .i64 a, .int .i64 b] w fun e w' => e = .returned (.bool (inI n a b)) ∧ w = w') : Calls P f #[.int .i64 n, .int .i64 a, .int .i64 b] w fun e w' => e = .returned (.bool r) ∧ w = w' := by subst h; exact c
end Go.Proofs.Ytnmldhkcbekecaa
