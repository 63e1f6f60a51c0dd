/- The ends of a crane and its boom, both sides. -/
import Derived.Test.YtoglmeiffidcbaaDoorCrn
import Derived.Test.YtoglmeiffidcbaaDoorSrc
import Derived.StillTailTactics
import Derived.Deep.RegionHeld3
namespace Go.Proofs.YtoglmeiffidcbaaDoor
open Go.RowKit Go.Deep
def opp (k : Nat) : Nat := (k + 12) % 24
def jX (x : Cr) (k : Nat) : Int := atI x.px (vX k) x.jb
def jY (x : Cr) (k : Nat) : Int := atI x.py (vY k) x.jb
def kX (x : Cr) (k : Nat) : Int := atI x.px (vX (opp k : Nat)) x.bk
def kY (x : Cr) (k : Nat) : Int := atI x.py (vY (opp k : Nat)) x.bk
theorem opp_le (k : Nat) : opp k ≤ 23 := by unfold opp; omega
/-- numbers within bounds -/
def Cr.near (x : Cr) : Prop := (-100000 ≤ x.px ∧ x.px ≤ 100000) ∧ (-100000 ≤ x.py ∧ x.py ≤ 100000) ∧ (0 ≤ x.jb ∧ x.jb ≤ 1000) ∧ (0 ≤ x.bk ∧ x.bk ≤ 1000)
theorem near_of {x : Cr} {n : Nat} (h : okCr x n = true) : x.near := by
  obtain ⟨⟨a, b⟩, _, d, e, _⟩ := okCr_t h
  exact ⟨⟨by omega, by omega⟩, ⟨by omega, by omega⟩, ⟨by omega, by omega⟩, ⟨by omega, by omega⟩⟩
theorem mod02_opp (k : Nat) (w : World) (hk : k ≤ 23) : Calls Tryd.prog 79 #[.int .i64 ((k : Int) + 12)] w fun e w' => e = .returned (.int .i64 ((opp k : Nat) : Int)) ∧ w = w' := by
  have h : ((k : Int) + 12) % 24 = ((opp k : Nat) : Int) := by unfold opp; omega
  rw [← h]
  exact mod02_any _ w (by omega)
end Go.Proofs.YtoglmeiffidcbaaDoor
