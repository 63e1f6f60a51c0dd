/- Numbers drawn from bytes, in the laws. -/
import Derived.Test.YtmgbbkglafnibaaSrc
import Derived.Test.YtmgbbkglafnibaaBase
import Derived.BigQuiet
namespace Go.Proofs.Ytmgbbkglafnibaa
open Go.RowKit Go.Deep
def SomeLt (m : Int) (e : Ending) : Prop := ∃ x : Int, e = .returned (.int .i64 x) ∧ 0 ≤ x ∧ x < m
def lngB (n m : Nat) : Bool := decide (3000 < n) || decide (3000 < m)
theorem lngB_f {n m : Nat} (h : lngB n m = false) : n ≤ 3000 ∧ m ≤ 3000 := by unfold lngB at h; simp only [Bool.or_eq_false_iff, decide_eq_false_iff_not] at h; omega
set_option maxHeartbeats 1000000 in
theorem long_any (A B : Option Addr) (n m c d : Nat) (w : World) : Calls Try.prog 37 #[.slice A n c, .slice B m d] w fun e w' => e = .returned (.bool (lngB n m)) ∧ w = w' := by
  by_cases h1 : 3000 < n
  · have hr := Lib.hid (show lngB n m = true by unfold lngB; rw [decide_eq_true h1]; rfl)
    have hd : decide ((3000 : Int) < (n : Int)) = true := decide_eq_true (by omega)
    go_enter Try.func37, Try.ntmps37; go_wp2; go_returns; exact ⟨ret_bool hr.out.symm, rfl⟩
  have hd : decide ((3000 : Int) < (n : Int)) = false := decide_eq_false (by omega)
  by_cases h2 : 3000 < m
  · have hr := Lib.hid (show lngB n m = true by unfold lngB; rw [decide_eq_true h2, Bool.or_true])
    have hd2 : decide ((3000 : Int) < (m : Int)) = true := decide_eq_true (by omega)
    go_enter Try.func37, Try.ntmps37; go_wp2; go_returns; exact ⟨ret_bool hr.out.symm, rfl⟩
  have hr := Lib.hid (show lngB n m = false by unfold lngB; rw [decide_eq_false h1, decide_eq_false h2]; rfl)
  have hd2 : decide ((3000 : Int) < (m : Int)) = false := decide_eq_false (by omega)
  go_enter Try.func37, Try.ntmps37; go_wp2; go_returns; exact ⟨ret_bool hr.out.symm, rfl⟩
def atV (bs : List Int) (a m : Int) : Int := if bs.length ≤ a.toNat then 0 else bs.getD a.toNat 0 % m
theorem atV_bd (bs : List Int) (a : Int) {m : Int} (hm : 1 ≤ m) : 0 ≤ atV bs a m ∧ atV bs a m < m := by
  have h1 := Int.emod_nonneg (bs.getD a.toNat 0) (show m ≠ 0 by omega)
  have h2 := Int.emod_lt_of_pos (bs.getD a.toNat 0) (show 0 < m by omega)
  unfold atV
  split <;> omega
end Go.Proofs.Ytmgbbkglafnibaa
