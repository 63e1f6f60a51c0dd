/- Contracts of the square roots rounded up, and of the fractions in lowest terms. -/
import Derived.Test.YtoglmeiffidcbaaDoorBase
import Derived.Test.YtoglmeiffidcbaaDoorPlain
namespace Go.Proofs.YtoglmeiffidcbaaDoor
open Go.RowKit
set_option maxHeartbeats 1000000 in
theorem root02_any (n : Int) (w : World) (h0 : -9223372036854775808 ≤ n) (h1 : n ≤ 4000000000000) : Calls Tryd.prog 60 #[.int .i64 n] w fun e w' => e = .returned (.int .i64 (rt n)) ∧ w = w' := by
  go_enter Tryd.func60, Tryd.ntmps60
  go_wp2
  go_loop [3, 4, 5] (fun l h _ => ∃ lo hi : Int, l = .int .i64 lo ∧ h = .int .i64 hi ∧ RootInv n lo hi 2000000) (fun l h _ => (intOf h - intOf l).toNat)
  case atStart => exact ⟨0, 2000000, rfl, rfl, RootInv.start (by omega) (by omega)⟩
  case round =>
    obtain ⟨lo, hi, rfl, rfl, hinv⟩ := hrel
    obtain ⟨b0, b1, b2⟩ := hinv.bd
    by_cases hlt : lo < hi
    · have hm : lo ≤ (lo + hi) / 2 ∧ (lo + hi) / 2 < hi := by omega
      have hq := sq_mono (a := (lo + hi) / 2) (b := 2000000) (by omega) (by omega)
      have hq0 := Int.mul_nonneg (show 0 ≤ (lo + hi) / 2 by omega) (show 0 ≤ (lo + hi) / 2 by omega)
      by_cases ht : n ≤ (lo + hi) / 2 * ((lo + hi) / 2)
      · have HI := Lib.hid (hinv.down hm.1 hm.2 ht)
        clear hinv
        go_wp2
        go_round
        case rel => exact ⟨_, _, rfl, rfl, HI.out⟩
        case measure => simp [intOf]; omega
      · have HI := Lib.hid (hinv.up hm.1 hm.2 (by omega))
        clear hinv
        go_wp2
        go_round
        case rel => exact ⟨_, _, rfl, rfl, HI.out⟩
        case measure => simp [intOf]; omega
    · have HE := Lib.hid (hinv.fin hlt)
      go_wp2
      go_ret
      exact ⟨ret_int HE.out.symm, rfl⟩
set_option maxHeartbeats 1000000 in
theorem rootUp_any (n : Int) (w : World) (h0 : -9223372036854775808 ≤ n) (h1 : n ≤ 1000000000000) : Calls Tryd.prog 82 #[.int .i64 n] w fun e w' => e = .returned (.int .i64 (rt n)) ∧ w = w' := by
  go_enter Tryd.func82, Tryd.ntmps82
  go_wp2
  go_loop [3, 4, 5] (fun l h _ => ∃ lo hi : Int, l = .int .i64 lo ∧ h = .int .i64 hi ∧ RootInv n lo hi 1000000) (fun l h _ => (intOf h - intOf l).toNat)
  case atStart => exact ⟨0, 1000000, rfl, rfl, RootInv.start (by omega) (by omega)⟩
  case round =>
    obtain ⟨lo, hi, rfl, rfl, hinv⟩ := hrel
    obtain ⟨b0, b1, b2⟩ := hinv.bd
    by_cases hlt : lo < hi
    · have hm : lo ≤ (lo + hi) / 2 ∧ (lo + hi) / 2 < hi := by omega
      have hq := sq_mono (a := (lo + hi) / 2) (b := 1000000) (by omega) (by omega)
      have hq0 := Int.mul_nonneg (show 0 ≤ (lo + hi) / 2 by omega) (show 0 ≤ (lo + hi) / 2 by omega)
      by_cases ht : n ≤ (lo + hi) / 2 * ((lo + hi) / 2)
      · have HI := Lib.hid (hinv.down hm.1 hm.2 ht)
        clear hinv
        go_wp2
        go_round
        case rel => exact ⟨_, _, rfl, rfl, HI.out⟩
        case measure => simp [intOf]; omega
      · have HI := Lib.hid (hinv.up hm.1 hm.2 (by omega))
        clear hinv
        go_wp2
        go_round
        case rel => exact ⟨_, _, rfl, rfl, HI.out⟩
        case measure => simp [intOf]; omega
    · have HE := Lib.hid (hinv.fin hlt)
      go_wp2
      go_ret
      exact ⟨ret_int HE.out.symm, rfl⟩
theorem quo_bd {d g : Int} (hd : 1 ≤ d) (hg : 1 ≤ g) : 0 ≤ d / g ∧ d / g ≤ d := ⟨Int.ediv_nonneg (by omega) (by omega), Int.ediv_le_self g (by omega)⟩
theorem tquo_bd {n g : Int} (hn : -9223372036854775807 ≤ n ∧ n ≤ 9223372036854775807) : -9223372036854775807 ≤ n.tdiv g ∧ n.tdiv g ≤ 9223372036854775807 := by
  have h := Int.natAbs_tdiv n g
  have h2 := Nat.div_le_self n.natAbs g.natAbs
  have h3 : (n.tdiv g).natAbs ≤ n.natAbs := by rw [h]; exact h2
  omega
end Go.Proofs.YtoglmeiffidcbaaDoor
