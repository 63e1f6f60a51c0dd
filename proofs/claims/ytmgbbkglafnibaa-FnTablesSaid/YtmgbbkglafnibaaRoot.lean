/- Contracts of the square roots rounded up, and of the fractions in lowest terms. -/
import Derived.Test.YtmgbbkglafnibaaBase
import Derived.Test.YtmgbbkglafnibaaPlain
namespace Go.Proofs.Ytmgbbkglafnibaa
open Go.RowKit
set_option maxHeartbeats 1000000 in
theorem gcd14_any (a b : Int) (w : World) (ha : 0 ≤ a ∧ a ≤ 9223372036854775807) (hb : 0 ≤ b ∧ b ≤ 9223372036854775807) : Calls Try.prog 104 #[.int .i64 a, .int .i64 b] w fun e w' => e = .returned (.int .i64 (gcdI a b)) ∧ ∃ n, w' = w.drewN n := by
  go_enter Try.func104, Try.ntmps104
  go_wp2
  go_loopw [0, 1, 5] (fun u v _ wr => ∃ x y : Int, u = .int .i64 x ∧ v = .int .i64 y ∧ 0 ≤ x ∧ x ≤ 9223372036854775807 ∧ 0 ≤ y ∧ y ≤ 9223372036854775807 ∧ Hid (gcdI x y = gcdI a b) ∧ ∃ n, wr = w.drewN n) (fun _ v _ _ => (intOf v).toNat)
  case atStart => exact ⟨a, b, rfl, rfl, ha.1, ha.2, hb.1, hb.2, rfl, 0, rfl⟩
  case round =>
    obtain ⟨x, y, rfl, rfl, hx0, hx1, hy0, hy1, HG, n, rfl⟩ := hrel
    by_cases hz : y = 0
    · subst hz
      have HE := Lib.hid (gcdI_zero hx0)
      go_wp2
      go_ret
      exact ⟨ret_int (HE.out.symm.trans HG.out), n, rfl⟩
    · have hp : 0 < y := by omega
      have hne : (y != 0) = true := by rw [bne_iff_ne]; exact hz
      have hm0 := Int.emod_nonneg x hz
      have hm1 := Int.emod_lt_of_pos x hp
      have HS := Lib.hid ((gcdI_step hx0 hp).trans HG.out)
      clear HG hz
      go_wp2
      go_roundw
      case rel => exact ⟨y, x % y, rfl, rfl, by omega, by omega, by omega, by omega, HS.out, n, rfl⟩
      case measure => simp [intOf]; omega
theorem quo_bd {d g : Int} (hd : 1 ≤ d) (hg : 1 ≤ g) : 0 ≤ d / g ∧ d / g ≤ d := ⟨Int.ediv_nonneg (by omega) (by omega), Int.ediv_le_self g (by omega)⟩
theorem tquo_bd {n g : Int} (hn : -9223372036854775807 ≤ n ∧ n ≤ 9223372036854775807) : -9223372036854775807 ≤ n.tdiv g ∧ n.tdiv g ≤ 9223372036854775807 := by
  have h := Int.natAbs_tdiv n g
  have h2 := Nat.div_le_self n.natAbs g.natAbs
  have h3 : (n.tdiv g).natAbs ≤ n.natAbs := by rw [h]; exact h2
  omega
end Go.Proofs.Ytmgbbkglafnibaa
