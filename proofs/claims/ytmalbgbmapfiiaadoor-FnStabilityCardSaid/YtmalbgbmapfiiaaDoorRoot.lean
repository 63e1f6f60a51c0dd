/- Contracts of the square roots rounded up, and of the fractions in lowest terms. -/
import Derived.Test.YtmalbgbmapfiiaaDoorBase
import Derived.Test.YtmalbgbmapfiiaaDoorPlain
namespace Go.Proofs.YtmalbgbmapfiiaaDoor
open Go.RowKit
set_option maxHeartbeats 1000000 in
theorem gcd06_any (a b : Int) (w : World) (ha : 0 ≤ a ∧ a ≤ 9223372036854775807) (hb : 0 ≤ b ∧ b ≤ 9223372036854775807) : Calls Tryd.prog 42 #[.int .i64 a, .int .i64 b] w fun e w' => e = .returned (.int .i64 (gcdI a b)) ∧ ∃ n, w' = w.drewN n := by
  go_enter Tryd.func42, Tryd.ntmps42
  go_wp2
  go_loopw [0, 1] (fun u v wr => ∃ x y : Int, u = .int .i64 x ∧ v = .int .i64 y ∧ 0 ≤ x ∧ x ≤ 9223372036854775807 ∧ 0 ≤ y ∧ y ≤ 9223372036854775807 ∧ Hid (gcdI x y = gcdI a b) ∧ ∃ n, wr = w.drewN n) (fun _ v _ => (intOf v).toNat)
  case atStart => exact ⟨a, b, rfl, rfl, ha.1, ha.2, hb.1, hb.2, rfl, 0, rfl⟩
  case round =>
    obtain ⟨x, y, rfl, rfl, hx0, hx1, hy0, hy1, HG, n, rfl⟩ := hrel
    by_cases hz : y = 0
    · subst hz
      have HE := Lib.hid (gcdI_zero hx0)
      go_wp2
      go_ret
      exact ⟨ret_int (HE.out.symm.trans HG.out), n, rfl⟩
    · have hp : 0 < y := by omega
      have hne : (y != 0) = true := by rw [bne_iff_ne]; exact hz
      have hm0 := Int.emod_nonneg x hz
      have hm1 := Int.emod_lt_of_pos x hp
      have HS := Lib.hid ((gcdI_step hx0 hp).trans HG.out)
      clear HG hz
      go_wp2
      go_region
      go_wp2
      go_roundw
      case rel => exact ⟨y, x % y, rfl, rfl, by omega, by omega, by omega, by omega, HS.out, n + 1, rfl⟩
      case measure => simp [intOf]; omega
theorem quo_bd {d g : Int} (hd : 1 ≤ d) (hg : 1 ≤ g) : 0 ≤ d / g ∧ d / g ≤ d := ⟨Int.ediv_nonneg (by omega) (by omega), Int.ediv_le_self g (by omega)⟩
theorem tquo_bd {n g : Int} (hn : -9223372036854775807 ≤ n ∧ n ≤ 9223372036854775807) : -9223372036854775807 ≤ n.tdiv g ∧ n.tdiv g ≤ 9223372036854775807 := by
  have h := Int.natAbs_tdiv n g
  have h2 := Nat.div_le_self n.natAbs g.natAbs
  have h3 : (n.tdiv g).natAbs ≤ n.natAbs := by rw [h]; exact h2
  omega
set_option maxHeartbeats 1000000 in
theorem make06_any (n d : Int) (w : World) (hn : -9223372036854775807 ≤ n ∧ n ≤ 9223372036854775807) (hd : 1 ≤ d ∧ d ≤ 9223372036854775807) : Calls Tryd.prog 40 #[.int .i64 n, .int .i64 d] w fun e w' => e = .returned (.agg #[.int .i64 (n.tdiv (gcdI (absI n) d)), .int .i64 (d / gcdI (absI n) d)]) ∧ Below w.heap.size w w' := by
  have ha : 0 ≤ absI n ∧ absI n ≤ 9223372036854775807 := by unfold absI; split <;> omega
  have hg1 := gcdI_pos (a := absI n) (b := d) (by omega)
  have hg2 := gcdI_le (a := absI n) (b := d) (by omega)
  have hq := quo_bd hd.1 hg1
  have ht := tquo_bd (g := gcdI (absI n) d) hn
  by_cases hs : 0 ≤ n
  · rw [Int.tdiv_eq_ediv_of_nonneg hs] at ht ⊢
    go_enter Tryd.func40, Tryd.ntmps40
    go_wp2_with (first | (go_at_call 38; refine (size06_any _ _ (by omega)).mono ?_; rintro e w1 ⟨rfl, rfl⟩) | (go_at_call 42; refine (gcd06_any _ _ _ ha (by omega)).mono ?_; rintro e w1 ⟨rfl, q, rfl⟩))
    go_region
    go_wp2
    go_returns
    exact ⟨rfl, by repeat' first | exact gr_refl _ | with_reducible assumption | with_reducible apply gr_alloc | with_reducible apply gr_set | with_reducible apply gr_drew | with_reducible apply gr_drewN | exact Nat.le_add_right _ _ | exact Nat.le_refl _ | (refine gr_then (by with_reducible assumption) ?_)⟩
  · go_enter Tryd.func40, Tryd.ntmps40
    go_wp2_with (first | (go_at_call 38; refine (size06_any _ _ (by omega)).mono ?_; rintro e w1 ⟨rfl, rfl⟩) | (go_at_call 42; refine (gcd06_any _ _ _ ha (by omega)).mono ?_; rintro e w1 ⟨rfl, q, rfl⟩))
    go_region
    go_wp2
    go_returns
    exact ⟨rfl, by repeat' first | exact gr_refl _ | with_reducible assumption | with_reducible apply gr_alloc | with_reducible apply gr_set | with_reducible apply gr_drew | with_reducible apply gr_drewN | exact Nat.le_add_right _ _ | exact Nat.le_refl _ | (refine gr_then (by with_reducible assumption) ?_)⟩
set_option maxHeartbeats 2000000 in
theorem reduced_any (n d : Int) (w : World) (hn : -9223372036854775807 ≤ n ∧ n ≤ 9223372036854775807) (hd : 1 ≤ d ∧ d ≤ 9223372036854775807) : Calls Tryd.prog 36 #[.int .i64 n, .int .i64 d] w fun e w' => e = .returned (.agg #[.int .i64 (n.tdiv (gcdI (absI n) d)), .int .i64 (d / gcdI (absI n) d)]) ∧ Below w.heap.size w w' := by
  have ha : 0 ≤ absI n ∧ absI n ≤ 9223372036854775807 := by unfold absI; split <;> omega
  have hg1 := gcdI_pos (a := absI n) (b := d) (by omega)
  have hg2 := gcdI_le (a := absI n) (b := d) (by omega)
  have hq := quo_bd hd.1 hg1
  have ht := tquo_bd (g := gcdI (absI n) d) hn
  go_enter Tryd.func36, Tryd.ntmps36
  go_wp2_with (go_at_call 30; refine (abs_any _ _ (by omega)).mono ?_; rintro e w1 ⟨rfl, rfl⟩)
  go_loopw [5, 6] (fun u v wr => ∃ x y : Int, u = .int .i64 x ∧ v = .int .i64 y ∧ 0 ≤ x ∧ x ≤ 9223372036854775807 ∧ 0 ≤ y ∧ y ≤ 9223372036854775807 ∧ Hid (gcdI x y = gcdI (absI n) d) ∧ ∃ q, wr = (w.alloc (.cells #[.int .i64 0, .int .i64 0] 33)).drewN q) (fun _ v _ => (intOf v).toNat)
  case atStart => exact ⟨absI n, d, rfl, rfl, ha.1, ha.2, by omega, by omega, rfl, 0, rfl⟩
  case round =>
    obtain ⟨x, y, rfl, rfl, hx0, hx1, hy0, hy1, HG, q, rfl⟩ := hrel
    by_cases hz : 0 < y
    · have hm0 := Int.emod_nonneg x (show y ≠ 0 by omega)
      have hm1 := Int.emod_lt_of_pos x hz
      have HS := Lib.hid ((gcdI_step hx0 hz).trans HG.out)
      clear HG
      go_wp2
      go_region
      go_wp2
      go_roundw
      case rel => exact ⟨y, x % y, rfl, rfl, by omega, by omega, by omega, by omega, HS.out, q + 1, rfl⟩
      case measure => simp [intOf]; omega
    · obtain rfl : y = 0 := by omega
      have hG : gcdI (absI n) d = x := HG.out.symm.trans (gcdI_zero hx0)
      rw [hG] at hg1 hg2 hq ht
      have HX := Lib.hid hG
      clear hG HG
      by_cases hs : 0 ≤ n
      · have HT := Lib.hid (Int.tdiv_eq_ediv_of_nonneg (b := x) hs)
        rw [HT.out] at ht
        go_wp2
        go_region
        go_wp2
        go_returns
        exact ⟨by rw [HX.out, HT.out], by repeat' first | exact gr_refl _ | with_reducible assumption | with_reducible apply gr_alloc | with_reducible apply gr_set | with_reducible apply gr_drew | with_reducible apply gr_drewN | exact Nat.le_add_right _ _ | exact Nat.le_refl _ | (refine gr_then (by with_reducible assumption) ?_)⟩
      · go_wp2
        go_region
        go_wp2
        go_returns
        exact ⟨by rw [HX.out], by repeat' first | exact gr_refl _ | with_reducible assumption | with_reducible apply gr_alloc | with_reducible apply gr_set | with_reducible apply gr_drew | with_reducible apply gr_drewN | exact Nat.le_add_right _ _ | exact Nat.le_refl _ | (refine gr_then (by with_reducible assumption) ?_)⟩
end Go.Proofs.YtmalbgbmapfiiaaDoor
