/- The laws' functions on slices of integers: sizes, copies, comparisons. -/
import Derived.Test.YtoojnfdphjdocaaDoorTabW
namespace Go.Proofs.YtoojnfdphjdocaaDoor
open Go.RowKit
set_option maxHeartbeats 1000000 in
theorem szInt64S_any (A : Option Addr) (n c : Nat) (left : Int) (w : World) (hn : n ≤ 9223372036854775807) (h0 : 0 ≤ left) (h1 : left ≤ 1048576) : Calls Tryd.prog 14 #[.slice A n c, .int .i64 left] w fun e w' => e = .returned (.int .i64 (if left < n then -1 else left - n)) ∧ w = w' := by
  by_cases hl : left < n
  · rw [if_pos hl]; go_enter Tryd.func14, Tryd.ntmps14; go_wp2; go_ret; exact ⟨rfl, rfl⟩
  · rw [if_neg hl]; go_enter Tryd.func14, Tryd.ntmps14; go_wp2; go_ret; exact ⟨rfl, rfl⟩
theorem infoInt : (Tryd.prog.info? 2).map (fun i => (i.zero, i.size, i.bytes)) = some (some (.int .i64 0), 1, 8) := by kernel_rfl
theorem madeInt (n : Nat) (hn : n ≤ 1048576) (w : World) : (Instr.makeSlice 22 (.int .i64 (n : Int)) (.int .i64 (n : Int))).run Tryd.prog w = .ok (.slice (some ⟨w.heap.size, 0, none⟩) n n) (w.alloc (.cells (Array.replicate n (.int .i64 0)) 2)) := by
  obtain ⟨i0, hi, hz0, hz1, hz2⟩ := info_parts infoInt
  exact made_one 22 2 i0 _ Tryd.underlying22 hi hz0 hz1 rfl n (by rw [hz2]; omega) (by omega) w
set_option maxHeartbeats 1000000 in
theorem toInt64S_any (A : Option Addr) (c : Nat) (xs : List Int) (w : World) (hn : xs.length ≤ 1048576) (h : SV (.int .i64) w w.heap.size A xs) : Calls Tryd.prog 17 #[.slice A xs.length c] w fun e w' => e = .returned (.slice (some ⟨w.heap.size, 0, none⟩) xs.length xs.length) ∧ BV (.int .i64) w' w.heap.size 2 xs ∧ Below w.heap.size w w' := by
  have hmk := madeInt xs.length hn
  have H := Lib.hid h
  clear h
  obtain ⟨n, hn'⟩ : ∃ n, xs.length = n := ⟨_, rfl⟩
  have HN := Lib.hid hn'
  rw [hn'] at hn hmk ⊢
  clear hn'
  go_enter Tryd.func17, Tryd.ntmps17
  go_wp2
  go_loopw [4] (fun i wr => ∃ k : Nat, k ≤ n ∧ i = .int .i64 k ∧ BV (.int .i64) wr w.heap.size 2 (rowV 0 xs k) ∧ Below w.heap.size w wr) (fun i _ => n - (intOf i).toNat)
  case atStart => exact ⟨0, by omega, rfl, by rw [rowV_zero, HN.out]; exact BV.made w _ _ _, gr_alloc (gr_refl w)⟩
  case round =>
    obtain ⟨k, hk, rfl, hbv, hbe⟩ := hrel
    by_cases hlt : k < n
    · obtain ⟨x, hx⟩ := at_of_lt (xs := xs) (k := k) (by rw [HN.out]; exact hlt)
      obtain ⟨b, off, rfl, hB, hc⟩ := (H.out.below hbe).at_ hx
      have hr : (rowV 0 xs k)[k]? = some 0 := by rw [rowV_at (by rw [HN.out]; omega), if_neg (by omega), if_pos (by rw [HN.out]; omega)]
      have hc2 := hbv.cell hr
      have hf2 := hbv.free k
      have HP := Lib.hid (rowV_set (z := 0) hx ▸ hbv.put k x)
      have HB := Lib.hid hbe
      clear hbv hbe hr hx
      go_wp2
      go_roundw
      case rel => exact ⟨k + 1, by omega, by go_num, HP.out, HB.out.setCell (Nat.le_refl _) _⟩
      case measure => simp [intOf]; omega
    · obtain rfl : k = n := by omega
      rw [rowV_all (by rw [HN.out]; omega)] at hbv
      go_wp2
      go_ret
      exact ⟨rfl, hbv, hbe⟩
set_option maxHeartbeats 1000000 in
theorem eqInt64S_same (A A' : Option Addr) (c c' : Nat) (xs : List Int) (w : World) (hn : xs.length ≤ 1048576) (h : SV (.int .i64) w w.heap.size A xs) (h' : SV (.int .i64) w w.heap.size A' xs) : Calls Tryd.prog 23 #[.slice A xs.length c, .slice A' xs.length c'] w fun e w' => e = .returned (.bool true) ∧ ∃ q, w' = w.drewN q := by
  have H := Lib.hid h
  have H' := Lib.hid h'
  clear h h'
  obtain ⟨n, hn'⟩ : ∃ n, xs.length = n := ⟨_, rfl⟩
  have HN := Lib.hid hn'
  rw [hn'] at hn ⊢
  clear hn'
  go_enter Tryd.func23, Tryd.ntmps23
  go_wp2
  go_loopw [5] (fun i wr => ∃ k : Nat, k ≤ n ∧ i = .int .i64 k ∧ ∃ q, wr = w.drewN q) (fun i _ => n - (intOf i).toNat)
  case atStart => exact ⟨0, by omega, rfl, 0, rfl⟩
  case round =>
    obtain ⟨k, hk, rfl, q, rfl⟩ := hrel
    by_cases hlt : k < n
    · obtain ⟨x, hx⟩ := at_of_lt (xs := xs) (k := k) (by rw [HN.out]; exact hlt)
      obtain ⟨b, off, rfl, hB, hc⟩ := H.out.at_ hx
      obtain ⟨b', off', rfl, hB', hc'⟩ := H'.out.at_ hx
      clear hx
      have i0 : (0 : Int) ≤ (k : Int) := by omega
      have i1 : (k : Int) < (n : Int) := by omega
      go_wp2
      go_quiet (fail)
      go_wp2
      go_roundw
      case rel => exact ⟨k + 1, by omega, by go_num, _, rfl⟩
      case measure => simp [intOf]; omega
    · obtain rfl : k = n := by omega
      go_wp2
      go_ret
      exact ⟨rfl, q, rfl⟩
end Go.Proofs.YtoojnfdphjdocaaDoor
