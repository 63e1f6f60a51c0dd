/- Contracts of EndOf, both sides: the greatest end of the tasks, 0 at least. -/
import Derived.Test.YtoglmeiffidcbaaConvTask
namespace Go.Proofs.Ytoglmeiffidcbaa
open Go.RowKit
def endI (zs : List Int) : Nat → Int
  | 0 => 0
  | k + 1 => maxI (endI zs k) (zs.getD (k * 4 + 3) 0)
set_option maxHeartbeats 1000000 in
theorem l12End_any (A : Option Addr) (n c : Nat) (zs : List Int) (w : World) (hz : zs.length = n * 4) (hn : n ≤ 1048576) (h : SI w w.heap.size A zs) :
    Calls Try.prog 46 #[.slice A n c] w fun e w' => e = .returned (.int .i64 (endI zs n)) ∧ w = w' := by
  have Hz := Lib.hid hz
  have H := Lib.hid h
  clear hz h
  go_enter Try.func46, Try.ntmps46
  go_wp2
  go_loop [3, 4] (fun m i => ∃ k : Nat, k ≤ n ∧ i = .int .i64 k ∧ m = .int .i64 (endI zs k)) (fun _ i => n - (intOf i).toNat)
  case atStart => exact ⟨0, by omega, rfl, rfl⟩
  case round =>
    obtain ⟨k, hk, rfl, rfl⟩ := hrel
    by_cases hlt : k < n
    · obtain ⟨b, off, rfl, hB, hcell⟩ := H.out (by rw [Hz.out]; omega)
      have c3 : w.cell? ⟨b, off + k * 4 + 3, none⟩ = some (.int .i64 (zs.getD (k * 4 + 3) 0)) := by have := hcell (k * 4 + 3) (by rw [Hz.out]; omega); rw [← Nat.add_assoc] at this; exact this
      obtain ⟨x, hx⟩ : ∃ x, x = zs.getD (k * 4 + 3) 0 := ⟨_, rfl⟩
      obtain ⟨y, hy⟩ : ∃ y, y = endI zs k := ⟨_, rfl⟩
      have HE := Lib.hid (show maxI y x = endI zs (k + 1) by rw [hx, hy]; rfl)
      rw [← hx] at c3; rw [← hy]; clear hcell hx hy
      go_wp2_with (go_at_call 62; refine (max00_any _ _ _).mono ?_; rintro e w1 ⟨rfl, rfl⟩)
      go_round
      case rel => exact ⟨k + 1, by omega, by go_num, by rw [HE.out]⟩
      case measure => simp [intOf]; omega
    · obtain rfl : k = n := by omega
      go_wp2
      go_ret
      exact ⟨rfl, rfl⟩
set_option maxHeartbeats 1000000 in
theorem specEndOf_any (A : Option Addr) (n c : Nat) (zs : List Int) (w : World) (hz : zs.length = n * 4) (hn : n ≤ 1048576) (h : SI w w.heap.size A zs) :
    Calls Try.prog 22 #[.slice A n c] w fun e w' => e = .returned (.int .i64 (endI zs n)) ∧ w = w' := by
  have Hz := Lib.hid hz
  have H := Lib.hid h
  clear hz h
  go_enter Try.func22, Try.ntmps22
  go_wp2_with fail
  go_at_call 46; refine (l12End_any _ _ _ _ _ Hz.out hn H.out).mono ?_; rintro e w1 ⟨rfl, rfl⟩
  go_wp2
  go_ret
  exact ⟨rfl, rfl⟩
set_option maxHeartbeats 1000000 in
theorem implEndOf_any (A : Option Addr) (n c : Nat) (zs : List Int) (w : World) (hz : zs.length = n * 4) (hn : n ≤ 1048576) (h : SI w w.heap.size A zs) :
    Calls Try.prog 24 #[.slice A n c] w fun e w' => e = .returned (.int .i64 (endI zs n)) ∧ Below w.heap.size w w' := by
  have Hz := Lib.hid hz
  have H := Lib.hid h
  clear hz h
  go_enter Try.func24, Try.ntmps24
  go_wp2
  go_loopw [3, 8] (fun m i wr => ∃ k : Nat, k ≤ n ∧ i = .int .i64 k ∧ m = .int .i64 (endI zs k) ∧ Below w.heap.size w wr) (fun _ i _ => n - (intOf i).toNat)
  case atStart => exact ⟨0, by omega, rfl, rfl, gr_refl w⟩
  case round =>
    obtain ⟨k, hk, rfl, rfl, hbe⟩ := hrel
    by_cases hlt : k < n
    · obtain ⟨b, off, rfl, hB, hcell⟩ := (H.out.below hbe) (by rw [Hz.out]; omega)
      have c0 : wr.cell? ⟨b, off + k * 4, none⟩ = some (.int .i64 (zs.getD (k * 4) 0)) := by have := hcell (k * 4) (by rw [Hz.out]; omega); exact this
      have c1 : wr.cell? ⟨b, off + k * 4 + 1, none⟩ = some (.int .i64 (zs.getD (k * 4 + 1) 0)) := by have := hcell (k * 4 + 1) (by rw [Hz.out]; omega); rw [← Nat.add_assoc] at this; exact this
      have c2 : wr.cell? ⟨b, off + k * 4 + 2, none⟩ = some (.int .i64 (zs.getD (k * 4 + 2) 0)) := by have := hcell (k * 4 + 2) (by rw [Hz.out]; omega); rw [← Nat.add_assoc] at this; exact this
      have c3 : wr.cell? ⟨b, off + k * 4 + 3, none⟩ = some (.int .i64 (zs.getD (k * 4 + 3) 0)) := by have := hcell (k * 4 + 3) (by rw [Hz.out]; omega); rw [← Nat.add_assoc] at this; exact this
      obtain ⟨x, hx⟩ : ∃ x, x = zs.getD (k * 4 + 3) 0 := ⟨_, rfl⟩
      obtain ⟨y, hy⟩ : ∃ y, y = endI zs k := ⟨_, rfl⟩
      have HE := Lib.hid (show maxI y x = endI zs (k + 1) by rw [hx, hy]; rfl)
      rw [← hx] at c3; rw [← hy]; clear hcell hx hy
      have HB := Lib.hid hbe
      clear hbe
      by_cases hm : y < x
      · rw [show maxI y x = x from if_pos hm] at HE
        go_wp2
        go_roundw
        case rel => exact ⟨k + 1, by omega, by go_num, by rw [HE.out], by have := HB.out; repeat' first | exact gr_refl _ | with_reducible assumption | with_reducible apply gr_alloc | with_reducible apply gr_set | with_reducible apply gr_drew | with_reducible apply gr_drewN | exact Nat.le_add_right _ _ | exact Nat.le_refl _ | (refine gr_then (by with_reducible assumption) ?_)⟩
        case measure => simp [intOf]; omega
      · rw [show maxI y x = y from if_neg hm] at HE
        go_wp2
        go_roundw
        case rel => exact ⟨k + 1, by omega, by go_num, by rw [HE.out], by have := HB.out; repeat' first | exact gr_refl _ | with_reducible assumption | with_reducible apply gr_alloc | with_reducible apply gr_set | with_reducible apply gr_drew | with_reducible apply gr_drewN | exact Nat.le_add_right _ _ | exact Nat.le_refl _ | (refine gr_then (by with_reducible assumption) ?_)⟩
        case measure => simp [intOf]; omega
    · obtain rfl : k = n := by omega
      go_wp2
      go_ret
      exact ⟨rfl, hbe⟩
end Go.Proofs.Ytoglmeiffidcbaa
