/- The law's conversions and comparisons of ChartStep: each computes only; new blocks alone. -/
import Derived.Test.YtoglmeiffidcbaaDoorBase
import Derived.Test.YtoglmeiffidcbaaDoorSlices
import Derived.StillTailTactics
namespace Go.Proofs.YtoglmeiffidcbaaDoor
open Go.RowKit
set_option maxHeartbeats 1000000 in
theorem toChartStep_any (x0 x1 : Int) (w : World) : Calls Tryd.prog 64 #[.agg #[.int .i64 x0, .int .i64 x1]] w fun e w' => e = .returned (.agg #[.int .i64 x0, .int .i64 x1]) ∧ Below w.heap.size w w' := by
  go_enter Tryd.func64, Tryd.ntmps64; go_wp2; go_returns; exact ⟨rfl, by repeat' first | exact gr_refl _ | with_reducible assumption | with_reducible apply gr_alloc | with_reducible apply gr_set | with_reducible apply gr_drew | with_reducible apply gr_drewN | exact Nat.le_add_right _ _ | exact Nat.le_refl _ | (refine gr_then (by with_reducible assumption) ?_)⟩
theorem infoChartStep : (Tryd.prog.info? 84).map (fun i => (i.zero, i.size, i.bytes)) = some (some (.agg #[.int .i64 0, .int .i64 0]), 2, 16) := by kernel_rfl
theorem madeChartStep (n : Nat) (hn : n ≤ 1048576) (w : World) : (Instr.makeSlice 36 (.int .i64 (n : Int)) (.int .i64 (n : Int))).run Tryd.prog w = .ok (.slice (some ⟨w.heap.size, 0, none⟩) n n) (w.alloc (.cells (Array.replicate (n * 2) (.int .i64 0)) 84)) := by
  obtain ⟨i0, hi, hz0, hz1, hz2⟩ := info_parts infoChartStep
  exact made_ints 36 84 i0 _ 2 Tryd.underlying36 hi hz0 hz1 (by intro j hj; have hj : j < 2 := hj; match j, hj with | 0, _ => rfl | 1, _ => rfl) (by show 0 < 2; omega) n (by rw [hz2]; omega) (by omega) w
set_option maxHeartbeats 2000000 in
theorem toChartStepS_any (A : Option Addr) (n c : Nat) (zs : List Int) (w : World) (hz : zs.length = n * 2) (hn : n ≤ 1048576) (h : SI w w.heap.size A zs) :
    Calls Tryd.prog 36 #[.slice A n c] w fun e w' => e = .returned (.slice (some ⟨w.heap.size, 0, none⟩) n n) ∧ BI w' w.heap.size 84 zs ∧ Below w.heap.size w w' := by
  have hmk := madeChartStep n hn
  have Hz := Lib.hid hz
  have H := Lib.hid h
  clear hz h
  go_enter Tryd.func36, Tryd.ntmps36
  go_wp2
  go_loopw [4] (fun i wr => ∃ k : Nat, k ≤ n ∧ i = .int .i64 k ∧ BI wr w.heap.size 84 (rowK zs (k * 2)) ∧ Below w.heap.size w wr) (fun i _ => n - (intOf i).toNat)
  case atStart => exact ⟨0, by omega, rfl, by rw [Nat.zero_mul, rowK_zero, Hz.out]; exact BI.made w _ _, gr_alloc (gr_refl w)⟩
  case round =>
    obtain ⟨k, hk, rfl, hbi, hbe⟩ := hrel
    by_cases hlt : k < n
    · have hl : k * 2 + 1 < zs.length := by rw [Hz.out]; omega
      obtain ⟨b, off, rfl, hB, hcell⟩ := (H.out.below hbe) (by omega)
      have c0 : wr.cell? ⟨b, off + k * 2, none⟩ = some (.int .i64 (zs.getD (k * 2) 0)) := by have := hcell (k * 2) (by omega); exact this
      have c1 : wr.cell? ⟨b, off + k * 2 + 1, none⟩ = some (.int .i64 (zs.getD (k * 2 + 1) 0)) := by have := hcell (k * 2 + 1) (by omega); rw [← Nat.add_assoc] at this; exact this
      have hset : BI wr w.heap.size 84 (rowK zs (k * 2)) := hbi
      obtain ⟨x0, hx0⟩ : ∃ x, x = zs.getD (k * 2) 0 := ⟨_, rfl⟩
      rw [← hx0] at c0
      obtain ⟨x1, hx1⟩ : ∃ x, x = zs.getD (k * 2 + 1) 0 := ⟨_, rfl⟩
      rw [← hx1] at c1
      have HS := Lib.hid (show (((rowK zs (k * 2)).set (k * 2) x0).set (k * 2 + 1) x1) = rowK zs ((k + 1) * 2) from by
        rw [hx0, rowK_set (show k * 2 < zs.length by omega), hx1, rowK_set (show k * 2 + 1 < zs.length by omega), show (k + 1) * 2 = k * 2 + 2 by omega])
      clear hx0
      clear hx1
      clear hcell hset
      have hg0 := hbi.lt
      go_wp2_with fail
      go_at_call 64
      refine (toChartStep_any _ _ _).mono ?_
      rintro e w1 ⟨rfl, hb⟩
      have hb1 := hbi.below hb hg0
      have hbe1 := gr_then hb hbe
      have hlr : (rowK zs (k * 2)).length = zs.length := rowK_len (by omega)
      have d0 := hb1.cell (k * 2) (by omega)
      have f0 := hb1.free (k * 2)
      have d1 := hb1.cell (k * 2 + 1) (by omega)
      have f1 := hb1.free (k * 2 + 1)
      have hp0 := hb1.put (k * 2) x0
      have hp1 := hp0.put (k * 2 + 1) x1
      rw [HS.out] at hp1
      clear hlr hb hp0
      have HP := Lib.hid hp1
      have HB := Lib.hid hbe1
      have HL := Lib.hid hl
      clear hp1 hb1 hbi hbe hbe1 hl
      go_wp2
      go_roundw
      case rel => exact ⟨k + 1, by omega, by go_num, HP.out, by have := HB.out; repeat' first | exact gr_refl _ | with_reducible assumption | with_reducible apply gr_alloc | with_reducible apply gr_set | with_reducible apply gr_drew | with_reducible apply gr_drewN | exact Nat.le_add_right _ _ | exact Nat.le_refl _ | (refine gr_then (by with_reducible assumption) ?_)⟩
      case measure => simp [intOf]; omega
    · obtain rfl : k = n := by omega
      rw [rowK_all (by rw [Hz.out]; omega)] at hbi
      go_wp2
      go_ret
      exact ⟨rfl, hbi, hbe⟩
set_option maxHeartbeats 400000 in
theorem szChartStepS_any (A : Option Addr) (n c : Nat) (left : Int) (w : World) (hn : n ≤ 9223372036854775807) (h0 : 0 ≤ left) (h1 : left ≤ 1048576) : Calls Tryd.prog 31 #[.slice A n c, .int .i64 left] w fun e w' => e = .returned (.int .i64 (if left < n then -1 else left - n)) ∧ w = w' := by
  by_cases hl : left < n
  · rw [if_pos hl]; go_enter Tryd.func31, Tryd.ntmps31; go_wp2; go_ret; exact ⟨rfl, rfl⟩
  · rw [if_neg hl]; go_enter Tryd.func31, Tryd.ntmps31; go_wp2; go_ret; exact ⟨rfl, rfl⟩
set_option maxHeartbeats 1000000 in
theorem eqChartStep_same (x0 x1 : Int) (w : World) : Calls Tryd.prog 69 #[.agg #[.int .i64 x0, .int .i64 x1], .agg #[.int .i64 x0, .int .i64 x1]] w fun e w' => e = .returned (.bool true) ∧ Below w.heap.size w w' := by
  go_enter Tryd.func69, Tryd.ntmps69; go_wp2; go_returns; exact ⟨rfl, by repeat' first | exact gr_refl _ | with_reducible assumption | with_reducible apply gr_alloc | with_reducible apply gr_set | with_reducible apply gr_drew | with_reducible apply gr_drewN | exact Nat.le_add_right _ _ | exact Nat.le_refl _ | (refine gr_then (by with_reducible assumption) ?_)⟩
set_option maxHeartbeats 2000000 in
set_option maxRecDepth 20000 in
theorem eqChartStepS_same (A A' : Option Addr) (n c c' : Nat) (zs : List Int) (w : World) (hz : zs.length = n * 2) (hn : n ≤ 1048576) (h : SI w w.heap.size A zs) (h' : SI w w.heap.size A' zs) :
    Calls Tryd.prog 42 #[.slice A n c, .slice A' n c'] w fun e w' => e = .returned (.bool true) ∧ Below w.heap.size w w' := by
  have Hz := Lib.hid hz
  have H := Lib.hid h
  have H' := Lib.hid h'
  clear hz h h'
  go_enter Tryd.func42, Tryd.ntmps42
  go_wp2
  go_loopw [5] (fun i wr => ∃ k : Nat, k ≤ n ∧ i = .int .i64 k ∧ Below w.heap.size w wr) (fun i _ => n - (intOf i).toNat)
  case atStart => exact ⟨0, by omega, rfl, gr_refl w⟩
  case round =>
    obtain ⟨k, hk, rfl, hbe⟩ := hrel
    by_cases hlt : k < n
    · have hl : k * 2 + 1 < zs.length := by rw [Hz.out]; omega
      obtain ⟨b, off, rfl, hB, hcell⟩ := (H.out.below hbe) (by omega)
      obtain ⟨b', off', rfl, hB', hcell'⟩ := (H'.out.below hbe) (by omega)
      have c0 : wr.cell? ⟨b, off + k * 2, none⟩ = some (.int .i64 (zs.getD (k * 2) 0)) := by have := hcell (k * 2) (by omega); exact this
      have c0' : wr.cell? ⟨b', off' + k * 2, none⟩ = some (.int .i64 (zs.getD (k * 2) 0)) := by have := hcell' (k * 2) (by omega); exact this
      have c1 : wr.cell? ⟨b, off + k * 2 + 1, none⟩ = some (.int .i64 (zs.getD (k * 2 + 1) 0)) := by have := hcell (k * 2 + 1) (by omega); rw [← Nat.add_assoc] at this; exact this
      have c1' : wr.cell? ⟨b', off' + k * 2 + 1, none⟩ = some (.int .i64 (zs.getD (k * 2 + 1) 0)) := by have := hcell' (k * 2 + 1) (by omega); rw [← Nat.add_assoc] at this; exact this
      obtain ⟨x0, hx0⟩ : ∃ x, x = zs.getD (k * 2) 0 := ⟨_, rfl⟩
      rw [← hx0] at c0 c0'; clear hx0
      obtain ⟨x1, hx1⟩ : ∃ x, x = zs.getD (k * 2 + 1) 0 := ⟨_, rfl⟩
      rw [← hx1] at c1 c1'; clear hx1
      clear hcell hcell'
      go_wp2
      go_still_tail 8, (by kernel_rfl)
      change wpList _ _ _ _ _ wr.drew
      have HB := Lib.hid hbe
      clear hbe
      obtain ⟨w2, hw2⟩ : ∃ w2, w2 = wr.drew := ⟨_, rfl⟩
      have HW := Lib.hid hw2
      rw [← hw2]
      clear hw2
      go_wp2_with fail
      go_at_call 69
      refine (eqChartStep_same _ _ _).mono ?_
      rintro e w1 ⟨rfl, hb⟩
      go_wp2
      go_roundw
      case rel => exact ⟨k + 1, by omega, by go_num, gr_then hb (by rw [HW.out]; exact gr_drew HB.out)⟩
      case measure => simp [intOf]; omega
    · go_wp2
      go_ret
      exact ⟨rfl, hbe⟩
end Go.Proofs.YtoglmeiffidcbaaDoor
