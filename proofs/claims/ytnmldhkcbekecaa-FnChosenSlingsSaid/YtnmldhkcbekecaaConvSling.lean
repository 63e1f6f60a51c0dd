/- Slices of slings: sizes, copies, comparisons. -/
import Derived.Test.YtnmldhkcbekecaaOpen
import Derived.Test.YtnmldhkcbekecaaSlingG
import Derived.StillTailTactics
namespace Go.Proofs.Ytnmldhkcbekecaa
open Go.RowKit
theorem infoSling : (Try.prog.info? 25).map (fun i => (i.zero, i.size, i.bytes)) = some (some (.agg #[.int .i64 0, .int .i64 0, .int .i64 0, .int .i64 0]), 4, 32) := by kernel_rfl
theorem madeSling (n : Nat) (hn : n ≤ 1048576) (w : World) : (Instr.makeSlice 43 (.int .i64 (n : Int)) (.int .i64 (n : Int))).run Try.prog w = .ok (.slice (some ⟨w.heap.size, 0, none⟩) n n) (w.alloc (.cells (Array.replicate (n * 4) (.int .i64 0)) 25)) := by
  obtain ⟨i0, hi, hz0, hz1, hz2⟩ := info_parts infoSling
  exact made_ints 43 25 i0 _ 4 Try.underlying43 hi hz0 hz1 (by intro j hj; have hj : j < 4 := hj; match j, hj with | 0, _ => rfl | 1, _ => rfl | 2, _ => rfl | 3, _ => rfl) (by show 0 < 4; omega) n (by rw [hz2]; omega) (by omega) w
set_option maxHeartbeats 2000000 in
theorem toSlingS_any (A : Option Addr) (n c : Nat) (zs : List Int) (w : World) (hz : zs.length = n * 4) (hn : n ≤ 1048576) (h : SI w w.heap.size A zs) :
    Calls Try.prog 33 #[.slice A n c] w fun e w' => e = .returned (.slice (some ⟨w.heap.size, 0, none⟩) n n) ∧ BI w' w.heap.size 25 zs ∧ Below w.heap.size w w' := by
  have hmk := madeSling n hn
  have Hz := Lib.hid hz
  have H := Lib.hid h
  clear hz h
  go_enter Try.func33, Try.ntmps33
  go_wp2
  go_loopw [4] (fun i wr => ∃ k : Nat, k ≤ n ∧ i = .int .i64 k ∧ BI wr w.heap.size 25 (rowK zs (k * 4)) ∧ Below w.heap.size w wr) (fun i _ => n - (intOf i).toNat)
  case atStart => exact ⟨0, by omega, rfl, by rw [Nat.zero_mul, rowK_zero, Hz.out]; exact BI.made w _ _, gr_alloc (gr_refl w)⟩
  case round =>
    obtain ⟨k, hk, rfl, hbi, hbe⟩ := hrel
    by_cases hlt : k < n
    · have hl : k * 4 + 3 < zs.length := by rw [Hz.out]; omega
      obtain ⟨b, off, rfl, hB, hcell⟩ := (H.out.below hbe) (by omega)
      have c0 : wr.cell? ⟨b, off + k * 4, none⟩ = some (.int .i64 (zs.getD (k * 4) 0)) := by have := hcell (k * 4) (by omega); exact this
      have c1 : wr.cell? ⟨b, off + k * 4 + 1, none⟩ = some (.int .i64 (zs.getD (k * 4 + 1) 0)) := by have := hcell (k * 4 + 1) (by omega); rw [← Nat.add_assoc] at this; exact this
      have c2 : wr.cell? ⟨b, off + k * 4 + 2, none⟩ = some (.int .i64 (zs.getD (k * 4 + 2) 0)) := by have := hcell (k * 4 + 2) (by omega); rw [← Nat.add_assoc] at this; exact this
      have c3 : wr.cell? ⟨b, off + k * 4 + 3, none⟩ = some (.int .i64 (zs.getD (k * 4 + 3) 0)) := by have := hcell (k * 4 + 3) (by omega); rw [← Nat.add_assoc] at this; exact this
      have hset : BI wr w.heap.size 25 (rowK zs (k * 4)) := hbi
      obtain ⟨x0, hx0⟩ : ∃ x, x = zs.getD (k * 4) 0 := ⟨_, rfl⟩
      rw [← hx0] at c0
      obtain ⟨x1, hx1⟩ : ∃ x, x = zs.getD (k * 4 + 1) 0 := ⟨_, rfl⟩
      rw [← hx1] at c1
      obtain ⟨x2, hx2⟩ : ∃ x, x = zs.getD (k * 4 + 2) 0 := ⟨_, rfl⟩
      rw [← hx2] at c2
      obtain ⟨x3, hx3⟩ : ∃ x, x = zs.getD (k * 4 + 3) 0 := ⟨_, rfl⟩
      rw [← hx3] at c3
      have HS := Lib.hid (show (((((rowK zs (k * 4)).set (k * 4) x0).set (k * 4 + 1) x1).set (k * 4 + 2) x2).set (k * 4 + 3) x3) = rowK zs ((k + 1) * 4) from by
        rw [hx0, rowK_set (show k * 4 < zs.length by omega), hx1, rowK_set (show k * 4 + 1 < zs.length by omega), hx2, rowK_set (show k * 4 + 2 < zs.length by omega), hx3, rowK_set (show k * 4 + 3 < zs.length by omega), show (k + 1) * 4 = k * 4 + 4 by omega])
      clear hx0
      clear hx1
      clear hx2
      clear hx3
      clear hcell hset
      have hg0 := hbi.lt
      go_wp2_with fail
      go_at_call 14
      refine (toSling_any _ _ _ _ _).mono ?_
      rintro e w1 ⟨rfl, hb⟩
      have hb1 := hbi.below hb hg0
      have hbe1 := gr_then hb hbe
      have hlr : (rowK zs (k * 4)).length = zs.length := rowK_len (by omega)
      have d0 := hb1.cell (k * 4) (by omega)
      have f0 := hb1.free (k * 4)
      have d1 := hb1.cell (k * 4 + 1) (by omega)
      have f1 := hb1.free (k * 4 + 1)
      have d2 := hb1.cell (k * 4 + 2) (by omega)
      have f2 := hb1.free (k * 4 + 2)
      have d3 := hb1.cell (k * 4 + 3) (by omega)
      have f3 := hb1.free (k * 4 + 3)
      have hp0 := hb1.put (k * 4) x0
      have hp1 := hp0.put (k * 4 + 1) x1
      have hp2 := hp1.put (k * 4 + 2) x2
      have hp3 := hp2.put (k * 4 + 3) x3
      rw [HS.out] at hp3
      clear hlr hb hp0 hp1 hp2
      have HP := Lib.hid hp3
      have HB := Lib.hid hbe1
      have HL := Lib.hid hl
      clear hp3 hb1 hbi hbe hbe1 hl
      go_wp2
      go_roundw
      case rel => exact ⟨k + 1, by omega, by go_num, HP.out, by have := HB.out; repeat' first | exact gr_refl _ | with_reducible assumption | with_reducible apply gr_alloc | with_reducible apply gr_set | with_reducible apply gr_drew | with_reducible apply gr_drewN | exact Nat.le_add_right _ _ | exact Nat.le_refl _ | (refine gr_then (by with_reducible assumption) ?_)⟩
      case measure => simp [intOf]; omega
    · obtain rfl : k = n := by omega
      rw [rowK_all (by rw [Hz.out]; omega)] at hbi
      go_wp2
      go_ret
      exact ⟨rfl, hbi, hbe⟩
set_option maxHeartbeats 400000 in
theorem szSlingS_any (A : Option Addr) (n c : Nat) (left : Int) (w : World) (hn : n ≤ 9223372036854775807) (h0 : 0 ≤ left) (h1 : left ≤ 1048576) : Calls Try.prog 31 #[.slice A n c, .int .i64 left] w fun e w' => e = .returned (.int .i64 (if left < n then -1 else left - n)) ∧ w = w' := by
  by_cases hl : left < n
  · rw [if_pos hl]; go_enter Try.func31, Try.ntmps31; go_wp2; go_ret; exact ⟨rfl, rfl⟩
  · rw [if_neg hl]; go_enter Try.func31, Try.ntmps31; go_wp2; go_ret; exact ⟨rfl, rfl⟩
set_option maxHeartbeats 1000000 in
theorem eqSling_same (x0 x1 x2 x3 : Int) (w : World) : Calls Try.prog 62 #[.agg #[.int .i64 x0, .int .i64 x1, .int .i64 x2, .int .i64 x3], .agg #[.int .i64 x0, .int .i64 x1, .int .i64 x2, .int .i64 x3]] w fun e w' => e = .returned (.bool true) ∧ Below w.heap.size w w' := by
  go_enter Try.func62, Try.ntmps62; go_wp2; go_returns; exact ⟨rfl, by repeat' first | exact gr_refl _ | with_reducible assumption | with_reducible apply gr_alloc | with_reducible apply gr_set | with_reducible apply gr_drew | with_reducible apply gr_drewN | exact Nat.le_add_right _ _ | exact Nat.le_refl _ | (refine gr_then (by with_reducible assumption) ?_)⟩
set_option maxHeartbeats 2000000 in
theorem eqSlingS_same (A A' : Option Addr) (n c c' : Nat) (zs : List Int) (w : World) (hz : zs.length = n * 4) (hn : n ≤ 1048576) (h : SI w w.heap.size A zs) (h' : SI w w.heap.size A' zs) :
    Calls Try.prog 36 #[.slice A n c, .slice A' n c'] w fun e w' => e = .returned (.bool true) ∧ Below w.heap.size w w' := by
  have Hz := Lib.hid hz
  have H := Lib.hid h
  have H' := Lib.hid h'
  clear hz h h'
  go_enter Try.func36, Try.ntmps36
  go_wp2
  go_loopw [5] (fun i wr => ∃ k : Nat, k ≤ n ∧ i = .int .i64 k ∧ Below w.heap.size w wr) (fun i _ => n - (intOf i).toNat)
  case atStart => exact ⟨0, by omega, rfl, gr_refl w⟩
  case round =>
    obtain ⟨k, hk, rfl, hbe⟩ := hrel
    by_cases hlt : k < n
    · have hl : k * 4 + 3 < zs.length := by rw [Hz.out]; omega
      obtain ⟨b, off, rfl, hB, hcell⟩ := (H.out.below hbe) (by omega)
      obtain ⟨b', off', rfl, hB', hcell'⟩ := (H'.out.below hbe) (by omega)
      have c0 : wr.cell? ⟨b, off + k * 4, none⟩ = some (.int .i64 (zs.getD (k * 4) 0)) := by have := hcell (k * 4) (by omega); exact this
      have c0' : wr.cell? ⟨b', off' + k * 4, none⟩ = some (.int .i64 (zs.getD (k * 4) 0)) := by have := hcell' (k * 4) (by omega); exact this
      have c1 : wr.cell? ⟨b, off + k * 4 + 1, none⟩ = some (.int .i64 (zs.getD (k * 4 + 1) 0)) := by have := hcell (k * 4 + 1) (by omega); rw [← Nat.add_assoc] at this; exact this
      have c1' : wr.cell? ⟨b', off' + k * 4 + 1, none⟩ = some (.int .i64 (zs.getD (k * 4 + 1) 0)) := by have := hcell' (k * 4 + 1) (by omega); rw [← Nat.add_assoc] at this; exact this
      have c2 : wr.cell? ⟨b, off + k * 4 + 2, none⟩ = some (.int .i64 (zs.getD (k * 4 + 2) 0)) := by have := hcell (k * 4 + 2) (by omega); rw [← Nat.add_assoc] at this; exact this
      have c2' : wr.cell? ⟨b', off' + k * 4 + 2, none⟩ = some (.int .i64 (zs.getD (k * 4 + 2) 0)) := by have := hcell' (k * 4 + 2) (by omega); rw [← Nat.add_assoc] at this; exact this
      have c3 : wr.cell? ⟨b, off + k * 4 + 3, none⟩ = some (.int .i64 (zs.getD (k * 4 + 3) 0)) := by have := hcell (k * 4 + 3) (by omega); rw [← Nat.add_assoc] at this; exact this
      have c3' : wr.cell? ⟨b', off' + k * 4 + 3, none⟩ = some (.int .i64 (zs.getD (k * 4 + 3) 0)) := by have := hcell' (k * 4 + 3) (by omega); rw [← Nat.add_assoc] at this; exact this
      obtain ⟨x0, hx0⟩ : ∃ x, x = zs.getD (k * 4) 0 := ⟨_, rfl⟩
      rw [← hx0] at c0 c0'; clear hx0
      obtain ⟨x1, hx1⟩ : ∃ x, x = zs.getD (k * 4 + 1) 0 := ⟨_, rfl⟩
      rw [← hx1] at c1 c1'; clear hx1
      obtain ⟨x2, hx2⟩ : ∃ x, x = zs.getD (k * 4 + 2) 0 := ⟨_, rfl⟩
      rw [← hx2] at c2 c2'; clear hx2
      obtain ⟨x3, hx3⟩ : ∃ x, x = zs.getD (k * 4 + 3) 0 := ⟨_, rfl⟩
      rw [← hx3] at c3 c3'; clear hx3
      clear hcell hcell'
      go_wp2
      go_still_tail 8, (by kernel_rfl)
      change wpList _ _ _ _ _ wr.drew
      have HB := Lib.hid hbe
      clear hbe
      obtain ⟨w2, hw2⟩ : ∃ w2, w2 = wr.drew := ⟨_, rfl⟩
      have HW := Lib.hid hw2
      rw [← hw2]
      clear hw2
      go_wp2_with fail
      go_at_call 62
      refine (eqSling_same _ _ _ _ _).mono ?_
      rintro e w1 ⟨rfl, hb⟩
      go_wp2
      go_roundw
      case rel => exact ⟨k + 1, by omega, by go_num, gr_then hb (by rw [HW.out]; exact gr_drew HB.out)⟩
      case measure => simp [intOf]; omega
    · go_wp2
      go_ret
      exact ⟨rfl, hbe⟩
end Go.Proofs.Ytnmldhkcbekecaa
