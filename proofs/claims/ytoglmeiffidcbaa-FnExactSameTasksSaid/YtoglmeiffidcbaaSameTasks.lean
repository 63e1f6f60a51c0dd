/- Contracts of SameTasks, both sides: whether the lists of numbers are one. -/
import Derived.Test.YtoglmeiffidcbaaConvTask
import Derived.Laws.StructEq
namespace Go.Proofs.Ytoglmeiffidcbaa
open Go.RowKit
theorem neqTask (x0 x1 x2 x3 y0 y1 y2 y3 : Int) (w : World) : (binOp .neq 58 (.agg #[.int .i64 x0, .int .i64 x1, .int .i64 x2, .int .i64 x3]) (.agg #[.int .i64 y0, .int .i64 y1, .int .i64 y2, .int .i64 y3])).run Try.prog w = .ok (.bool (!(x0 == y0 && (x1 == y1 && (x2 == y2 && x3 == y3))))) w := by
  have u3 := Try.underlying2
  have hS : Try.prog.underlying 58 = some (.struct (Try.prog.fieldsOf 58)) := by kernel_rfl
  have hp : Try.prog.stoodInHeld 58 = false := by kernel_rfl
  rw [run_neq_struct, show (10000 : Nat) = 9999 + 1 from rfl, run_equalIn_agg w 9999 58 _ _ hS hp]
  simp only [Program.fieldsOf, Try.underlying58]
  go_simp
  by_cases h0 : x0 = y0 <;> by_cases h1 : x1 = y1 <;> by_cases h2 : x2 = y2 <;> by_cases h3 : x3 = y3 <;> simp [h0, h1, h2, h3]
theorem neqTask_y {x0 x1 x2 x3 y0 y1 y2 y3 : Int} (h0 : x0 = y0) (h1 : x1 = y1) (h2 : x2 = y2) (h3 : x3 = y3) (w : World) : (binOp .neq 58 (.agg #[.int .i64 x0, .int .i64 x1, .int .i64 x2, .int .i64 x3]) (.agg #[.int .i64 y0, .int .i64 y1, .int .i64 y2, .int .i64 y3])).run Try.prog w = .ok (.bool false) w := by rw [neqTask]; simp [h0, h1, h2, h3]
theorem neqTask_n {x0 x1 x2 x3 y0 y1 y2 y3 : Int} (h : ¬ (x0 = y0 ∧ x1 = y1 ∧ x2 = y2 ∧ x3 = y3)) (w : World) : (binOp .neq 58 (.agg #[.int .i64 x0, .int .i64 x1, .int .i64 x2, .int .i64 x3]) (.agg #[.int .i64 y0, .int .i64 y1, .int .i64 y2, .int .i64 y3])).run Try.prog w = .ok (.bool true) w := by
  rw [neqTask]
  have e : (x0 == y0 && (x1 == y1 && (x2 == y2 && x3 == y3))) = false := by
    rw [Bool.eq_false_iff]; intro hh; simp at hh; exact h hh
  rw [e]; rfl
def sameB (zs ys : List Int) : Bool := decide (zs = ys)
/-- the first m numbers are one and the same -/
def SameTo (zs ys : List Int) (m : Nat) : Prop := ∀ j, j < m → zs.getD j 0 = ys.getD j 0
theorem SameTo.all {zs ys : List Int} {m : Nat} (h : SameTo zs ys m) (hz : zs.length = m) (hy : ys.length = m) : sameB zs ys = true := by
  refine decide_eq_true (List.ext_getElem (by omega) fun j h1 h2 => ?_)
  have := h j (by omega)
  simpa [List.getD_eq_getElem?_getD, h1, h2] using this
theorem sameB_off {zs ys : List Int} {j : Nat} (h : ¬ zs.getD j 0 = ys.getD j 0) : sameB zs ys = false := decide_eq_false (fun e => h (by rw [e]))
theorem sameB_len {zs ys : List Int} (h : ¬ zs.length = ys.length) : sameB zs ys = false := decide_eq_false (fun e => h (by rw [e]))
theorem SameTo.step {zs ys : List Int} {k : Nat} (h : SameTo zs ys (k * 4)) (h0 : zs.getD (k * 4) 0 = ys.getD (k * 4) 0) (h1 : zs.getD (k * 4 + 1) 0 = ys.getD (k * 4 + 1) 0) (h2 : zs.getD (k * 4 + 2) 0 = ys.getD (k * 4 + 2) 0) (h3 : zs.getD (k * 4 + 3) 0 = ys.getD (k * 4 + 3) 0) : SameTo zs ys ((k + 1) * 4) := by
  intro j hj
  rcases (show j < k * 4 ∨ j = k * 4 ∨ j = k * 4 + 1 ∨ j = k * 4 + 2 ∨ j = k * 4 + 3 by omega) with hh | rfl | rfl | rfl | rfl
  · exact h j hh
  · exact h0
  · exact h1
  · exact h2
  · exact h3
set_option maxHeartbeats 2000000 in
theorem specSameTasks_any (A A' : Option Addr) (n n' c c' : Nat) (zs ys : List Int) (w : World) (hn : n ≤ 1048576) (hn' : n' ≤ 1048576) (hz : zs.length = n * 4) (hy : ys.length = n' * 4) (h : SI w w.heap.size A zs) (h' : SI w w.heap.size A' ys) :
    Calls Try.prog 31 #[.slice A n c, .slice A' n' c'] w fun e w' => e = .returned (.bool (sameB zs ys)) ∧ ∃ q, w' = w.drewN q := by
  by_cases hl : n = n'
  case neg =>
    have hl2 : ((n : Int) != (n' : Int)) = true := by rw [bne_iff_ne]; omega
    rw [sameB_len (by omega)]
    clear hz hy h h'
    go_enter Try.func31, Try.ntmps31; go_wp2; go_ret; exact ⟨rfl, 0, rfl⟩
  subst hl
  have Hz := Lib.hid hz
  have Hy := Lib.hid hy
  have H := Lib.hid h
  have H' := Lib.hid h'
  clear hz hy h h'
  go_enter Try.func31, Try.ntmps31
  go_wp2
  go_loopw [5] (fun i wr => ∃ k : Nat, k ≤ n ∧ i = .int .i64 k ∧ Hid (SameTo zs ys (k * 4)) ∧ ∃ q, wr = w.drewN q) (fun i _ => n - (intOf i).toNat)
  case atStart => exact ⟨0, by omega, rfl, fun j hj => by omega, 0, rfl⟩
  case round =>
    obtain ⟨k, hk, rfl, HS, q, rfl⟩ := hrel
    by_cases hlt : k < n
    · have hl : k * 4 + 3 < zs.length := by rw [Hz.out]; omega
      have hl' : k * 4 + 3 < ys.length := by rw [Hy.out]; omega
      obtain ⟨b, off, rfl, hB, hcell⟩ := H.out (by omega)
      obtain ⟨b', off', rfl, hB', hcell'⟩ := H'.out (by omega)
      have c0 : w.cell? ⟨b, off + k * 4, none⟩ = some (.int .i64 (zs.getD (k * 4) 0)) := by have := hcell (k * 4) (by omega); exact this
      have c0' : w.cell? ⟨b', off' + k * 4, none⟩ = some (.int .i64 (ys.getD (k * 4) 0)) := by have := hcell' (k * 4) (by omega); exact this
      have c1 : w.cell? ⟨b, off + k * 4 + 1, none⟩ = some (.int .i64 (zs.getD (k * 4 + 1) 0)) := by have := hcell (k * 4 + 1) (by omega); rw [← Nat.add_assoc] at this; exact this
      have c1' : w.cell? ⟨b', off' + k * 4 + 1, none⟩ = some (.int .i64 (ys.getD (k * 4 + 1) 0)) := by have := hcell' (k * 4 + 1) (by omega); rw [← Nat.add_assoc] at this; exact this
      have c2 : w.cell? ⟨b, off + k * 4 + 2, none⟩ = some (.int .i64 (zs.getD (k * 4 + 2) 0)) := by have := hcell (k * 4 + 2) (by omega); rw [← Nat.add_assoc] at this; exact this
      have c2' : w.cell? ⟨b', off' + k * 4 + 2, none⟩ = some (.int .i64 (ys.getD (k * 4 + 2) 0)) := by have := hcell' (k * 4 + 2) (by omega); rw [← Nat.add_assoc] at this; exact this
      have c3 : w.cell? ⟨b, off + k * 4 + 3, none⟩ = some (.int .i64 (zs.getD (k * 4 + 3) 0)) := by have := hcell (k * 4 + 3) (by omega); rw [← Nat.add_assoc] at this; exact this
      have c3' : w.cell? ⟨b', off' + k * 4 + 3, none⟩ = some (.int .i64 (ys.getD (k * 4 + 3) 0)) := by have := hcell' (k * 4 + 3) (by omega); rw [← Nat.add_assoc] at this; exact this
      obtain ⟨x0, hx0⟩ : ∃ x, x = zs.getD (k * 4) 0 := ⟨_, rfl⟩
      obtain ⟨y0, hy0⟩ : ∃ y, y = ys.getD (k * 4) 0 := ⟨_, rfl⟩
      rw [← hx0] at c0; rw [← hy0] at c0'
      obtain ⟨x1, hx1⟩ : ∃ x, x = zs.getD (k * 4 + 1) 0 := ⟨_, rfl⟩
      obtain ⟨y1, hy1⟩ : ∃ y, y = ys.getD (k * 4 + 1) 0 := ⟨_, rfl⟩
      rw [← hx1] at c1; rw [← hy1] at c1'
      obtain ⟨x2, hx2⟩ : ∃ x, x = zs.getD (k * 4 + 2) 0 := ⟨_, rfl⟩
      obtain ⟨y2, hy2⟩ : ∃ y, y = ys.getD (k * 4 + 2) 0 := ⟨_, rfl⟩
      rw [← hx2] at c2; rw [← hy2] at c2'
      obtain ⟨x3, hx3⟩ : ∃ x, x = zs.getD (k * 4 + 3) 0 := ⟨_, rfl⟩
      obtain ⟨y3, hy3⟩ : ∃ y, y = ys.getD (k * 4 + 3) 0 := ⟨_, rfl⟩
      rw [← hx3] at c3; rw [← hy3] at c3'
      clear hcell hcell'
      by_cases hs : x0 = y0 ∧ x1 = y1 ∧ x2 = y2 ∧ x3 = y3
      · have HT := Lib.hid (HS.out.step (by rw [← hx0, ← hy0]; exact hs.1) (by rw [← hx1, ← hy1]; exact hs.2.1) (by rw [← hx2, ← hy2]; exact hs.2.2.1) (by rw [← hx3, ← hy3]; exact hs.2.2.2))
        have hne := neqTask_y hs.1 hs.2.1 hs.2.2.1 hs.2.2.2
        clear hs HS hx0 hx1 hx2 hx3 hy0 hy1 hy2 hy3
        go_wp2
        go_quiet (fail)
        go_wp2
        go_roundw
        case rel => exact ⟨k + 1, by omega, by go_num, HT.out, _, rfl⟩
        case measure => simp [intOf]; omega
      · have hne := neqTask_n hs
        have HT := Lib.hid (show sameB zs ys = false from by
          by_cases e0 : x0 = y0
          case neg => exact sameB_off (j := k * 4) (by rw [← hx0, ← hy0]; exact e0)
          by_cases e1 : x1 = y1
          case neg => exact sameB_off (j := k * 4 + 1) (by rw [← hx1, ← hy1]; exact e1)
          by_cases e2 : x2 = y2
          case neg => exact sameB_off (j := k * 4 + 2) (by rw [← hx2, ← hy2]; exact e2)
          exact sameB_off (j := k * 4 + 3) (by rw [← hx3, ← hy3]; exact fun e3 => hs ⟨e0, e1, e2, e3⟩))
        clear hs HS hx0 hx1 hx2 hx3 hy0 hy1 hy2 hy3
        go_wp2
        go_quiet (fail)
        go_wp2
        go_ret
        exact ⟨ret_bool HT.out.symm, _, World.drewN_drewN _ _ _⟩
    · obtain rfl : k = n := by omega
      have HE := Lib.hid (HS.out.all Hz.out Hy.out)
      clear HS
      go_wp2
      go_ret
      exact ⟨ret_bool HE.out.symm, _, rfl⟩
set_option maxHeartbeats 2000000 in
theorem equalTask_any (A A' : Option Addr) (n n' c c' : Nat) (zs ys : List Int) (w : World) (hn : n ≤ 1048576) (hn' : n' ≤ 1048576) (hz : zs.length = n * 4) (hy : ys.length = n' * 4) (h : SI w w.heap.size A zs) (h' : SI w w.heap.size A' ys) :
    Calls Try.prog 54 #[.slice A n c, .slice A' n' c'] w fun e w' => e = .returned (.bool (sameB zs ys)) ∧ ∃ q, w' = w.drewN q := by
  by_cases hl : n = n'
  case neg =>
    have hl2 : ((n : Int) != (n' : Int)) = true := by rw [bne_iff_ne]; omega
    rw [sameB_len (by omega)]
    clear hz hy h h'
    go_enter Try.func54, Try.ntmps54; go_wp2; go_ret; exact ⟨rfl, 0, rfl⟩
  subst hl
  have Hz := Lib.hid hz
  have Hy := Lib.hid hy
  have H := Lib.hid h
  have H' := Lib.hid h'
  clear hz hy h h'
  go_enter Try.func54, Try.ntmps54
  go_wp2
  go_loopw [5, 13] (fun _ i wr => ∃ k : Nat, k ≤ n ∧ i = .int .i64 k ∧ Hid (SameTo zs ys (k * 4)) ∧ ∃ q, wr = w.drewN q) (fun _ i _ => n - (intOf i).toNat)
  case atStart => exact ⟨0, by omega, rfl, fun j hj => by omega, 0, rfl⟩
  case round =>
    obtain ⟨k, hk, rfl, HS, q, rfl⟩ := hrel
    by_cases hlt : k < n
    · have hl : k * 4 + 3 < zs.length := by rw [Hz.out]; omega
      have hl' : k * 4 + 3 < ys.length := by rw [Hy.out]; omega
      obtain ⟨b, off, rfl, hB, hcell⟩ := H.out (by omega)
      obtain ⟨b', off', rfl, hB', hcell'⟩ := H'.out (by omega)
      have c0 : w.cell? ⟨b, off + k * 4, none⟩ = some (.int .i64 (zs.getD (k * 4) 0)) := by have := hcell (k * 4) (by omega); exact this
      have c0' : w.cell? ⟨b', off' + k * 4, none⟩ = some (.int .i64 (ys.getD (k * 4) 0)) := by have := hcell' (k * 4) (by omega); exact this
      have c1 : w.cell? ⟨b, off + k * 4 + 1, none⟩ = some (.int .i64 (zs.getD (k * 4 + 1) 0)) := by have := hcell (k * 4 + 1) (by omega); rw [← Nat.add_assoc] at this; exact this
      have c1' : w.cell? ⟨b', off' + k * 4 + 1, none⟩ = some (.int .i64 (ys.getD (k * 4 + 1) 0)) := by have := hcell' (k * 4 + 1) (by omega); rw [← Nat.add_assoc] at this; exact this
      have c2 : w.cell? ⟨b, off + k * 4 + 2, none⟩ = some (.int .i64 (zs.getD (k * 4 + 2) 0)) := by have := hcell (k * 4 + 2) (by omega); rw [← Nat.add_assoc] at this; exact this
      have c2' : w.cell? ⟨b', off' + k * 4 + 2, none⟩ = some (.int .i64 (ys.getD (k * 4 + 2) 0)) := by have := hcell' (k * 4 + 2) (by omega); rw [← Nat.add_assoc] at this; exact this
      have c3 : w.cell? ⟨b, off + k * 4 + 3, none⟩ = some (.int .i64 (zs.getD (k * 4 + 3) 0)) := by have := hcell (k * 4 + 3) (by omega); rw [← Nat.add_assoc] at this; exact this
      have c3' : w.cell? ⟨b', off' + k * 4 + 3, none⟩ = some (.int .i64 (ys.getD (k * 4 + 3) 0)) := by have := hcell' (k * 4 + 3) (by omega); rw [← Nat.add_assoc] at this; exact this
      obtain ⟨x0, hx0⟩ : ∃ x, x = zs.getD (k * 4) 0 := ⟨_, rfl⟩
      obtain ⟨y0, hy0⟩ : ∃ y, y = ys.getD (k * 4) 0 := ⟨_, rfl⟩
      rw [← hx0] at c0; rw [← hy0] at c0'
      obtain ⟨x1, hx1⟩ : ∃ x, x = zs.getD (k * 4 + 1) 0 := ⟨_, rfl⟩
      obtain ⟨y1, hy1⟩ : ∃ y, y = ys.getD (k * 4 + 1) 0 := ⟨_, rfl⟩
      rw [← hx1] at c1; rw [← hy1] at c1'
      obtain ⟨x2, hx2⟩ : ∃ x, x = zs.getD (k * 4 + 2) 0 := ⟨_, rfl⟩
      obtain ⟨y2, hy2⟩ : ∃ y, y = ys.getD (k * 4 + 2) 0 := ⟨_, rfl⟩
      rw [← hx2] at c2; rw [← hy2] at c2'
      obtain ⟨x3, hx3⟩ : ∃ x, x = zs.getD (k * 4 + 3) 0 := ⟨_, rfl⟩
      obtain ⟨y3, hy3⟩ : ∃ y, y = ys.getD (k * 4 + 3) 0 := ⟨_, rfl⟩
      rw [← hx3] at c3; rw [← hy3] at c3'
      clear hcell hcell'
      by_cases hs : x0 = y0 ∧ x1 = y1 ∧ x2 = y2 ∧ x3 = y3
      · have HT := Lib.hid (HS.out.step (by rw [← hx0, ← hy0]; exact hs.1) (by rw [← hx1, ← hy1]; exact hs.2.1) (by rw [← hx2, ← hy2]; exact hs.2.2.1) (by rw [← hx3, ← hy3]; exact hs.2.2.2))
        have hne := neqTask_y hs.1 hs.2.1 hs.2.2.1 hs.2.2.2
        clear hs HS hx0 hx1 hx2 hx3 hy0 hy1 hy2 hy3
        go_wp2
        go_quiet (fail)
        go_wp2
        go_roundw
        case rel => exact ⟨k + 1, by omega, by go_num, HT.out, _, rfl⟩
        case measure => simp [intOf]; omega
      · have hne := neqTask_n hs
        have HT := Lib.hid (show sameB zs ys = false from by
          by_cases e0 : x0 = y0
          case neg => exact sameB_off (j := k * 4) (by rw [← hx0, ← hy0]; exact e0)
          by_cases e1 : x1 = y1
          case neg => exact sameB_off (j := k * 4 + 1) (by rw [← hx1, ← hy1]; exact e1)
          by_cases e2 : x2 = y2
          case neg => exact sameB_off (j := k * 4 + 2) (by rw [← hx2, ← hy2]; exact e2)
          exact sameB_off (j := k * 4 + 3) (by rw [← hx3, ← hy3]; exact fun e3 => hs ⟨e0, e1, e2, e3⟩))
        clear hs HS hx0 hx1 hx2 hx3 hy0 hy1 hy2 hy3
        go_wp2
        go_quiet (fail)
        go_wp2
        go_ret
        exact ⟨ret_bool HT.out.symm, _, World.drewN_drewN _ _ _⟩
    · obtain rfl : k = n := by omega
      have HE := Lib.hid (HS.out.all Hz.out Hy.out)
      clear HS
      go_wp2
      go_ret
      exact ⟨ret_bool HE.out.symm, _, rfl⟩
set_option maxHeartbeats 1000000 in
theorem implSameTasks_any (A A' : Option Addr) (n n' c c' : Nat) (zs ys : List Int) (w : World) (hn : n ≤ 1048576) (hn' : n' ≤ 1048576) (hz : zs.length = n * 4) (hy : ys.length = n' * 4) (h : SI w w.heap.size A zs) (h' : SI w w.heap.size A' ys) :
    Calls Try.prog 32 #[.slice A n c, .slice A' n' c'] w fun e w' => e = .returned (.bool (sameB zs ys)) ∧ ∃ q, w' = w.drewN q := by
  have Hz := Lib.hid hz
  have Hy := Lib.hid hy
  have H := Lib.hid h
  have H' := Lib.hid h'
  clear hz hy h h'
  go_enter Try.func32, Try.ntmps32; go_wp2_with fail
  refine (equalTask_any _ _ _ _ _ _ zs ys _ hn hn' Hz.out Hy.out H.out H'.out).mono ?_; rintro e w1 ⟨rfl, q, rfl⟩
  go_wp2
  go_ret
  exact ⟨rfl, _, rfl⟩
end Go.Proofs.Ytoglmeiffidcbaa
