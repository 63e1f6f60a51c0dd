/- The validity of a base, both sides. -/
import Derived.Test.YtmalbgbmapfiiaaBase
import Derived.Test.YtmalbgbmapfiiaaSlices
namespace Go.Proofs.Ytmalbgbmapfiiaa
open Go.RowKit Go.Deep
def okB (x0 x1 x2 x3 x4 x5 x6 : Int) : Bool := inI x0 10 200 && inI x1 1 500000 && inI x2 0 500000 && inI x3 0 500000 && inI x4 0 1000 && inI x5 0 500000 && inI x6 0 1000
theorem okB_t {x0 x1 x2 x3 x4 x5 x6 : Int} (h : okB x0 x1 x2 x3 x4 x5 x6 = true) : (10 ≤ x0 ∧ x0 ≤ 200) ∧ (1 ≤ x1 ∧ x1 ≤ 500000) ∧ (0 ≤ x2 ∧ x2 ≤ 500000) ∧ (0 ≤ x3 ∧ x3 ≤ 500000) ∧ (0 ≤ x4 ∧ x4 ≤ 1000) ∧ (0 ≤ x5 ∧ x5 ≤ 500000) ∧ (0 ≤ x6 ∧ x6 ≤ 1000) := by
  simp only [okB, inI, Bool.and_eq_true, decide_eq_true_eq] at h
  omega
/-- seven integers in a row of cells -/
def C7 (w : World) (b : Nat) (x0 x1 x2 x3 x4 x5 x6 : Int) : Prop := w.cell? ⟨b, 0, none⟩ = some (.int .i64 x0) ∧ w.cell? ⟨b, 1, none⟩ = some (.int .i64 x1) ∧ w.cell? ⟨b, 2, none⟩ = some (.int .i64 x2) ∧ w.cell? ⟨b, 3, none⟩ = some (.int .i64 x3) ∧ w.cell? ⟨b, 4, none⟩ = some (.int .i64 x4) ∧ w.cell? ⟨b, 5, none⟩ = some (.int .i64 x5) ∧ w.cell? ⟨b, 6, none⟩ = some (.int .i64 x6)
theorem C7.below {w w' : World} {B b : Nat} {x0 x1 x2 x3 x4 x5 x6 : Int} (h : C7 w b x0 x1 x2 x3 x4 x5 x6) (hb : Below B w w') (hB : b < B) : C7 w' b x0 x1 x2 x3 x4 x5 x6 := by
  obtain ⟨c0, c1, c2, c3, c4, c5, c6⟩ := h
  exact ⟨(hb.cell (p := ⟨b, 0, none⟩) hB).trans c0, (hb.cell (p := ⟨b, 1, none⟩) hB).trans c1, (hb.cell (p := ⟨b, 2, none⟩) hB).trans c2, (hb.cell (p := ⟨b, 3, none⟩) hB).trans c3, (hb.cell (p := ⟨b, 4, none⟩) hB).trans c4, (hb.cell (p := ⟨b, 5, none⟩) hB).trans c5, (hb.cell (p := ⟨b, 6, none⟩) hB).trans c6⟩
theorem C7.box (w : World) (t : TypeId) (x0 x1 x2 x3 x4 x5 x6 : Int) : C7 (w.alloc (.cells #[.int .i64 x0, .int .i64 x1, .int .i64 x2, .int .i64 x3, .int .i64 x4, .int .i64 x5, .int .i64 x6] t)) w.heap.size x0 x1 x2 x3 x4 x5 x6 := by
  refine ⟨?_, ?_, ?_, ?_, ?_, ?_, ?_⟩ <;> (rw [cell_of_row _ _ _ _ _ _ (heap_alloc_new w _)]; rfl)
theorem in7_is {n a b : Int} {r : Bool} (h : inI n a b = r) {P : Program} {f : FuncId} {args : Array Value} {w : World} (c : Calls P f args w fun e w' => e = .returned (.bool (inI n a b)) ∧ w = w') : Calls P f args w fun e w' => e = .returned (.bool r) ∧ w = w' := by rw [← h]; exact c
theorem mass06_any (n : Int) (w : World) : Calls Try.prog 41 #[.int .i64 n] w fun e w' => e = .returned (.bool (inI n 0 500000)) ∧ w = w' := by
  go_enter Try.func41, Try.ntmps41; go_wp2_with (go_at_call 40; (with_reducible refine (in_any _ _ _ _).mono ?_); rintro e w1 ⟨rfl, rfl⟩)
  go_ret
  exact ⟨rfl, rfl⟩
set_option maxHeartbeats 4000000 in
theorem l06Ok_any (b : Nat) (x0 x1 x2 x3 x4 x5 x6 : Int) (w : World) (h : C7 w b x0 x1 x2 x3 x4 x5 x6) : Calls Try.prog 21 #[.pointer (some ⟨b, 0, none⟩)] w fun e w' => e = .returned (.bool (okB x0 x1 x2 x3 x4 x5 x6)) ∧ w = w' := by
  obtain ⟨c0, c1, c2, c3, c4, c5, c6⟩ := h
  obtain ⟨q, h0⟩ : ∃ q, inI x0 10 200 = q := ⟨_, rfl⟩
  cases q
  · have HO := Lib.hid (show okB x0 x1 x2 x3 x4 x5 x6 = false by unfold okB; rw [h0]; simp); go_enter Try.func21, Try.ntmps21; go_wp2_with (first | (go_at_call 40; (with_reducible refine (in7_is (by assumption) (in_any _ _ _ _)).mono ?_); rintro e w1 ⟨rfl, rfl⟩) | (go_at_call 41; (with_reducible refine (in7_is (by assumption) (mass06_any _ _)).mono ?_); rintro e w1 ⟨rfl, rfl⟩)); go_returns; exact ⟨by first | (rw [HO.out]; done) | (rw [HO.out]; rfl), rfl⟩
  obtain ⟨q, h1⟩ : ∃ q, inI x1 1 500000 = q := ⟨_, rfl⟩
  cases q
  · have HO := Lib.hid (show okB x0 x1 x2 x3 x4 x5 x6 = false by unfold okB; rw [h1]; simp); go_enter Try.func21, Try.ntmps21; go_wp2_with (first | (go_at_call 40; (with_reducible refine (in7_is (by assumption) (in_any _ _ _ _)).mono ?_); rintro e w1 ⟨rfl, rfl⟩) | (go_at_call 41; (with_reducible refine (in7_is (by assumption) (mass06_any _ _)).mono ?_); rintro e w1 ⟨rfl, rfl⟩)); go_returns; exact ⟨by first | (rw [HO.out]; done) | (rw [HO.out]; rfl), rfl⟩
  obtain ⟨q, h2⟩ : ∃ q, inI x2 0 500000 = q := ⟨_, rfl⟩
  cases q
  · have HO := Lib.hid (show okB x0 x1 x2 x3 x4 x5 x6 = false by unfold okB; rw [h2]; simp); go_enter Try.func21, Try.ntmps21; go_wp2_with (first | (go_at_call 40; (with_reducible refine (in7_is (by assumption) (in_any _ _ _ _)).mono ?_); rintro e w1 ⟨rfl, rfl⟩) | (go_at_call 41; (with_reducible refine (in7_is (by assumption) (mass06_any _ _)).mono ?_); rintro e w1 ⟨rfl, rfl⟩)); go_returns; exact ⟨by first | (rw [HO.out]; done) | (rw [HO.out]; rfl), rfl⟩
  obtain ⟨q, h3⟩ : ∃ q, inI x3 0 500000 = q := ⟨_, rfl⟩
  cases q
  · have HO := Lib.hid (show okB x0 x1 x2 x3 x4 x5 x6 = false by unfold okB; rw [h3]; simp); go_enter Try.func21, Try.ntmps21; go_wp2_with (first | (go_at_call 40; (with_reducible refine (in7_is (by assumption) (in_any _ _ _ _)).mono ?_); rintro e w1 ⟨rfl, rfl⟩) | (go_at_call 41; (with_reducible refine (in7_is (by assumption) (mass06_any _ _)).mono ?_); rintro e w1 ⟨rfl, rfl⟩)); go_returns; exact ⟨by first | (rw [HO.out]; done) | (rw [HO.out]; rfl), rfl⟩
  obtain ⟨q, h5⟩ : ∃ q, inI x5 0 500000 = q := ⟨_, rfl⟩
  cases q
  · have HO := Lib.hid (show okB x0 x1 x2 x3 x4 x5 x6 = false by unfold okB; rw [h5]; simp); go_enter Try.func21, Try.ntmps21; go_wp2_with (first | (go_at_call 40; (with_reducible refine (in7_is (by assumption) (in_any _ _ _ _)).mono ?_); rintro e w1 ⟨rfl, rfl⟩) | (go_at_call 41; (with_reducible refine (in7_is (by assumption) (mass06_any _ _)).mono ?_); rintro e w1 ⟨rfl, rfl⟩)); go_returns; exact ⟨by first | (rw [HO.out]; done) | (rw [HO.out]; rfl), rfl⟩
  obtain ⟨q, h4⟩ : ∃ q, inI x4 0 1000 = q := ⟨_, rfl⟩
  cases q
  · have HO := Lib.hid (show okB x0 x1 x2 x3 x4 x5 x6 = false by unfold okB; rw [h4]; simp); go_enter Try.func21, Try.ntmps21; go_wp2_with (first | (go_at_call 40; (with_reducible refine (in7_is (by assumption) (in_any _ _ _ _)).mono ?_); rintro e w1 ⟨rfl, rfl⟩) | (go_at_call 41; (with_reducible refine (in7_is (by assumption) (mass06_any _ _)).mono ?_); rintro e w1 ⟨rfl, rfl⟩)); go_returns; exact ⟨by first | (rw [HO.out]; done) | (rw [HO.out]; rfl), rfl⟩
  obtain ⟨q, h6⟩ : ∃ q, inI x6 0 1000 = q := ⟨_, rfl⟩
  cases q
  · have HO := Lib.hid (show okB x0 x1 x2 x3 x4 x5 x6 = false by unfold okB; rw [h6]; simp); go_enter Try.func21, Try.ntmps21; go_wp2_with (first | (go_at_call 40; (with_reducible refine (in7_is (by assumption) (in_any _ _ _ _)).mono ?_); rintro e w1 ⟨rfl, rfl⟩) | (go_at_call 41; (with_reducible refine (in7_is (by assumption) (mass06_any _ _)).mono ?_); rintro e w1 ⟨rfl, rfl⟩)); go_returns; exact ⟨by first | (rw [HO.out]; done) | (rw [HO.out]; rfl), rfl⟩
  have HO := Lib.hid (show okB x0 x1 x2 x3 x4 x5 x6 = true by unfold okB; rw [h0, h1, h2, h3, h4, h5, h6]; rfl)
  go_enter Try.func21, Try.ntmps21; go_wp2_with (first | (go_at_call 40; (with_reducible refine (in7_is (by assumption) (in_any _ _ _ _)).mono ?_); rintro e w1 ⟨rfl, rfl⟩) | (go_at_call 41; (with_reducible refine (in7_is (by assumption) (mass06_any _ _)).mono ?_); rintro e w1 ⟨rfl, rfl⟩)); go_returns; exact ⟨by first | (rw [HO.out]; done) | (rw [HO.out]; rfl), rfl⟩
set_option maxHeartbeats 8000000 in
set_option maxRecDepth 20000 in
theorem validBase_any (x0 x1 x2 x3 x4 x5 x6 : Int) (w : World) : Calls Try.prog 36 #[.agg #[.int .i64 x0, .int .i64 x1, .int .i64 x2, .int .i64 x3, .int .i64 x4, .int .i64 x5, .int .i64 x6]] w fun e w' => e = .returned (.bool (okB x0 x1 x2 x3 x4 x5 x6)) ∧ Below w.heap.size w w' := by
  have hC := (C7.box w 25 x0 x1 x2 x3 x4 x5 x6)
  have hB1 : Below w.heap.size w (w.alloc (.cells #[.int .i64 x0, .int .i64 x1, .int .i64 x2, .int .i64 x3, .int .i64 x4, .int .i64 x5, .int .i64 x6] 25)) := gr_alloc (gr_refl w)
  have hB2 : Below (w.alloc (.cells #[.int .i64 x0, .int .i64 x1, .int .i64 x2, .int .i64 x3, .int .i64 x4, .int .i64 x5, .int .i64 x6] 25)).heap.size (w.alloc (.cells #[.int .i64 x0, .int .i64 x1, .int .i64 x2, .int .i64 x3, .int .i64 x4, .int .i64 x5, .int .i64 x6] 25)) ((w.alloc (.cells #[.int .i64 x0, .int .i64 x1, .int .i64 x2, .int .i64 x3, .int .i64 x4, .int .i64 x5, .int .i64 x6] 25)).alloc (.cells #[.int .i64 x2, .int .i64 x3, .int .i64 x5] 2)) := gr_alloc (gr_refl _)
  have hlt : w.heap.size < (w.alloc (.cells #[.int .i64 x0, .int .i64 x1, .int .i64 x2, .int .i64 x3, .int .i64 x4, .int .i64 x5, .int .i64 x6] 25)).heap.size := by simp
  have HC2 := Lib.hid (hC.below hB2 hlt)
  have HB2 := Lib.hid (gr_then hB2 hB1)
  have hl0 : ((w.alloc (.cells #[.int .i64 x0, .int .i64 x1, .int .i64 x2, .int .i64 x3, .int .i64 x4, .int .i64 x5, .int .i64 x6] 25)).alloc (.cells #[.int .i64 x2, .int .i64 x3, .int .i64 x5] 2)).cell? ⟨w.heap.size + 1, 0, none⟩ = some (.int .i64 x2) := by simp [go_sem]
  have hl1 : ((w.alloc (.cells #[.int .i64 x0, .int .i64 x1, .int .i64 x2, .int .i64 x3, .int .i64 x4, .int .i64 x5, .int .i64 x6] 25)).alloc (.cells #[.int .i64 x2, .int .i64 x3, .int .i64 x5] 2)).cell? ⟨w.heap.size + 1, 1, none⟩ = some (.int .i64 x3) := by simp [go_sem]
  have hl2 : ((w.alloc (.cells #[.int .i64 x0, .int .i64 x1, .int .i64 x2, .int .i64 x3, .int .i64 x4, .int .i64 x5, .int .i64 x6] 25)).alloc (.cells #[.int .i64 x2, .int .i64 x3, .int .i64 x5] 2)).cell? ⟨w.heap.size + 1, 2, none⟩ = some (.int .i64 x5) := by simp [go_sem]
  have HL0 := Lib.hid hl0
  have HL1 := Lib.hid hl1
  have HL2 := Lib.hid hl2
  clear hC hB1 hB2 hl0 hl1 hl2
  go_enter Try.func36, Try.ntmps36; go_wp2
  generalize ((w.alloc (.cells #[.int .i64 x0, .int .i64 x1, .int .i64 x2, .int .i64 x3, .int .i64 x4, .int .i64 x5, .int .i64 x6] 25)).alloc (.cells #[.int .i64 x2, .int .i64 x3, .int .i64 x5] 2)) = v0 at *
  go_loopw [4, 13] (fun nv i wr => ∃ k : Nat, k ≤ 3 ∧ i = .int .i64 (k : Int) ∧ wr = v0 ∧ (0 < k → inI x2 0 500000 = true) ∧ (1 < k → inI x3 0 500000 = true) ∧ (2 < k → inI x5 0 500000 = true)) (fun _ i _ => 3 - (intOf i).toNat)
  case atStart => exact ⟨0, by omega, by simp, rfl, by omega, by omega, by omega⟩
  case round =>
    obtain ⟨k, hk, rfl, hw, g2, g3, g5⟩ := hrel
    subst hw
    have hl0 := HL0.out
    have hl1 := HL1.out
    have hl2 := HL2.out
    rcases (show k = 0 ∨ k = 1 ∨ k = 2 ∨ k = 3 by omega) with rfl | rfl | rfl | rfl
    · clear g2 g3 g5; simp only [show ((0 : Nat) : Int) = 0 from rfl]
      obtain ⟨q, h2⟩ : ∃ q, inI x2 0 500000 = q := ⟨_, rfl⟩
      cases q
      · have HO := Lib.hid (show okB x0 x1 x2 x3 x4 x5 x6 = false by unfold okB; rw [h2]; simp); go_wp2_with (go_at_call 30; (with_reducible refine (in7_is (by assumption) (within_any _ _ _ _)).mono ?_); rintro e w1 ⟨rfl, rfl⟩); go_returns; exact ⟨by first | (rw [HO.out]; done) | (rw [HO.out]; rfl), HB2.out⟩
      · go_wp2_with (go_at_call 30; (with_reducible refine (in7_is (by assumption) (within_any _ _ _ _)).mono ?_); rintro e w1 ⟨rfl, rfl⟩)
        go_roundw
        case rel => exact ⟨1, by omega, by go_num, by first | rfl | trivial, fun _ => h2, fun h9 => absurd h9 (by omega), fun h9 => absurd h9 (by omega)⟩
        case measure => simp [intOf]
    · have h2 := g2 (by omega); clear g2 g3 g5; simp only [show ((1 : Nat) : Int) = 1 from rfl]
      obtain ⟨q, h3⟩ : ∃ q, inI x3 0 500000 = q := ⟨_, rfl⟩
      cases q
      · have HO := Lib.hid (show okB x0 x1 x2 x3 x4 x5 x6 = false by unfold okB; rw [h3]; simp); go_wp2_with (go_at_call 30; (with_reducible refine (in7_is (by assumption) (within_any _ _ _ _)).mono ?_); rintro e w1 ⟨rfl, rfl⟩); go_returns; exact ⟨by first | (rw [HO.out]; done) | (rw [HO.out]; rfl), HB2.out⟩
      · go_wp2_with (go_at_call 30; (with_reducible refine (in7_is (by assumption) (within_any _ _ _ _)).mono ?_); rintro e w1 ⟨rfl, rfl⟩)
        go_roundw
        case rel => exact ⟨2, by omega, by go_num, by first | rfl | trivial, fun _ => h2, fun _ => h3, fun h9 => absurd h9 (by omega)⟩
        case measure => simp [intOf]
    · have h2 := g2 (by omega); have h3 := g3 (by omega); clear g2 g3 g5; simp only [show ((2 : Nat) : Int) = 2 from rfl]
      obtain ⟨q, h5⟩ : ∃ q, inI x5 0 500000 = q := ⟨_, rfl⟩
      cases q
      · have HO := Lib.hid (show okB x0 x1 x2 x3 x4 x5 x6 = false by unfold okB; rw [h5]; simp); go_wp2_with (go_at_call 30; (with_reducible refine (in7_is (by assumption) (within_any _ _ _ _)).mono ?_); rintro e w1 ⟨rfl, rfl⟩); go_returns; exact ⟨by first | (rw [HO.out]; done) | (rw [HO.out]; rfl), HB2.out⟩
      · go_wp2_with (go_at_call 30; (with_reducible refine (in7_is (by assumption) (within_any _ _ _ _)).mono ?_); rintro e w1 ⟨rfl, rfl⟩)
        go_roundw
        case rel => exact ⟨3, by omega, by go_num, by first | rfl | trivial, fun _ => h2, fun _ => h3, fun _ => h5⟩
        case measure => simp [intOf]
    · have h2 := g2 (by omega); have h3 := g3 (by omega); have h5 := g5 (by omega); clear g2 g3 g5 hl0 hl1 hl2; simp only [show ((3 : Nat) : Int) = 3 from rfl]
      obtain ⟨c0, c1, c2, c3, c4, c5, c6⟩ := HC2.out
      have HH := Lib.hid (And.intro h2 (And.intro h3 h5))
      clear h2 h3 h5
      obtain ⟨q, h0⟩ : ∃ q, inI x0 10 200 = q := ⟨_, rfl⟩
      cases q
      · have HO := Lib.hid (show okB x0 x1 x2 x3 x4 x5 x6 = false by unfold okB; rw [h0]; simp); go_wp2_with (go_at_call 30; (with_reducible refine (in7_is (by assumption) (within_any _ _ _ _)).mono ?_); rintro e w1 ⟨rfl, rfl⟩); go_returns; exact ⟨by first | (rw [HO.out]; done) | (rw [HO.out]; rfl), HB2.out⟩
      obtain ⟨q, h1⟩ : ∃ q, inI x1 1 500000 = q := ⟨_, rfl⟩
      cases q
      · have HO := Lib.hid (show okB x0 x1 x2 x3 x4 x5 x6 = false by unfold okB; rw [h1]; simp); go_wp2_with (go_at_call 30; (with_reducible refine (in7_is (by assumption) (within_any _ _ _ _)).mono ?_); rintro e w1 ⟨rfl, rfl⟩); go_returns; exact ⟨by first | (rw [HO.out]; done) | (rw [HO.out]; rfl), HB2.out⟩
      obtain ⟨q, h4⟩ : ∃ q, inI x4 0 1000 = q := ⟨_, rfl⟩
      cases q
      · have HO := Lib.hid (show okB x0 x1 x2 x3 x4 x5 x6 = false by unfold okB; rw [h4]; simp); go_wp2_with (go_at_call 30; (with_reducible refine (in7_is (by assumption) (within_any _ _ _ _)).mono ?_); rintro e w1 ⟨rfl, rfl⟩); go_returns; exact ⟨by first | (rw [HO.out]; done) | (rw [HO.out]; rfl), HB2.out⟩
      obtain ⟨q, h6⟩ : ∃ q, inI x6 0 1000 = q := ⟨_, rfl⟩
      cases q
      · have HO := Lib.hid (show okB x0 x1 x2 x3 x4 x5 x6 = false by unfold okB; rw [h6]; simp); go_wp2_with (go_at_call 30; (with_reducible refine (in7_is (by assumption) (within_any _ _ _ _)).mono ?_); rintro e w1 ⟨rfl, rfl⟩); go_returns; exact ⟨by first | (rw [HO.out]; done) | (rw [HO.out]; rfl), HB2.out⟩
      have HO := Lib.hid (show okB x0 x1 x2 x3 x4 x5 x6 = true by unfold okB; rw [h0, h1, h4, h6, HH.out.1, HH.out.2.1, HH.out.2.2]; rfl)
      go_wp2_with (go_at_call 30; (with_reducible refine (in7_is (by assumption) (within_any _ _ _ _)).mono ?_); rintro e w1 ⟨rfl, rfl⟩); go_returns; exact ⟨by first | (rw [HO.out]; done) | (rw [HO.out]; rfl), HB2.out⟩
end Go.Proofs.Ytmalbgbmapfiiaa
