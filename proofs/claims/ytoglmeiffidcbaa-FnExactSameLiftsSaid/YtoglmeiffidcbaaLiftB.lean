/- Lifts: sizes, copies, comparisons. -/
import Derived.Test.YtoglmeiffidcbaaLift
import Derived.Test.YtoglmeiffidcbaaInts
import Derived.Test.YtoglmeiffidcbaaApp
import Derived.StillTailTactics
namespace Go.Proofs.Ytoglmeiffidcbaa
open Go.RowKit Go.Deep
set_option maxHeartbeats 4000000 in
theorem szLift_any (x : Lf) (A : Option Addr) (c : Nat) (left : Int) (w : World) (hx : x.ok) (h0 : 0 ≤ left) (h1 : left ≤ 1048576) : Calls Try.prog 55 #[.agg #[.string x.nm, .int .i64 x.v0, .int .i64 x.v1, .int .i64 x.v2, .int .i64 x.v3, .int .i64 x.v4, .int .i64 x.v5, .int .i64 x.v6, .slice A x.xs.length c], .int .i64 left] w fun e w' => ∃ r : Int, e = .returned (.int .i64 r) ∧ (r < 0 ∨ (0 ≤ r ∧ r ≤ left ∧ x.nm.size ≤ 1048576 ∧ x.xs.length ≤ 1048576)) ∧ -1 ≤ r ∧ Below w.heap.size w w' := by
  obtain ⟨q1, _, _, _, _, _, _, _, q2, _⟩ := hx
  have q1' : (x.nm.size : Int) ≤ 9223372036854775807 := by unfold maxLen at q1; omega
  have HS : Hid (∀ (l : Int) (w : World), 0 ≤ l → l ≤ 1048576 → Calls Try.prog 66 #[.slice A x.xs.length c, .int .i64 l] w fun e w' => e = .returned (.int .i64 (if l < x.xs.length then -1 else l - x.xs.length)) ∧ w = w') := fun l w h2 h3 => szInt64S_any A x.xs.length c l w q2 h2 h3
  by_cases hn : left < x.nm.size
  · have hd : decide (left - (x.nm.size : Int) < 0) = true := decide_eq_true (by omega)
    go_enter Try.func55, Try.ntmps55; go_wp2; go_returns; exact ⟨_, rfl, .inl (by omega), by omega, by repeat' first | exact gr_refl _ | with_reducible assumption | with_reducible apply gr_alloc | with_reducible apply gr_set | with_reducible apply gr_drew | with_reducible apply gr_drewN | exact Nat.le_add_right _ _ | exact Nat.le_refl _ | (refine gr_then (by with_reducible assumption) ?_)⟩
  have hd : decide (left - (x.nm.size : Int) < 0) = false := decide_eq_false (by omega)
  by_cases hl : left - (x.nm.size : Int) < x.xs.length
  · have HT : Hid (∀ w : World, Calls Try.prog 66 #[.slice A x.xs.length c, .int .i64 (left - (x.nm.size : Int))] w fun e w' => e = .returned (.int .i64 (-1)) ∧ w = w') := fun w => by have h9 := HS.out (left - (x.nm.size : Int)) w (by omega) (by omega); rw [if_pos hl] at h9; exact h9
    go_enter Try.func55, Try.ntmps55; go_wp2_with (go_at_call 66; (with_reducible refine (HT.out _).mono ?_); rintro e w1 ⟨rfl, rfl⟩)
    go_returns
    exact ⟨_, rfl, .inl (by omega), by omega, by repeat' first | exact gr_refl _ | with_reducible assumption | with_reducible apply gr_alloc | with_reducible apply gr_set | with_reducible apply gr_drew | with_reducible apply gr_drewN | exact Nat.le_add_right _ _ | exact Nat.le_refl _ | (refine gr_then (by with_reducible assumption) ?_)⟩
  · have HT : Hid (∀ w : World, Calls Try.prog 66 #[.slice A x.xs.length c, .int .i64 (left - (x.nm.size : Int))] w fun e w' => e = .returned (.int .i64 (left - (x.nm.size : Int) - x.xs.length)) ∧ w = w') := fun w => by have h9 := HS.out (left - (x.nm.size : Int)) w (by omega) (by omega); rw [if_neg hl] at h9; exact h9
    have hd2 : decide (left - (x.nm.size : Int) - x.xs.length < 0) = false := decide_eq_false (by omega)
    go_enter Try.func55, Try.ntmps55; go_wp2_with (go_at_call 66; (with_reducible refine (HT.out _).mono ?_); rintro e w1 ⟨rfl, rfl⟩)
    go_returns
    exact ⟨_, rfl, .inr ⟨by omega, by omega, by omega, by omega⟩, by omega, by repeat' first | exact gr_refl _ | with_reducible assumption | with_reducible apply gr_alloc | with_reducible apply gr_set | with_reducible apply gr_drew | with_reducible apply gr_drewN | exact Nat.le_add_right _ _ | exact Nat.le_refl _ | (refine gr_then (by with_reducible assumption) ?_)⟩
def SizesL (ls : List Lf) : Prop := ls.length ≤ 1048576 ∧ ∀ x ∈ ls, x.nm.size ≤ 1048576 ∧ x.xs.length ≤ 1048576
set_option maxHeartbeats 4000000 in
set_option maxRecDepth 20000 in
theorem szLiftS_any (A : Option Addr) (c : Nat) (left : Int) (ls : List Lf) (w : World) (hn : ls.length ≤ 9223372036854775807) (hok : ∀ x ∈ ls, x.ok) (h : LV w w.heap.size A ls) (h0 : 0 ≤ left) (h1 : left ≤ 1048576) : Calls Try.prog 33 #[.slice A ls.length c, .int .i64 left] w fun e w' => ∃ r : Int, e = .returned (.int .i64 r) ∧ -1 ≤ r ∧ r ≤ left ∧ (0 ≤ r → SizesL ls) ∧ Below w.heap.size w w' := by
  have H := Lib.hid h
  have HOK := Lib.hid hok
  clear h hok
  obtain ⟨n, hn'⟩ : ∃ n, ls.length = n := ⟨_, rfl⟩
  have HN := Lib.hid hn'
  rw [hn'] at hn ⊢
  clear hn'
  by_cases hl : left < n
  · have hd : decide (left - (n : Int) < 0) = true := decide_eq_true (by omega)
    go_enter Try.func33, Try.ntmps33; go_wp2; go_returns; exact ⟨_, rfl, by omega, by omega, by omega, gr_refl w⟩
  have hd : decide (left - (n : Int) < 0) = false := decide_eq_false (by omega)
  go_enter Try.func33, Try.ntmps33; go_wp2
  clear hd
  go_loopw [1, 5] (fun lf i wr => ∃ (k : Nat) (r : Int), k ≤ n ∧ i = .int .i64 (k : Int) ∧ lf = .int .i64 r ∧ 0 ≤ r ∧ r ≤ left ∧ Hid (∀ (j : Nat) x, j < k → ls[j]? = some x → x.nm.size ≤ 1048576 ∧ x.xs.length ≤ 1048576) ∧ Below w.heap.size w wr) (fun _ i _ => n - (intOf i).toNat)
  case atStart => exact ⟨0, _, by omega, by simp, rfl, by omega, by omega, fun j x hj => by omega, gr_refl w⟩
  case round =>
    obtain ⟨k, r, hk, rfl, rfl, hr0, hr1, HP, hbe⟩ := hrel
    have HB := Lib.hid hbe
    by_cases hlt : k < n
    · obtain ⟨x, hx⟩ := at_of_lt (xs := ls) (k := k) (by rw [HN.out]; exact hlt)
      obtain ⟨b, off, Ar, cr, rfl, hbB, ⟨c0, c1, c2, c3, c4, c5, c6, c7, c8⟩, hsv⟩ := (H.out.below hbe).at_ hx
      have HX := Lib.hid hx
      have HSZ := Lib.hid (szLift_any x Ar cr r wr (HOK.out x (List.mem_of_getElem? hx)) hr0 (by omega))
      have i0 : (0 : Int) ≤ (k : Int) := by omega
      have i1 : (k : Int) < (n : Int) := by omega
      clear hx hbe hsv
      go_wp2_with fail
      go_at_call 55
      (with_reducible refine HSZ.out.mono ?_)
      rintro e w1 ⟨r1, rfl, hr, hm, hb⟩
      have HB1 := Lib.hid (gr_then hb HB.out)
      clear hb HSZ c0 c1 c2 c3 c4 c5 c6 c7 c8
      by_cases hr2 : r1 < 0
      · go_wp2; go_returns; exact ⟨_, rfl, by omega, by omega, by omega, HB1.out⟩
      · obtain ⟨g1, g2, g3⟩ := hr.resolve_left hr2
        have hd2 : decide (r1 < 0) = false := decide_eq_false hr2
        have HG := Lib.hid g3
        clear hr g3
        go_wp2
        go_roundw
        case rel => exact ⟨k + 1, r1, by omega, by go_num, rfl, by omega, by omega, fun j y hj hy => by (rcases Nat.lt_or_ge j k with h8 | h8; (exact HP.out j y h8 hy); (obtain rfl : j = k := (by omega); rw [HX.out] at hy; cases hy; exact HG.out)), HB1.out⟩
        case measure => simp [intOf]; omega
    · obtain rfl : k = n := by omega
      clear hbe
      go_wp2
      go_ret
      exact ⟨r, rfl, by omega, hr1, fun _ => ⟨by rw [HN.out]; omega, fun x hx => by obtain ⟨j, hj⟩ := List.mem_iff_getElem?.1 hx; have h8 := (List.getElem?_eq_some_iff.1 hj).1; have h9 := HN.out; exact HP.out j x (by omega) hj⟩, HB.out⟩
set_option maxHeartbeats 1000000 in
theorem toPt_any (a b : Int) (w : World) : Calls Try.prog 68 #[.agg #[.int .i64 a, .int .i64 b]] w fun e w' => e = .returned (.agg #[.int .i64 a, .int .i64 b]) ∧ Below w.heap.size w w' := by
  go_enter Try.func68, Try.ntmps68; go_wp2; go_returns; exact ⟨rfl, by repeat' first | exact gr_refl _ | with_reducible assumption | with_reducible apply gr_alloc | with_reducible apply gr_set | with_reducible apply gr_drew | with_reducible apply gr_drewN | exact Nat.le_add_right _ _ | exact Nat.le_refl _ | (refine gr_then (by with_reducible assumption) ?_)⟩
set_option maxHeartbeats 8000000 in
set_option maxRecDepth 20000 in
theorem toLift_any (x : Lf) (A : Option Addr) (c : Nat) (w : World) (hn : x.xs.length ≤ 1048576) (h : SV (.int .i64) w w.heap.size A x.xs) : Calls Try.prog 57 #[.agg #[.string x.nm, .int .i64 x.v0, .int .i64 x.v1, .int .i64 x.v2, .int .i64 x.v3, .int .i64 x.v4, .int .i64 x.v5, .int .i64 x.v6, .slice A x.xs.length c]] w fun e w' => ∃ g, e = .returned (.agg #[.string x.nm, .int .i64 x.v0, .int .i64 x.v1, .int .i64 x.v2, .int .i64 x.v3, .int .i64 x.v4, .int .i64 x.v5, .int .i64 x.v6, .slice (some ⟨g, 0, none⟩) x.xs.length x.xs.length]) ∧ w.heap.size ≤ g ∧ BV (.int .i64) w' g 2 x.xs ∧ Below w.heap.size w w' := by
  have H := Lib.hid h
  clear h
  have hP : BV (fun v : Value => v) (((w.alloc (.cells #[.string x.nm, .int .i64 x.v0, .int .i64 x.v1, .int .i64 x.v2, .int .i64 x.v3, .int .i64 x.v4, .int .i64 x.v5, .int .i64 x.v6, .slice A x.xs.length c] 67)).alloc (.cells #[.string ⟨#[]⟩, .int .i64 0, .int .i64 0, .int .i64 0, .int .i64 0, .int .i64 0, .int .i64 0, .int .i64 0, .slice none 0 0] 70)).alloc (.cells #[.string x.nm, .int .i64 x.v0, .int .i64 0, .int .i64 0, .int .i64 0, .int .i64 0, .int .i64 0, .int .i64 0, .slice none 0 0] 70)) w.heap.size 67 [.string x.nm, .int .i64 x.v0, .int .i64 x.v1, .int .i64 x.v2, .int .i64 x.v3, .int .i64 x.v4, .int .i64 x.v5, .int .i64 x.v6, .slice A x.xs.length c] := ((show BV (fun v : Value => v) (w.alloc (.cells #[.string x.nm, .int .i64 x.v0, .int .i64 x.v1, .int .i64 x.v2, .int .i64 x.v3, .int .i64 x.v4, .int .i64 x.v5, .int .i64 x.v6, .slice A x.xs.length c] 67)) w.heap.size 67 [.string x.nm, .int .i64 x.v0, .int .i64 x.v1, .int .i64 x.v2, .int .i64 x.v3, .int .i64 x.v4, .int .i64 x.v5, .int .i64 x.v6, .slice A x.xs.length c] from heap_alloc_new w _).alloc _).alloc _
  have hZ : BV (fun v : Value => v) (((w.alloc (.cells #[.string x.nm, .int .i64 x.v0, .int .i64 x.v1, .int .i64 x.v2, .int .i64 x.v3, .int .i64 x.v4, .int .i64 x.v5, .int .i64 x.v6, .slice A x.xs.length c] 67)).alloc (.cells #[.string ⟨#[]⟩, .int .i64 0, .int .i64 0, .int .i64 0, .int .i64 0, .int .i64 0, .int .i64 0, .int .i64 0, .slice none 0 0] 70)).alloc (.cells #[.string x.nm, .int .i64 x.v0, .int .i64 0, .int .i64 0, .int .i64 0, .int .i64 0, .int .i64 0, .int .i64 0, .slice none 0 0] 70)) (w.heap.size + 1) 70 [.string ⟨#[]⟩, .int .i64 0, .int .i64 0, .int .i64 0, .int .i64 0, .int .i64 0, .int .i64 0, .int .i64 0, .slice none 0 0] := by have h9 := heap_alloc_new (w.alloc (.cells #[.string x.nm, .int .i64 x.v0, .int .i64 x.v1, .int .i64 x.v2, .int .i64 x.v3, .int .i64 x.v4, .int .i64 x.v5, .int .i64 x.v6, .slice A x.xs.length c] 67)) (.cells #[.string ⟨#[]⟩, .int .i64 0, .int .i64 0, .int .i64 0, .int .i64 0, .int .i64 0, .int .i64 0, .int .i64 0, .slice none 0 0] 70); simp only [World.size_alloc] at h9; exact (show BV (fun v : Value => v) _ _ _ [.string ⟨#[]⟩, .int .i64 0, .int .i64 0, .int .i64 0, .int .i64 0, .int .i64 0, .int .i64 0, .int .i64 0, .slice none 0 0] from h9).alloc _
  have hO : BV (fun v : Value => v) (((w.alloc (.cells #[.string x.nm, .int .i64 x.v0, .int .i64 x.v1, .int .i64 x.v2, .int .i64 x.v3, .int .i64 x.v4, .int .i64 x.v5, .int .i64 x.v6, .slice A x.xs.length c] 67)).alloc (.cells #[.string ⟨#[]⟩, .int .i64 0, .int .i64 0, .int .i64 0, .int .i64 0, .int .i64 0, .int .i64 0, .int .i64 0, .slice none 0 0] 70)).alloc (.cells #[.string x.nm, .int .i64 x.v0, .int .i64 0, .int .i64 0, .int .i64 0, .int .i64 0, .int .i64 0, .int .i64 0, .slice none 0 0] 70)) (w.heap.size + 1 + 1) 70 [.string x.nm, .int .i64 x.v0, .int .i64 0, .int .i64 0, .int .i64 0, .int .i64 0, .int .i64 0, .int .i64 0, .slice none 0 0] := by have h9 := heap_alloc_new ((w.alloc (.cells #[.string x.nm, .int .i64 x.v0, .int .i64 x.v1, .int .i64 x.v2, .int .i64 x.v3, .int .i64 x.v4, .int .i64 x.v5, .int .i64 x.v6, .slice A x.xs.length c] 67)).alloc (.cells #[.string ⟨#[]⟩, .int .i64 0, .int .i64 0, .int .i64 0, .int .i64 0, .int .i64 0, .int .i64 0, .int .i64 0, .slice none 0 0] 70)) (.cells #[.string x.nm, .int .i64 x.v0, .int .i64 0, .int .i64 0, .int .i64 0, .int .i64 0, .int .i64 0, .int .i64 0, .slice none 0 0] 70); simp only [World.size_alloc] at h9; exact h9
  have hB0 : Below w.heap.size w (((w.alloc (.cells #[.string x.nm, .int .i64 x.v0, .int .i64 x.v1, .int .i64 x.v2, .int .i64 x.v3, .int .i64 x.v4, .int .i64 x.v5, .int .i64 x.v6, .slice A x.xs.length c] 67)).alloc (.cells #[.string ⟨#[]⟩, .int .i64 0, .int .i64 0, .int .i64 0, .int .i64 0, .int .i64 0, .int .i64 0, .int .i64 0, .slice none 0 0] 70)).alloc (.cells #[.string x.nm, .int .i64 x.v0, .int .i64 0, .int .i64 0, .int .i64 0, .int .i64 0, .int .i64 0, .int .i64 0, .slice none 0 0] 70)) := by repeat' first | exact gr_refl _ | with_reducible assumption | with_reducible apply gr_alloc | with_reducible apply gr_set | with_reducible apply gr_drew | with_reducible apply gr_drewN | exact Nat.le_add_right _ _ | exact Nat.le_refl _ | (refine gr_then (by with_reducible assumption) ?_)
  have HB0 := Lib.hid hB0
  have hz0 : w.heap.size + 1 + 1 + 1 = (((w.alloc (.cells #[.string x.nm, .int .i64 x.v0, .int .i64 x.v1, .int .i64 x.v2, .int .i64 x.v3, .int .i64 x.v4, .int .i64 x.v5, .int .i64 x.v6, .slice A x.xs.length c] 67)).alloc (.cells #[.string ⟨#[]⟩, .int .i64 0, .int .i64 0, .int .i64 0, .int .i64 0, .int .i64 0, .int .i64 0, .int .i64 0, .slice none 0 0] 70)).alloc (.cells #[.string x.nm, .int .i64 x.v0, .int .i64 0, .int .i64 0, .int .i64 0, .int .i64 0, .int .i64 0, .int .i64 0, .slice none 0 0] 70)).heap.size := by simp
  clear hB0
  go_enter Try.func57, Try.ntmps57; go_wp2_with fail
  generalize (((w.alloc (.cells #[.string x.nm, .int .i64 x.v0, .int .i64 x.v1, .int .i64 x.v2, .int .i64 x.v3, .int .i64 x.v4, .int .i64 x.v5, .int .i64 x.v6, .slice A x.xs.length c] 67)).alloc (.cells #[.string ⟨#[]⟩, .int .i64 0, .int .i64 0, .int .i64 0, .int .i64 0, .int .i64 0, .int .i64 0, .int .i64 0, .slice none 0 0] 70)).alloc (.cells #[.string x.nm, .int .i64 x.v0, .int .i64 0, .int .i64 0, .int .i64 0, .int .i64 0, .int .i64 0, .int .i64 0, .slice none 0 0] 70)) = u0 at *
  go_at_call 68
  (with_reducible refine (toPt_any _ _ _).mono ?_)
  rintro e u1 ⟨rfl, hb⟩
  replace hP := hP.late hb
  replace hZ := hZ.late hb
  replace hO := hO.late hb
  have HB1 := Lib.hid (gr_then hb HB0.out)
  have hz1 := hb.size
  clear hb
  have c4 := hP.cell (j := 4) rfl
  have c5 := hP.cell (j := 5) rfl
  have d0 := hO.cell (j := 0) rfl
  have df0 := hO.free 0
  have d1 := hO.cell (j := 1) rfl
  have df1 := hO.free 1
  have d2 := hO.cell (j := 2) rfl
  have df2 := hO.free 2
  have d3 := hO.cell (j := 3) rfl
  have df3 := hO.free 3
  have d4 := hO.cell (j := 4) rfl
  have df4 := hO.free 4
  have d5 := hO.cell (j := 5) rfl
  have df5 := hO.free 5
  have d6 := hO.cell (j := 6) rfl
  have df6 := hO.free 6
  have d7 := hO.cell (j := 7) rfl
  have df7 := hO.free 7
  have d8 := hO.cell (j := 8) rfl
  have df8 := hO.free 8
  have hO2 : BV (fun v : Value => v) ((u1.setCell ⟨w.heap.size + 1 + 1, 2, none⟩ (.int .i64 x.v1)).setCell ⟨w.heap.size + 1 + 1, 3, none⟩ (.int .i64 x.v2)) (w.heap.size + 1 + 1) 70 [.string x.nm, .int .i64 x.v0, .int .i64 x.v1, .int .i64 x.v2, .int .i64 0, .int .i64 0, .int .i64 0, .int .i64 0, .slice none 0 0] := (hO.put 2 (.int .i64 x.v1)).put 3 (.int .i64 x.v2)
  have hP2 : BV (fun v : Value => v) ((u1.setCell ⟨w.heap.size + 1 + 1, 2, none⟩ (.int .i64 x.v1)).setCell ⟨w.heap.size + 1 + 1, 3, none⟩ (.int .i64 x.v2)) w.heap.size 67 [.string x.nm, .int .i64 x.v0, .int .i64 x.v1, .int .i64 x.v2, .int .i64 x.v3, .int .i64 x.v4, .int .i64 x.v5, .int .i64 x.v6, .slice A x.xs.length c] := (hP.far (p := ⟨w.heap.size + 1 + 1, 2, none⟩) (by simp only; omega) _).far (p := ⟨w.heap.size + 1 + 1, 3, none⟩) (by simp only; omega) _
  have hZ2 : BV (fun v : Value => v) ((u1.setCell ⟨w.heap.size + 1 + 1, 2, none⟩ (.int .i64 x.v1)).setCell ⟨w.heap.size + 1 + 1, 3, none⟩ (.int .i64 x.v2)) (w.heap.size + 1) 70 [.string ⟨#[]⟩, .int .i64 0, .int .i64 0, .int .i64 0, .int .i64 0, .int .i64 0, .int .i64 0, .int .i64 0, .slice none 0 0] := (hZ.far (p := ⟨w.heap.size + 1 + 1, 2, none⟩) (by simp only; omega) _).far (p := ⟨w.heap.size + 1 + 1, 3, none⟩) (by simp only; omega) _
  have HB2 := Lib.hid (show Below w.heap.size w ((u1.setCell ⟨w.heap.size + 1 + 1, 2, none⟩ (.int .i64 x.v1)).setCell ⟨w.heap.size + 1 + 1, 3, none⟩ (.int .i64 x.v2)) from (gr_set (by simp only; omega) (gr_set (by simp only; omega) HB1.out)))
  have hz2 : u1.heap.size ≤ ((u1.setCell ⟨w.heap.size + 1 + 1, 2, none⟩ (.int .i64 x.v1)).setCell ⟨w.heap.size + 1 + 1, 3, none⟩ (.int .i64 x.v2)).heap.size := by simp
  clear hP hZ hO
  go_wp2_with fail
  clear c4 c5 d0 d1 d2 d3 d4 d5 d6 d7 d8 df0 df1 df2 df3 df4 df5 df6 df7 df8
  generalize ((u1.setCell ⟨w.heap.size + 1 + 1, 2, none⟩ (.int .i64 x.v1)).setCell ⟨w.heap.size + 1 + 1, 3, none⟩ (.int .i64 x.v2)) = u2 at *
  go_at_call 68
  (with_reducible refine (toPt_any _ _ _).mono ?_)
  rintro e u3 ⟨rfl, hb⟩
  replace hP := hP2.late hb
  replace hZ := hZ2.late hb
  replace hO := hO2.late hb
  have HB3 := Lib.hid (gr_then hb HB2.out)
  have hz3 := hb.size
  clear hb hP2 hZ2 hO2
  have c6 := hP.cell (j := 6) rfl
  have c7 := hP.cell (j := 7) rfl
  have c8 := hP.cell (j := 8) rfl
  have d0 := hO.cell (j := 0) rfl
  have df0 := hO.free 0
  have d1 := hO.cell (j := 1) rfl
  have df1 := hO.free 1
  have d2 := hO.cell (j := 2) rfl
  have df2 := hO.free 2
  have d3 := hO.cell (j := 3) rfl
  have df3 := hO.free 3
  have d4 := hO.cell (j := 4) rfl
  have df4 := hO.free 4
  have d5 := hO.cell (j := 5) rfl
  have df5 := hO.free 5
  have d6 := hO.cell (j := 6) rfl
  have df6 := hO.free 6
  have d7 := hO.cell (j := 7) rfl
  have df7 := hO.free 7
  have d8 := hO.cell (j := 8) rfl
  have df8 := hO.free 8
  have hO2 : BV (fun v : Value => v) ((((u3.setCell ⟨w.heap.size + 1 + 1, 4, none⟩ (.int .i64 x.v3)).setCell ⟨w.heap.size + 1 + 1, 5, none⟩ (.int .i64 x.v4)).setCell ⟨w.heap.size + 1 + 1, 6, none⟩ (.int .i64 x.v5)).setCell ⟨w.heap.size + 1 + 1, 7, none⟩ (.int .i64 x.v6)) (w.heap.size + 1 + 1) 70 [.string x.nm, .int .i64 x.v0, .int .i64 x.v1, .int .i64 x.v2, .int .i64 x.v3, .int .i64 x.v4, .int .i64 x.v5, .int .i64 x.v6, .slice none 0 0] := (((hO.put 4 (.int .i64 x.v3)).put 5 (.int .i64 x.v4)).put 6 (.int .i64 x.v5)).put 7 (.int .i64 x.v6)
  have hZ2 : BV (fun v : Value => v) ((((u3.setCell ⟨w.heap.size + 1 + 1, 4, none⟩ (.int .i64 x.v3)).setCell ⟨w.heap.size + 1 + 1, 5, none⟩ (.int .i64 x.v4)).setCell ⟨w.heap.size + 1 + 1, 6, none⟩ (.int .i64 x.v5)).setCell ⟨w.heap.size + 1 + 1, 7, none⟩ (.int .i64 x.v6)) (w.heap.size + 1) 70 [.string ⟨#[]⟩, .int .i64 0, .int .i64 0, .int .i64 0, .int .i64 0, .int .i64 0, .int .i64 0, .int .i64 0, .slice none 0 0] := ((((hZ.far (p := ⟨w.heap.size + 1 + 1, 4, none⟩) (by simp only; omega) _).far (p := ⟨w.heap.size + 1 + 1, 5, none⟩) (by simp only; omega) _).far (p := ⟨w.heap.size + 1 + 1, 6, none⟩) (by simp only; omega) _).far (p := ⟨w.heap.size + 1 + 1, 7, none⟩) (by simp only; omega) _)
  have HB4 := Lib.hid (show Below w.heap.size w ((((u3.setCell ⟨w.heap.size + 1 + 1, 4, none⟩ (.int .i64 x.v3)).setCell ⟨w.heap.size + 1 + 1, 5, none⟩ (.int .i64 x.v4)).setCell ⟨w.heap.size + 1 + 1, 6, none⟩ (.int .i64 x.v5)).setCell ⟨w.heap.size + 1 + 1, 7, none⟩ (.int .i64 x.v6)) from (gr_set (by simp only; omega) (gr_set (by simp only; omega) (gr_set (by simp only; omega) (gr_set (by simp only; omega) HB3.out)))))
  have hz4 : u3.heap.size ≤ ((((u3.setCell ⟨w.heap.size + 1 + 1, 4, none⟩ (.int .i64 x.v3)).setCell ⟨w.heap.size + 1 + 1, 5, none⟩ (.int .i64 x.v4)).setCell ⟨w.heap.size + 1 + 1, 6, none⟩ (.int .i64 x.v5)).setCell ⟨w.heap.size + 1 + 1, 7, none⟩ (.int .i64 x.v6)).heap.size := by simp
  clear hP hZ hO
  go_wp2_with fail
  clear c6 c7 c8 d0 d1 d2 d3 d4 d5 d6 d7 d8 df0 df1 df2 df3 df4 df5 df6 df7 df8
  generalize ((((u3.setCell ⟨w.heap.size + 1 + 1, 4, none⟩ (.int .i64 x.v3)).setCell ⟨w.heap.size + 1 + 1, 5, none⟩ (.int .i64 x.v4)).setCell ⟨w.heap.size + 1 + 1, 6, none⟩ (.int .i64 x.v5)).setCell ⟨w.heap.size + 1 + 1, 7, none⟩ (.int .i64 x.v6)) = u4 at *
  go_at_call 69
  (with_reducible refine (toInt64S_any A c x.xs _ hn ((H.out.below HB4.out).more HB4.out.size)).mono ?_)
  rintro e u5 ⟨rfl, hbv, hb⟩
  replace hZ := hZ2.late hb
  replace hO := hO2.late hb
  have HB5 := Lib.hid (gr_then hb HB4.out)
  have hz5 := hb.size
  obtain ⟨g, hg⟩ : ∃ g, u4.heap.size = g := ⟨_, rfl⟩
  rw [hg] at hbv ⊢
  have hgK : w.heap.size + 1 + 1 < g := by omega
  have HBV := Lib.hid hbv
  clear hb hbv hZ2 hO2 hg
  have z0 := hZ.cell (j := 0) rfl
  have zf0 := hZ.free 0
  have z1 := hZ.cell (j := 1) rfl
  have zf1 := hZ.free 1
  have z2 := hZ.cell (j := 2) rfl
  have zf2 := hZ.free 2
  have z3 := hZ.cell (j := 3) rfl
  have zf3 := hZ.free 3
  have z4 := hZ.cell (j := 4) rfl
  have zf4 := hZ.free 4
  have z5 := hZ.cell (j := 5) rfl
  have zf5 := hZ.free 5
  have z6 := hZ.cell (j := 6) rfl
  have zf6 := hZ.free 6
  have z7 := hZ.cell (j := 7) rfl
  have zf7 := hZ.free 7
  have z8 := hZ.cell (j := 8) rfl
  have zf8 := hZ.free 8
  have d0 := hO.cell (j := 0) rfl
  have df0 := hO.free 0
  have d1 := hO.cell (j := 1) rfl
  have df1 := hO.free 1
  have d2 := hO.cell (j := 2) rfl
  have df2 := hO.free 2
  have d3 := hO.cell (j := 3) rfl
  have df3 := hO.free 3
  have d4 := hO.cell (j := 4) rfl
  have df4 := hO.free 4
  have d5 := hO.cell (j := 5) rfl
  have df5 := hO.free 5
  have d6 := hO.cell (j := 6) rfl
  have df6 := hO.free 6
  have d7 := hO.cell (j := 7) rfl
  have df7 := hO.free 7
  have d8 := hO.cell (j := 8) rfl
  have df8 := hO.free 8
  have HF := Lib.hid (show BV (fun v : Value => v) ((((((((((u5.setCell ⟨w.heap.size + 1 + 1, 8, none⟩ (.slice (some ⟨g, 0, none⟩) x.xs.length x.xs.length)).setCell ⟨w.heap.size + 1, 0, none⟩ (.string x.nm)).setCell ⟨w.heap.size + 1, 1, none⟩ (.int .i64 x.v0)).setCell ⟨w.heap.size + 1, 2, none⟩ (.int .i64 x.v1)).setCell ⟨w.heap.size + 1, 3, none⟩ (.int .i64 x.v2)).setCell ⟨w.heap.size + 1, 4, none⟩ (.int .i64 x.v3)).setCell ⟨w.heap.size + 1, 5, none⟩ (.int .i64 x.v4)).setCell ⟨w.heap.size + 1, 6, none⟩ (.int .i64 x.v5)).setCell ⟨w.heap.size + 1, 7, none⟩ (.int .i64 x.v6)).setCell ⟨w.heap.size + 1, 8, none⟩ (.slice (some ⟨g, 0, none⟩) x.xs.length x.xs.length)) (w.heap.size + 1) 70 [.string x.nm, .int .i64 x.v0, .int .i64 x.v1, .int .i64 x.v2, .int .i64 x.v3, .int .i64 x.v4, .int .i64 x.v5, .int .i64 x.v6, .slice (some ⟨g, 0, none⟩) x.xs.length x.xs.length] from ((((((((((hZ.far (p := ⟨w.heap.size + 1 + 1, 8, none⟩) (by simp only; omega) _).put 0 (.string x.nm)).put 1 (.int .i64 x.v0)).put 2 (.int .i64 x.v1)).put 3 (.int .i64 x.v2)).put 4 (.int .i64 x.v3)).put 5 (.int .i64 x.v4)).put 6 (.int .i64 x.v5)).put 7 (.int .i64 x.v6)).put 8 (.slice (some ⟨g, 0, none⟩) x.xs.length x.xs.length)))
  have HR := Lib.hid (show BV (.int .i64) ((((((((((u5.setCell ⟨w.heap.size + 1 + 1, 8, none⟩ (.slice (some ⟨g, 0, none⟩) x.xs.length x.xs.length)).setCell ⟨w.heap.size + 1, 0, none⟩ (.string x.nm)).setCell ⟨w.heap.size + 1, 1, none⟩ (.int .i64 x.v0)).setCell ⟨w.heap.size + 1, 2, none⟩ (.int .i64 x.v1)).setCell ⟨w.heap.size + 1, 3, none⟩ (.int .i64 x.v2)).setCell ⟨w.heap.size + 1, 4, none⟩ (.int .i64 x.v3)).setCell ⟨w.heap.size + 1, 5, none⟩ (.int .i64 x.v4)).setCell ⟨w.heap.size + 1, 6, none⟩ (.int .i64 x.v5)).setCell ⟨w.heap.size + 1, 7, none⟩ (.int .i64 x.v6)).setCell ⟨w.heap.size + 1, 8, none⟩ (.slice (some ⟨g, 0, none⟩) x.xs.length x.xs.length)) g 2 x.xs from (((((((((HBV.out.far (p := ⟨w.heap.size + 1 + 1, 8, none⟩) (by simp only; omega) _).far (p := ⟨w.heap.size + 1, 0, none⟩) (by simp only; omega) _).far (p := ⟨w.heap.size + 1, 1, none⟩) (by simp only; omega) _).far (p := ⟨w.heap.size + 1, 2, none⟩) (by simp only; omega) _).far (p := ⟨w.heap.size + 1, 3, none⟩) (by simp only; omega) _).far (p := ⟨w.heap.size + 1, 4, none⟩) (by simp only; omega) _).far (p := ⟨w.heap.size + 1, 5, none⟩) (by simp only; omega) _).far (p := ⟨w.heap.size + 1, 6, none⟩) (by simp only; omega) _).far (p := ⟨w.heap.size + 1, 7, none⟩) (by simp only; omega) _).far (p := ⟨w.heap.size + 1, 8, none⟩) (by simp only; omega) _)
  have HB6 := Lib.hid (show Below w.heap.size w ((((((((((u5.setCell ⟨w.heap.size + 1 + 1, 8, none⟩ (.slice (some ⟨g, 0, none⟩) x.xs.length x.xs.length)).setCell ⟨w.heap.size + 1, 0, none⟩ (.string x.nm)).setCell ⟨w.heap.size + 1, 1, none⟩ (.int .i64 x.v0)).setCell ⟨w.heap.size + 1, 2, none⟩ (.int .i64 x.v1)).setCell ⟨w.heap.size + 1, 3, none⟩ (.int .i64 x.v2)).setCell ⟨w.heap.size + 1, 4, none⟩ (.int .i64 x.v3)).setCell ⟨w.heap.size + 1, 5, none⟩ (.int .i64 x.v4)).setCell ⟨w.heap.size + 1, 6, none⟩ (.int .i64 x.v5)).setCell ⟨w.heap.size + 1, 7, none⟩ (.int .i64 x.v6)).setCell ⟨w.heap.size + 1, 8, none⟩ (.slice (some ⟨g, 0, none⟩) x.xs.length x.xs.length)) from (gr_set (by simp only; omega) (gr_set (by simp only; omega) (gr_set (by simp only; omega) (gr_set (by simp only; omega) (gr_set (by simp only; omega) (gr_set (by simp only; omega) (gr_set (by simp only; omega) (gr_set (by simp only; omega) (gr_set (by simp only; omega) (gr_set (by simp only; omega) HB5.out)))))))))))
  clear hZ hO
  go_wp2
  clear z0 z1 z2 z3 z4 z5 z6 z7 z8 zf0 zf1 zf2 zf3 zf4 zf5 zf6 zf7 zf8 d0 d1 d2 d3 d4 d5 d6 d7 d8 df0 df1 df2 df3 df4 df5 df6 df7 df8
  generalize ((((((((((u5.setCell ⟨w.heap.size + 1 + 1, 8, none⟩ (.slice (some ⟨g, 0, none⟩) x.xs.length x.xs.length)).setCell ⟨w.heap.size + 1, 0, none⟩ (.string x.nm)).setCell ⟨w.heap.size + 1, 1, none⟩ (.int .i64 x.v0)).setCell ⟨w.heap.size + 1, 2, none⟩ (.int .i64 x.v1)).setCell ⟨w.heap.size + 1, 3, none⟩ (.int .i64 x.v2)).setCell ⟨w.heap.size + 1, 4, none⟩ (.int .i64 x.v3)).setCell ⟨w.heap.size + 1, 5, none⟩ (.int .i64 x.v4)).setCell ⟨w.heap.size + 1, 6, none⟩ (.int .i64 x.v5)).setCell ⟨w.heap.size + 1, 7, none⟩ (.int .i64 x.v6)).setCell ⟨w.heap.size + 1, 8, none⟩ (.slice (some ⟨g, 0, none⟩) x.xs.length x.xs.length)) = u6 at *
  have hF := HF.out
  have e0 := hF.cell (j := 0) rfl
  have e1 := hF.cell (j := 1) rfl
  have e2 := hF.cell (j := 2) rfl
  have e3 := hF.cell (j := 3) rfl
  have e4 := hF.cell (j := 4) rfl
  have e5 := hF.cell (j := 5) rfl
  have e6 := hF.cell (j := 6) rfl
  have e7 := hF.cell (j := 7) rfl
  have e8 := hF.cell (j := 8) rfl
  clear hF
  refine bodyPost_ret (v := .agg #[.string x.nm, .int .i64 x.v0, .int .i64 x.v1, .int .i64 x.v2, .int .i64 x.v3, .int .i64 x.v4, .int .i64 x.v5, .int .i64 x.v6, .slice (some ⟨g, 0, none⟩) x.xs.length x.xs.length]) (by simp [results, Try.results57, go_sem, e0, e1, e2, e3, e4, e5, e6, e7, e8]) rfl ?_
  exact ⟨g, rfl, by omega, HR.out, HB6.out⟩
set_option maxHeartbeats 1000000 in
theorem eqPt_same (a b : Int) (w : World) : Calls Try.prog 71 #[.agg #[.int .i64 a, .int .i64 b], .agg #[.int .i64 a, .int .i64 b]] w fun e w' => e = .returned (.bool true) ∧ Below w.heap.size w w' := by
  go_enter Try.func71, Try.ntmps71; go_wp2; go_returns; exact ⟨rfl, by repeat' first | exact gr_refl _ | with_reducible assumption | with_reducible apply gr_alloc | with_reducible apply gr_set | with_reducible apply gr_drew | with_reducible apply gr_drewN | exact Nat.le_add_right _ _ | exact Nat.le_refl _ | (refine gr_then (by with_reducible assumption) ?_)⟩
end Go.Proofs.Ytoglmeiffidcbaa
