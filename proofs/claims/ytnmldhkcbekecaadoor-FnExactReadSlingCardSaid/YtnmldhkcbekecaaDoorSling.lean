/- Contracts of the functions on slings: both sides compute the same plain functions. -/
import Derived.Test.YtnmldhkcbekecaaDoorRoot
namespace Go.Proofs.YtnmldhkcbekecaaDoor
open Go.RowKit
def okSl (l s r m : Int) : Bool := decide (1 ≤ l ∧ l ≤ 4 ∧ 0 ≤ s ∧ s ≤ 400 ∧ 1 ≤ r ∧ r ≤ 400 ∧ 0 ≤ m ∧ m ≤ 1000 ∧ (¬ l = 1 ∨ s = 0))
theorem okSl_t {l s r m : Int} (h : okSl l s r m = true) : 1 ≤ l ∧ l ≤ 4 ∧ 0 ≤ s ∧ s ≤ 400 ∧ 1 ≤ r ∧ r ≤ 400 ∧ 0 ≤ m ∧ m ≤ 1000 ∧ (¬ l = 1 ∨ s = 0) := of_decide_eq_true h
theorem okSl_y {l s r m : Int} (h : 1 ≤ l ∧ l ≤ 4 ∧ 0 ≤ s ∧ s ≤ 400 ∧ 1 ≤ r ∧ r ≤ 400 ∧ 0 ≤ m ∧ m ≤ 1000 ∧ (¬ l = 1 ∨ s = 0)) : okSl l s r m = true := decide_eq_true h
theorem okSl_n {l s r m : Int} (h : ¬ (1 ≤ l ∧ l ≤ 4 ∧ 0 ≤ s ∧ s ≤ 400 ∧ 1 ≤ r ∧ r ≤ 400 ∧ 0 ≤ m ∧ m ≤ 1000 ∧ (¬ l = 1 ∨ s = 0))) : okSl l s r m = false := decide_eq_false h
/-- four integers in a row of cells -/
def C4 (w : World) (b o : Nat) (x0 x1 x2 x3 : Int) : Prop := w.cell? ⟨b, o, none⟩ = some (.int .i64 x0) ∧ w.cell? ⟨b, o + 1, none⟩ = some (.int .i64 x1) ∧ w.cell? ⟨b, o + 2, none⟩ = some (.int .i64 x2) ∧ w.cell? ⟨b, o + 3, none⟩ = some (.int .i64 x3)
theorem C4.below {w w' : World} {B b o : Nat} {x0 x1 x2 x3 : Int} (h : C4 w b o x0 x1 x2 x3) (hb : Below B w w') (hB : b < B) : C4 w' b o x0 x1 x2 x3 :=
  ⟨(hb.cell (p := ⟨b, o, none⟩) hB).trans h.1, (hb.cell (p := ⟨b, o + 1, none⟩) hB).trans h.2.1, (hb.cell (p := ⟨b, o + 2, none⟩) hB).trans h.2.2.1, (hb.cell (p := ⟨b, o + 3, none⟩) hB).trans h.2.2.2⟩
theorem C4.drewN {w : World} {b o n : Nat} {x0 x1 x2 x3 : Int} (h : C4 w b o x0 x1 x2 x3) : C4 (w.drewN n) b o x0 x1 x2 x3 := h
theorem C4.box (w : World) (t : TypeId) (x0 x1 x2 x3 : Int) : C4 (w.alloc (.cells #[.int .i64 x0, .int .i64 x1, .int .i64 x2, .int .i64 x3] t)) w.heap.size 0 x0 x1 x2 x3 := by
  refine ⟨?_, ?_, ?_, ?_⟩ <;> (rw [cell_of_row _ _ _ _ _ _ (heap_alloc_new w _)]; rfl)
def sqSl (s r : Int) : Int := s * s + 4 * r * r
noncomputable def dbSl (s r : Int) : Int := rt (sqSl s r)
theorem sqSl_bd {s r : Int} (h0 : 0 ≤ s) (h1 : s ≤ 400) (h2 : 1 ≤ r) (h3 : r ≤ 400) : 0 ≤ s * s ∧ s * s ≤ 160000 ∧ 4 ≤ 4 * r * r ∧ 4 * r * r ≤ 640000 := by
  have a1 := Int.mul_nonneg h0 h0
  have a2 := sq_mono h0 h1
  have a3 := sq_mono (a := 1) (by omega) h2
  have a4 := sq_mono (show 0 ≤ r by omega) h3
  rw [Int.mul_assoc]
  omega
theorem dbSl_bd {s r : Int} (h0 : 0 ≤ s) (h1 : s ≤ 400) (h2 : 1 ≤ r) (h3 : r ≤ 400) : 1 ≤ dbSl s r ∧ dbSl s r ≤ 1000 := by
  have b := sqSl_bd h0 h1 h2 h3
  have c := rt_bd (n := sqSl s r) (top := 1000) (by unfold sqSl; omega) (by omega) (by unfold sqSl; omega)
  exact ⟨rt_pos (by unfold sqSl; omega) (by unfold sqSl; omega), c.2⟩
def clSl (l s r : Int) : Int := if l = 1 then 0 else if s ≤ 2 * r then 1 else if s * s ≤ 12 * r * r then 2 else 3
set_option maxHeartbeats 1000000 in
theorem toSling_any (l s r m : Int) (w : World) : Calls Tryd.prog 6 #[.agg #[.int .i64 l, .int .i64 s, .int .i64 r, .int .i64 m]] w fun e w' => e = .returned (.agg #[.int .i64 l, .int .i64 s, .int .i64 r, .int .i64 m]) ∧ Below w.heap.size w w' := by
  go_enter Tryd.func6, Tryd.ntmps6; go_wp2; go_returns; exact ⟨rfl, by repeat' first | exact gr_refl _ | with_reducible assumption | with_reducible apply gr_alloc | with_reducible apply gr_set | with_reducible apply gr_drew | with_reducible apply gr_drewN | exact Nat.le_add_right _ _ | exact Nat.le_refl _ | (refine gr_then (by with_reducible assumption) ?_)⟩
set_option maxHeartbeats 3000000 in
theorem l07Ok_any (l s r m : Int) (b o : Nat) (w : World) (h : C4 w b o l s r m) : Calls Tryd.prog 11 #[.pointer (some ⟨b, o, none⟩)] w fun e w' => e = .returned (.bool (okSl l s r m)) ∧ w = w' := by
  obtain ⟨c0, c1, c2, c3⟩ := h
  by_cases h0 : 1 ≤ l
  case neg => have hd := decide_eq_false h0; rw [okSl_n (by omega)]; go_enter Tryd.func11, Tryd.ntmps11; go_wp2; go_returns; exact ⟨rfl, rfl⟩
  by_cases h1 : l ≤ 4
  case neg => have hd := decide_eq_false h1; rw [okSl_n (by omega)]; go_enter Tryd.func11, Tryd.ntmps11; go_wp2; go_returns; exact ⟨rfl, rfl⟩
  by_cases h2 : 0 ≤ s
  case neg => have hd := decide_eq_false h2; rw [okSl_n (by omega)]; go_enter Tryd.func11, Tryd.ntmps11; go_wp2; go_returns; exact ⟨rfl, rfl⟩
  by_cases h3 : s ≤ 400
  case neg => have hd := decide_eq_false h3; rw [okSl_n (by omega)]; go_enter Tryd.func11, Tryd.ntmps11; go_wp2; go_returns; exact ⟨rfl, rfl⟩
  by_cases h4 : 1 ≤ r
  case neg => have hd := decide_eq_false h4; rw [okSl_n (by omega)]; go_enter Tryd.func11, Tryd.ntmps11; go_wp2; go_returns; exact ⟨rfl, rfl⟩
  by_cases h5 : r ≤ 400
  case neg => have hd := decide_eq_false h5; rw [okSl_n (by omega)]; go_enter Tryd.func11, Tryd.ntmps11; go_wp2; go_returns; exact ⟨rfl, rfl⟩
  by_cases h6 : 0 ≤ m
  case neg => have hd := decide_eq_false h6; rw [okSl_n (by omega)]; go_enter Tryd.func11, Tryd.ntmps11; go_wp2; go_returns; exact ⟨rfl, rfl⟩
  by_cases h7 : m ≤ 1000
  case neg => have hd := decide_eq_false h7; rw [okSl_n (by omega)]; go_enter Tryd.func11, Tryd.ntmps11; go_wp2; go_returns; exact ⟨rfl, rfl⟩
  by_cases hl : 1 < l
  · rw [okSl_y (by omega)]; go_enter Tryd.func11, Tryd.ntmps11; go_wp2; go_returns; exact ⟨rfl, rfl⟩
  obtain rfl : l = 1 := by omega
  by_cases hs : s = 0
  · subst hs; rw [okSl_y (by omega)]; go_enter Tryd.func11, Tryd.ntmps11; go_wp2; go_returns; exact ⟨rfl, rfl⟩
  · have hs2 : (s == 0) = false := beq_eq_false_iff_ne.2 hs; rw [okSl_n (by omega)]; go_enter Tryd.func11, Tryd.ntmps11; go_wp2; go_returns; exact ⟨rfl, rfl⟩
set_option maxHeartbeats 3000000 in
theorem validSling_any (l s r m : Int) (w : World) : Calls Tryd.prog 13 #[.agg #[.int .i64 l, .int .i64 s, .int .i64 r, .int .i64 m]] w fun e w' => e = .returned (.bool (okSl l s r m)) ∧ Below w.heap.size w w' := by
  by_cases h0 : 1 ≤ l
  case neg => have hd := decide_eq_false h0; rw [okSl_n (by omega)]; go_enter Tryd.func13, Tryd.ntmps13; go_wp2; go_returns; exact ⟨rfl, by repeat' first | exact gr_refl _ | with_reducible assumption | with_reducible apply gr_alloc | with_reducible apply gr_set | with_reducible apply gr_drew | with_reducible apply gr_drewN | exact Nat.le_add_right _ _ | exact Nat.le_refl _ | (refine gr_then (by with_reducible assumption) ?_)⟩
  by_cases h1 : l ≤ 4
  case neg => have hd := decide_eq_false h1; rw [okSl_n (by omega)]; go_enter Tryd.func13, Tryd.ntmps13; go_wp2; go_returns; exact ⟨rfl, by repeat' first | exact gr_refl _ | with_reducible assumption | with_reducible apply gr_alloc | with_reducible apply gr_set | with_reducible apply gr_drew | with_reducible apply gr_drewN | exact Nat.le_add_right _ _ | exact Nat.le_refl _ | (refine gr_then (by with_reducible assumption) ?_)⟩
  by_cases h2 : 0 ≤ s
  case neg => have hd := decide_eq_false h2; rw [okSl_n (by omega)]; go_enter Tryd.func13, Tryd.ntmps13; go_wp2; go_returns; exact ⟨rfl, by repeat' first | exact gr_refl _ | with_reducible assumption | with_reducible apply gr_alloc | with_reducible apply gr_set | with_reducible apply gr_drew | with_reducible apply gr_drewN | exact Nat.le_add_right _ _ | exact Nat.le_refl _ | (refine gr_then (by with_reducible assumption) ?_)⟩
  by_cases h3 : s ≤ 400
  case neg => have hd := decide_eq_false h3; rw [okSl_n (by omega)]; go_enter Tryd.func13, Tryd.ntmps13; go_wp2; go_returns; exact ⟨rfl, by repeat' first | exact gr_refl _ | with_reducible assumption | with_reducible apply gr_alloc | with_reducible apply gr_set | with_reducible apply gr_drew | with_reducible apply gr_drewN | exact Nat.le_add_right _ _ | exact Nat.le_refl _ | (refine gr_then (by with_reducible assumption) ?_)⟩
  by_cases hl : 1 < l
  · have hl2 : (l == 1) = false := beq_eq_false_iff_ne.2 (by omega)
    by_cases h4 : 1 ≤ r
    case neg => have hd := decide_eq_false h4; rw [okSl_n (by omega)]; go_enter Tryd.func13, Tryd.ntmps13; go_wp2; go_returns; exact ⟨rfl, by repeat' first | exact gr_refl _ | with_reducible assumption | with_reducible apply gr_alloc | with_reducible apply gr_set | with_reducible apply gr_drew | with_reducible apply gr_drewN | exact Nat.le_add_right _ _ | exact Nat.le_refl _ | (refine gr_then (by with_reducible assumption) ?_)⟩
    by_cases h5 : r ≤ 400
    case neg => have hd := decide_eq_false h5; rw [okSl_n (by omega)]; go_enter Tryd.func13, Tryd.ntmps13; go_wp2; go_returns; exact ⟨rfl, by repeat' first | exact gr_refl _ | with_reducible assumption | with_reducible apply gr_alloc | with_reducible apply gr_set | with_reducible apply gr_drew | with_reducible apply gr_drewN | exact Nat.le_add_right _ _ | exact Nat.le_refl _ | (refine gr_then (by with_reducible assumption) ?_)⟩
    by_cases h6 : 0 ≤ m
    case neg => have hd := decide_eq_false h6; rw [okSl_n (by omega)]; go_enter Tryd.func13, Tryd.ntmps13; go_wp2; go_returns; exact ⟨rfl, by repeat' first | exact gr_refl _ | with_reducible assumption | with_reducible apply gr_alloc | with_reducible apply gr_set | with_reducible apply gr_drew | with_reducible apply gr_drewN | exact Nat.le_add_right _ _ | exact Nat.le_refl _ | (refine gr_then (by with_reducible assumption) ?_)⟩
    by_cases h7 : m ≤ 1000
    case neg => have hd := decide_eq_false h7; rw [okSl_n (by omega)]; go_enter Tryd.func13, Tryd.ntmps13; go_wp2; go_returns; exact ⟨rfl, by repeat' first | exact gr_refl _ | with_reducible assumption | with_reducible apply gr_alloc | with_reducible apply gr_set | with_reducible apply gr_drew | with_reducible apply gr_drewN | exact Nat.le_add_right _ _ | exact Nat.le_refl _ | (refine gr_then (by with_reducible assumption) ?_)⟩
    rw [okSl_y (by omega)]; go_enter Tryd.func13, Tryd.ntmps13; go_wp2; go_returns; exact ⟨rfl, by repeat' first | exact gr_refl _ | with_reducible assumption | with_reducible apply gr_alloc | with_reducible apply gr_set | with_reducible apply gr_drew | with_reducible apply gr_drewN | exact Nat.le_add_right _ _ | exact Nat.le_refl _ | (refine gr_then (by with_reducible assumption) ?_)⟩
  obtain rfl : l = 1 := by omega
  by_cases hs : s = 0
  · subst hs
    by_cases h4 : 1 ≤ r
    case neg => have hd := decide_eq_false h4; rw [okSl_n (by omega)]; go_enter Tryd.func13, Tryd.ntmps13; go_wp2; go_returns; exact ⟨rfl, by repeat' first | exact gr_refl _ | with_reducible assumption | with_reducible apply gr_alloc | with_reducible apply gr_set | with_reducible apply gr_drew | with_reducible apply gr_drewN | exact Nat.le_add_right _ _ | exact Nat.le_refl _ | (refine gr_then (by with_reducible assumption) ?_)⟩
    by_cases h5 : r ≤ 400
    case neg => have hd := decide_eq_false h5; rw [okSl_n (by omega)]; go_enter Tryd.func13, Tryd.ntmps13; go_wp2; go_returns; exact ⟨rfl, by repeat' first | exact gr_refl _ | with_reducible assumption | with_reducible apply gr_alloc | with_reducible apply gr_set | with_reducible apply gr_drew | with_reducible apply gr_drewN | exact Nat.le_add_right _ _ | exact Nat.le_refl _ | (refine gr_then (by with_reducible assumption) ?_)⟩
    by_cases h6 : 0 ≤ m
    case neg => have hd := decide_eq_false h6; rw [okSl_n (by omega)]; go_enter Tryd.func13, Tryd.ntmps13; go_wp2; go_returns; exact ⟨rfl, by repeat' first | exact gr_refl _ | with_reducible assumption | with_reducible apply gr_alloc | with_reducible apply gr_set | with_reducible apply gr_drew | with_reducible apply gr_drewN | exact Nat.le_add_right _ _ | exact Nat.le_refl _ | (refine gr_then (by with_reducible assumption) ?_)⟩
    by_cases h7 : m ≤ 1000
    case neg => have hd := decide_eq_false h7; rw [okSl_n (by omega)]; go_enter Tryd.func13, Tryd.ntmps13; go_wp2; go_returns; exact ⟨rfl, by repeat' first | exact gr_refl _ | with_reducible assumption | with_reducible apply gr_alloc | with_reducible apply gr_set | with_reducible apply gr_drew | with_reducible apply gr_drewN | exact Nat.le_add_right _ _ | exact Nat.le_refl _ | (refine gr_then (by with_reducible assumption) ?_)⟩
    rw [okSl_y (by omega)]; go_enter Tryd.func13, Tryd.ntmps13; go_wp2; go_returns; exact ⟨rfl, by repeat' first | exact gr_refl _ | with_reducible assumption | with_reducible apply gr_alloc | with_reducible apply gr_set | with_reducible apply gr_drew | with_reducible apply gr_drewN | exact Nat.le_add_right _ _ | exact Nat.le_refl _ | (refine gr_then (by with_reducible assumption) ?_)⟩
  · have hs2 : (s != 0) = true := by rw [bne_iff_ne]; exact hs
    rw [okSl_n (by omega)]; go_enter Tryd.func13, Tryd.ntmps13; go_wp2; go_returns; exact ⟨rfl, by repeat' first | exact gr_refl _ | with_reducible assumption | with_reducible apply gr_alloc | with_reducible apply gr_set | with_reducible apply gr_drew | with_reducible apply gr_drewN | exact Nat.le_add_right _ _ | exact Nat.le_refl _ | (refine gr_then (by with_reducible assumption) ?_)⟩
end Go.Proofs.YtnmldhkcbekecaaDoor
