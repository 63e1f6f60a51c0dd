/- The laws' functions on motions: sizes, copies, comparisons. -/
import Derived.Test.YtoojnfdphjdocaaDoorInts
namespace Go.Proofs.YtoojnfdphjdocaaDoor
open Go.RowKit
set_option maxHeartbeats 1000000 in
theorem szMotion_any (s : Int) (A : Option Addr) (n c : Nat) (left : Int) (w : World) (hn : n ≤ 9223372036854775807) (h0 : 0 ≤ left) (h1 : left ≤ 1048576) : Calls Tryd.prog 5 #[.agg #[.int .i64 s, .slice A n c], .int .i64 left] w fun e w' => e = .returned (.int .i64 (if left < n then -1 else left - n)) ∧ Below w.heap.size w w' := by
  by_cases hl : left < n
  · have hi := fun w => szInt64S_any A n c left w hn h0 h1
    simp only [if_pos hl] at hi ⊢
    have HI := Lib.hid hi
    clear hi
    go_enter Tryd.func5, Tryd.ntmps5; go_wp2_with (go_at_call 14; (with_reducible refine (HI.out _).mono ?_); rintro e w1 ⟨rfl, rfl⟩); go_returns; exact ⟨rfl, by repeat' first | exact gr_refl _ | with_reducible assumption | with_reducible apply gr_alloc | with_reducible apply gr_set | with_reducible apply gr_drew | with_reducible apply gr_drewN | exact Nat.le_add_right _ _ | exact Nat.le_refl _ | (refine gr_then (by with_reducible assumption) ?_)⟩
  · have hi := fun w => szInt64S_any A n c left w hn h0 h1
    simp only [if_neg hl] at hi ⊢
    have HI := Lib.hid hi
    clear hi
    go_enter Tryd.func5, Tryd.ntmps5; go_wp2_with (go_at_call 14; (with_reducible refine (HI.out _).mono ?_); rintro e w1 ⟨rfl, rfl⟩); go_returns; exact ⟨rfl, by repeat' first | exact gr_refl _ | with_reducible assumption | with_reducible apply gr_alloc | with_reducible apply gr_set | with_reducible apply gr_drew | with_reducible apply gr_drewN | exact Nat.le_add_right _ _ | exact Nat.le_refl _ | (refine gr_then (by with_reducible assumption) ?_)⟩
/-- a motion of new memory was handed back -/
def RetMot (s : Int) (xs : List Int) (t : Nat) (w : World) (e : Ending) (w' : World) : Prop := ∃ g, e = .returned (.agg #[.int .i64 s, .slice (some ⟨g, 0, none⟩) xs.length xs.length]) ∧ w.heap.size ≤ g ∧ BV (.int .i64) w' g t xs ∧ Below w.heap.size w w'
set_option maxHeartbeats 1000000 in
theorem toMotion_any (s : Int) (A : Option Addr) (c : Nat) (xs : List Int) (w : World) (hn : xs.length ≤ 1048576) (h : SV (.int .i64) w w.heap.size A xs) : Calls Tryd.prog 7 #[.agg #[.int .i64 s, .slice A xs.length c]] w (RetMot s xs 2 w) := by
  have H := Lib.hid h
  clear h
  go_enter Tryd.func7, Tryd.ntmps7; go_wp2_with fail
  go_at_call 17
  (with_reducible refine (toInt64S_any _ _ xs _ hn ((H.out.below (by repeat' first | exact gr_refl _ | with_reducible assumption | with_reducible apply gr_alloc | with_reducible apply gr_set | with_reducible apply gr_drew | with_reducible apply gr_drewN | exact Nat.le_add_right _ _ | exact Nat.le_refl _ | (refine gr_then (by with_reducible assumption) ?_))).more (by simp only [World.size_alloc]; omega))).mono ?_)
  rintro e w1 ⟨rfl, hbv, hb⟩
  have hB : Below (((w.alloc (.cells #[.int .i64 s, .slice A xs.length c] 24)).alloc (.cells #[.int .i64 0, .slice none 0 0] 27)).alloc (.cells #[.int .i64 s, .slice none 0 0] 27)).heap.size (((w.alloc (.cells #[.int .i64 s, .slice A xs.length c] 24)).alloc (.cells #[.int .i64 0, .slice none 0 0] 27)).alloc (.cells #[.int .i64 s, .slice none 0 0] 27)) w1 := hb
  obtain ⟨hc, hf⟩ := bcell hB
  have hz := hB.size
  simp only [World.size_alloc] at hbv
  have HBV := Lib.hid hbv
  have HB := Lib.hid (gr_then hb (gr_alloc (gr_alloc (gr_alloc (gr_refl w)))))
  clear hb hbv
  go_wp2
  refine bodyPost_ret (v := .agg #[.int .i64 s, .slice (some ⟨w.heap.size + 1 + 1 + 1, 0, none⟩) xs.length xs.length]) (by simp [results, Tryd.results7, go_sem, *]) rfl ?_
  refine ⟨_, rfl, by omega, ((HBV.out.far (p := ⟨w.heap.size + 1 + 1, 1, none⟩) (by simp) _).far (p := ⟨w.heap.size + 1, 0, none⟩) (by simp; omega) _).far (p := ⟨w.heap.size + 1, 1, none⟩) (by simp; omega) _, ?_⟩
  have := HB.out
  repeat' first | exact gr_refl _ | with_reducible assumption | with_reducible apply gr_alloc | with_reducible apply gr_set | with_reducible apply gr_drew | with_reducible apply gr_drewN | exact Nat.le_add_right _ _ | exact Nat.le_refl _ | (dsimp only; omega) | (refine gr_then (by with_reducible assumption) ?_)
set_option maxHeartbeats 1000000 in
theorem eqMotion_same (s : Int) (A A' : Option Addr) (c c' : Nat) (xs : List Int) (w : World) (hn : xs.length ≤ 1048576) (h : SV (.int .i64) w w.heap.size A xs) (h' : SV (.int .i64) w w.heap.size A' xs) : Calls Tryd.prog 9 #[.agg #[.int .i64 s, .slice A xs.length c], .agg #[.int .i64 s, .slice A' xs.length c']] w fun e w' => e = .returned (.bool true) ∧ Below w.heap.size w w' := by
  have hb0 : Below w.heap.size w ((w.alloc (.cells #[.int .i64 s, .slice A xs.length c] 27)).alloc (.cells #[.int .i64 s, .slice A' xs.length c'] 27)) := gr_alloc (gr_alloc (gr_refl w))
  have H := Lib.hid ((h.below hb0).more hb0.size)
  have H' := Lib.hid ((h'.below hb0).more hb0.size)
  clear h h' hb0
  go_enter Tryd.func9, Tryd.ntmps9; go_wp2_with (go_at_call 23; (with_reducible refine (eqInt64S_same _ _ _ _ xs _ hn H.out H'.out).mono ?_); rintro e w1 ⟨rfl, q, rfl⟩)
  go_returns
  exact ⟨rfl, by repeat' first | exact gr_refl _ | with_reducible assumption | with_reducible apply gr_alloc | with_reducible apply gr_set | with_reducible apply gr_drew | with_reducible apply gr_drewN | exact Nat.le_add_right _ _ | exact Nat.le_refl _ | (refine gr_then (by with_reducible assumption) ?_)⟩
end Go.Proofs.YtoojnfdphjdocaaDoor
