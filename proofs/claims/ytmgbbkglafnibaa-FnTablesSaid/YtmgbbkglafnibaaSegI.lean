/- Contracts: the square of the distance of two segments, both sides. -/
import Derived.Test.YtmgbbkglafnibaaSegH
import Derived.Deep.RegionHeld3
namespace Go.Proofs.Ytmgbbkglafnibaa
open Go.RowKit
set_option maxHeartbeats 4000000 in
theorem meet14_is {a b c d e f g h : Int} {r : Bool} (hk : meetB a b c d e f g h = r) (h1 : okSg a b c d = true) (h2 : okSg e f g h = true) (w : World) : Calls Try.prog 96 #[.agg #[.int .i64 a, .int .i64 b, .int .i64 c, .int .i64 d], .agg #[.int .i64 e, .int .i64 f, .int .i64 g, .int .i64 h]] w fun ee w' => ee = .returned (.bool r) ∧ Below w.heap.size w w' := by
  subst hk
  exact meet14_any _ _ _ _ _ _ _ _ w h1 h2
set_option maxHeartbeats 4000000 in
theorem less14_is {an ad bn bd : Int} {r : Bool} (hk : lsB an ad bn bd = r) (w : World) (ha : 0 ≤ an ∧ an ≤ 9223372036854775807) (ha2 : 1 ≤ ad ∧ ad ≤ 9223372036854775807) (hb : 0 ≤ bn ∧ bn ≤ 9223372036854775807) (hb2 : 1 ≤ bd ∧ bd ≤ 9223372036854775807) : Calls Try.prog 92 #[.agg #[.int .i64 an, .int .i64 ad], .agg #[.int .i64 bn, .int .i64 bd]] w fun e w' => e = .returned (.bool r) ∧ Below w.heap.size w w' := by
  subst hk
  exact less14_any _ _ _ _ w ha ha2 hb hb2
set_option maxHeartbeats 8000000 in
theorem square14_any (a b c d e f g h : Int) (w : World) (h1 : okSg a b c d = true) (h2 : okSg e f g h = true) : Calls Try.prog 93 #[.agg #[.int .i64 a, .int .i64 b, .int .i64 c, .int .i64 d], .agg #[.int .i64 e, .int .i64 f, .int .i64 g, .int .i64 h]] w fun ee w' => ee = .returned (.agg #[.int .i64 (ssF a b c d e f g h).1, .int .i64 (ssF a b c d e f g h).2]) ∧ Below w.heap.size w w' := by
  obtain ⟨u1, u2⟩ := okSg_t h1
  obtain ⟨u3, u4⟩ := okSg_t h2
  by_cases m : meetB a b c d e f g h = true
  · rw [show ssF a b c d e f g h = (0, 1) from if_pos m]
    go_enter Try.func93, Try.ntmps93; go_wp2_with (go_at_call 96; (with_reducible refine (meet14_is (by assumption) (by assumption) (by assumption) _).mono ?_); rintro e w1 ⟨rfl, hb⟩; have hB : Below ((((w).alloc (.cells #[.int .i64 a, .int .i64 b, .int .i64 c, .int .i64 d] 102)).alloc (.cells #[.int .i64 e, .int .i64 f, .int .i64 g, .int .i64 h] 102)).alloc (.cells #[.int .i64 0, .int .i64 0] 111)).heap.size ((((w).alloc (.cells #[.int .i64 a, .int .i64 b, .int .i64 c, .int .i64 d] 102)).alloc (.cells #[.int .i64 e, .int .i64 f, .int .i64 g, .int .i64 h] 102)).alloc (.cells #[.int .i64 0, .int .i64 0] 111)) w1 := gr_then hb (by repeat' first | exact gr_refl _ | with_reducible assumption | with_reducible apply gr_alloc | with_reducible apply gr_set | with_reducible apply gr_drew | with_reducible apply gr_drewN | exact Nat.le_add_right _ _ | exact Nat.le_refl _ | (refine gr_then (by with_reducible assumption) ?_)); obtain ⟨hc, hf⟩ := bcell hB; have hz := hB.size); refine bodyPost_ret (v := .agg #[.int .i64 0, .int .i64 1]) (by simp [results, Try.results93, go_sem, *]) rfl ?_; exact ⟨rfl, by repeat' first | exact gr_refl _ | with_reducible assumption | with_reducible apply gr_alloc | with_reducible apply gr_set | with_reducible apply gr_drew | with_reducible apply gr_drewN | exact Nat.le_add_right _ _ | exact Nat.le_refl _ | (dsimp only; omega) | (refine gr_then (by with_reducible assumption) ?_)⟩
  have m := (Bool.not_eq_true _).mp m
  rw [show ssF a b c d e f g h = foldZ (ssL a b c d e f g h) (psF a b c d e f) 3 from if_neg (by simp [m])]
  go_enter Try.func93, Try.ntmps93; go_wp2_with (first | (go_at_call 96; (with_reducible refine (meet14_is (by assumption) (by assumption) (by assumption) _).mono ?_); rintro e w1 ⟨rfl, hb⟩; have hB : Below ((((w).alloc (.cells #[.int .i64 a, .int .i64 b, .int .i64 c, .int .i64 d] 102)).alloc (.cells #[.int .i64 e, .int .i64 f, .int .i64 g, .int .i64 h] 102)).alloc (.cells #[.int .i64 0, .int .i64 0] 111)).heap.size ((((w).alloc (.cells #[.int .i64 a, .int .i64 b, .int .i64 c, .int .i64 d] 102)).alloc (.cells #[.int .i64 e, .int .i64 f, .int .i64 g, .int .i64 h] 102)).alloc (.cells #[.int .i64 0, .int .i64 0] 111)) w1 := gr_then hb (by repeat' first | exact gr_refl _ | with_reducible assumption | with_reducible apply gr_alloc | with_reducible apply gr_set | with_reducible apply gr_drew | with_reducible apply gr_drewN | exact Nat.le_add_right _ _ | exact Nat.le_refl _ | (refine gr_then (by with_reducible assumption) ?_)); obtain ⟨hc, hf⟩ := bcell hB; have hz := hB.size) | (go_at_call 97; (with_reducible refine (ps14_any _ _ _ _ _ _ _ (by assumption) (by assumption)).mono ?_); rintro e w1 ⟨rfl, hb⟩; have hB : Below ((((w).alloc (.cells #[.int .i64 a, .int .i64 b, .int .i64 c, .int .i64 d] 102)).alloc (.cells #[.int .i64 e, .int .i64 f, .int .i64 g, .int .i64 h] 102)).alloc (.cells #[.int .i64 0, .int .i64 0] 111)).heap.size ((((w).alloc (.cells #[.int .i64 a, .int .i64 b, .int .i64 c, .int .i64 d] 102)).alloc (.cells #[.int .i64 e, .int .i64 f, .int .i64 g, .int .i64 h] 102)).alloc (.cells #[.int .i64 0, .int .i64 0] 111)) w1 := gr_then hb (by repeat' first | exact gr_refl _ | with_reducible assumption | with_reducible apply gr_alloc | with_reducible apply gr_set | with_reducible apply gr_drew | with_reducible apply gr_drewN | exact Nat.le_add_right _ _ | exact Nat.le_refl _ | (refine gr_then (by with_reducible assumption) ?_)); obtain ⟨hc, hf⟩ := bcell hB; have hz := hB.size))
  have hE : Below ((((w).alloc (.cells #[.int .i64 a, .int .i64 b, .int .i64 c, .int .i64 d] 102)).alloc (.cells #[.int .i64 e, .int .i64 f, .int .i64 g, .int .i64 h] 102)).alloc (.cells #[.int .i64 0, .int .i64 0] 111)).heap.size ((((w).alloc (.cells #[.int .i64 a, .int .i64 b, .int .i64 c, .int .i64 d] 102)).alloc (.cells #[.int .i64 e, .int .i64 f, .int .i64 g, .int .i64 h] 102)).alloc (.cells #[.int .i64 0, .int .i64 0] 111)) (w1.alloc (.cells #[.int .i64 (psN a b c d e f), .int .i64 (psD a b c d e f)] 111)) := gr_alloc hB
  have c0 := grc hE (show ((((w).alloc (.cells #[.int .i64 a, .int .i64 b, .int .i64 c, .int .i64 d] 102)).alloc (.cells #[.int .i64 e, .int .i64 f, .int .i64 g, .int .i64 h] 102)).alloc (.cells #[.int .i64 0, .int .i64 0] 111)).cell? ⟨w.heap.size, 0, none⟩ = some (.int .i64 a) by simp [go_sem])
  have c1 := grc hE (show ((((w).alloc (.cells #[.int .i64 a, .int .i64 b, .int .i64 c, .int .i64 d] 102)).alloc (.cells #[.int .i64 e, .int .i64 f, .int .i64 g, .int .i64 h] 102)).alloc (.cells #[.int .i64 0, .int .i64 0] 111)).cell? ⟨w.heap.size, 1, none⟩ = some (.int .i64 b) by simp [go_sem])
  have c2 := grc hE (show ((((w).alloc (.cells #[.int .i64 a, .int .i64 b, .int .i64 c, .int .i64 d] 102)).alloc (.cells #[.int .i64 e, .int .i64 f, .int .i64 g, .int .i64 h] 102)).alloc (.cells #[.int .i64 0, .int .i64 0] 111)).cell? ⟨w.heap.size, 2, none⟩ = some (.int .i64 c) by simp [go_sem])
  have c3 := grc hE (show ((((w).alloc (.cells #[.int .i64 a, .int .i64 b, .int .i64 c, .int .i64 d] 102)).alloc (.cells #[.int .i64 e, .int .i64 f, .int .i64 g, .int .i64 h] 102)).alloc (.cells #[.int .i64 0, .int .i64 0] 111)).cell? ⟨w.heap.size, 3, none⟩ = some (.int .i64 d) by simp [go_sem])
  have c4 := grc hE (show ((((w).alloc (.cells #[.int .i64 a, .int .i64 b, .int .i64 c, .int .i64 d] 102)).alloc (.cells #[.int .i64 e, .int .i64 f, .int .i64 g, .int .i64 h] 102)).alloc (.cells #[.int .i64 0, .int .i64 0] 111)).cell? ⟨w.heap.size + 1, 0, none⟩ = some (.int .i64 e) by simp [go_sem])
  have c5 := grc hE (show ((((w).alloc (.cells #[.int .i64 a, .int .i64 b, .int .i64 c, .int .i64 d] 102)).alloc (.cells #[.int .i64 e, .int .i64 f, .int .i64 g, .int .i64 h] 102)).alloc (.cells #[.int .i64 0, .int .i64 0] 111)).cell? ⟨w.heap.size + 1, 1, none⟩ = some (.int .i64 f) by simp [go_sem])
  have c6 := grc hE (show ((((w).alloc (.cells #[.int .i64 a, .int .i64 b, .int .i64 c, .int .i64 d] 102)).alloc (.cells #[.int .i64 e, .int .i64 f, .int .i64 g, .int .i64 h] 102)).alloc (.cells #[.int .i64 0, .int .i64 0] 111)).cell? ⟨w.heap.size + 1, 2, none⟩ = some (.int .i64 g) by simp [go_sem])
  have c7 := grc hE (show ((((w).alloc (.cells #[.int .i64 a, .int .i64 b, .int .i64 c, .int .i64 d] 102)).alloc (.cells #[.int .i64 e, .int .i64 f, .int .i64 g, .int .i64 h] 102)).alloc (.cells #[.int .i64 0, .int .i64 0] 111)).cell? ⟨w.heap.size + 1, 3, none⟩ = some (.int .i64 h) by simp [go_sem])
  have hK : BI (w1.alloc (.cells #[.int .i64 (psN a b c d e f), .int .i64 (psD a b c d e f)] 111)) w1.heap.size 111 [psN a b c d e f, psD a b c d e f] := heap_alloc_new w1 _
  have hR : BI (w1.alloc (.cells #[.int .i64 (psN a b c d e f), .int .i64 (psD a b c d e f)] 111)) (w.heap.size + 2) 111 [0, 0] := BI.late (show BI ((((w).alloc (.cells #[.int .i64 a, .int .i64 b, .int .i64 c, .int .i64 d] 102)).alloc (.cells #[.int .i64 e, .int .i64 f, .int .i64 g, .int .i64 h] 102)).alloc (.cells #[.int .i64 0, .int .i64 0] 111)) (w.heap.size + 2) 111 [0, 0] by have h0 := heap_alloc_new (((w).alloc (.cells #[.int .i64 a, .int .i64 b, .int .i64 c, .int .i64 d] 102)).alloc (.cells #[.int .i64 e, .int .i64 f, .int .i64 g, .int .i64 h] 102)) (.cells #[.int .i64 0, .int .i64 0] 111); simp only [World.size_alloc] at h0; exact h0) hE
  have HW : Below w.heap.size w (w1.alloc (.cells #[.int .i64 (psN a b c d e f), .int .i64 (psD a b c d e f)] 111)) := gr_then hE (gr_alloc (gr_alloc (gr_alloc (gr_refl w))))
  have hRK : w.heap.size + 2 < w1.heap.size := by have := hB.size; simp only [World.size_alloc] at this; omega
  clear hE hB hb hc hf hz
  generalize w1.alloc (.cells #[.int .i64 (psN a b c d e f), .int .i64 (psD a b c d e f)] 111) = W5 at *
  generalize w1.heap.size = K at *
  have HK := Lib.hid hK
  have HR := Lib.hid hR
  have HWW := Lib.hid HW
  clear hK hR HW
  go_region_held3 (fun w' => w'.cell? ⟨w.heap.size, 0, none⟩ = some (.int .i64 a) ∧ w'.cell? ⟨w.heap.size, 1, none⟩ = some (.int .i64 b) ∧ w'.cell? ⟨w.heap.size, 2, none⟩ = some (.int .i64 c) ∧ w'.cell? ⟨w.heap.size, 3, none⟩ = some (.int .i64 d) ∧ w'.cell? ⟨w.heap.size + 1, 0, none⟩ = some (.int .i64 e) ∧ w'.cell? ⟨w.heap.size + 1, 1, none⟩ = some (.int .i64 f) ∧ w'.cell? ⟨w.heap.size + 1, 2, none⟩ = some (.int .i64 g) ∧ w'.cell? ⟨w.heap.size + 1, 3, none⟩ = some (.int .i64 h)) ((refine ⟨grc (W := W5) ?_ c0, grc (W := W5) ?_ c1, grc (W := W5) ?_ c2, grc (W := W5) ?_ c3, grc (W := W5) ?_ c4, grc (W := W5) ?_ c5, grc (W := W5) ?_ c6, grc (W := W5) ?_ c7⟩; all_goals (repeat' first | exact gr_refl _ | with_reducible assumption | with_reducible apply gr_alloc | with_reducible apply gr_set | with_reducible apply gr_drew | with_reducible apply gr_drewN | (dsimp only; omega) | (dsimp only; simp only [World.size_alloc, World.size_setCell]; omega)); done)) ((go_at_call 97; (with_reducible refine (ps14_any _ _ _ _ _ _ _ (by assumption) (by assumption)).mono ?_); rintro e w1 ⟨rfl, hb⟩; have hB : Below W5.heap.size W5 w1 := gr_then hb (by repeat' first | exact gr_refl _ | with_reducible assumption | with_reducible apply gr_alloc | with_reducible apply gr_set | with_reducible apply gr_drew | with_reducible apply gr_drewN | (dsimp only; omega) | (dsimp only; simp only [World.size_alloc, World.size_setCell]; omega)); have hz := hB.size))
  have hL : BI (w1.alloc (.cells #[.int .i64 (psN a b c d g h), .int .i64 (psD a b c d g h), .int .i64 (psN e f g h a b), .int .i64 (psD e f g h a b), .int .i64 (psN e f g h c d), .int .i64 (psD e f g h c d)] 111)) w1.heap.size 111 (ssL a b c d e f g h) := heap_alloc_new w1 _
  have HL := Lib.hid hL
  have HK2 := Lib.hid ((HK.out.late hB).alloc (.cells #[.int .i64 (psN a b c d g h), .int .i64 (psD a b c d g h), .int .i64 (psN e f g h a b), .int .i64 (psD e f g h a b), .int .i64 (psN e f g h c d), .int .i64 (psD e f g h c d)] 111))
  have HR2 := Lib.hid ((HR.out.late hB).alloc (.cells #[.int .i64 (psN a b c d g h), .int .i64 (psD a b c d g h), .int .i64 (psN e f g h a b), .int .i64 (psD e f g h a b), .int .i64 (psN e f g h c d), .int .i64 (psD e f g h c d)] 111))
  have HW2 := Lib.hid (gr_alloc (o := .cells #[.int .i64 (psN a b c d g h), .int .i64 (psD a b c d g h), .int .i64 (psN e f g h a b), .int .i64 (psD e f g h a b), .int .i64 (psN e f g h c d), .int .i64 (psD e f g h c d)] 111) (gr_then hB HWW.out))
  have hKL : K < w1.heap.size := (HK.out.late hB).lt
  clear hL hB hz hb HK HR HWW c0 c1 c2 c3 c4 c5 c6 c7
  go_wp2
  generalize w1.alloc (.cells #[.int .i64 (psN a b c d g h), .int .i64 (psD a b c d g h), .int .i64 (psN e f g h a b), .int .i64 (psD e f g h a b), .int .i64 (psN e f g h c d), .int .i64 (psD e f g h c d)] 111) = W6 at *
  generalize w1.heap.size = L at *
  go_loopw [7] (fun i wr => ∃ k : Nat, k ≤ 3 ∧ i = .int .i64 k ∧ BI wr L 111 (ssL a b c d e f g h) ∧ BI wr K 111 [(foldZ (ssL a b c d e f g h) (psF a b c d e f) k).1, (foldZ (ssL a b c d e f g h) (psF a b c d e f) k).2] ∧ BI wr (w.heap.size + 2) 111 [0, 0] ∧ Below w.heap.size w wr) (fun i _ => 3 - (intOf i).toNat)
  case atStart => exact ⟨0, by omega, rfl, HL.out, HK2.out, HR2.out, HW2.out⟩
  case round =>
    clear HL HK2 HR2 HW2
    obtain ⟨k, hk, rfl, bl, bk, br, hbe⟩ := hrel
    have hkl := bl.lt
    have hkk := bk.lt
    have hkr := br.lt
    by_cases hlt : k < 3
    · have hok := ssL_ok h1 h2 k hlt
      have hob := foldZ_ok (psF_ok h1 u3) k (fun j hj => ssL_ok h1 h2 j (by omega))
      have hfo : foldZ (ssL a b c d e f g h) (psF a b c d e f) (k + 1) = stepB (foldZ (ssL a b c d e f g h) (psF a b c d e f) k) ((ssL a b c d e f g h).getD (k * 2) 0, (ssL a b c d e f g h).getD (k * 2 + 1) 0) := rfl
      have c0 : wr.cell? ⟨L, k * 2, none⟩ = some (.int .i64 ((ssL a b c d e f g h).getD (k * 2) 0)) := bl.cell (k * 2) (by show _ < 6; omega)
      have c1 : wr.cell? ⟨L, k * 2 + 1, none⟩ = some (.int .i64 ((ssL a b c d e f g h).getD (k * 2 + 1) 0)) := bl.cell (k * 2 + 1) (by show _ < 6; omega)
      obtain ⟨fn, hfn⟩ : ∃ x, (ssL a b c d e f g h).getD (k * 2) 0 = x := ⟨_, rfl⟩
      obtain ⟨fd, hfd⟩ : ∃ x, (ssL a b c d e f g h).getD (k * 2 + 1) 0 = x := ⟨_, rfl⟩
      obtain ⟨⟨bn, bd⟩, hbb⟩ : ∃ x, foldZ (ssL a b c d e f g h) (psF a b c d e f) k = x := ⟨_, rfl⟩
      rw [hfn] at c0 hok hfo
      rw [hfd] at c1 hok hfo
      rw [hbb] at bk hob hfo
      clear hfn hfd hbb
      obtain ⟨o1, o2, o3, o4, o5⟩ := hok
      obtain ⟨q1, q2, q3, q4, q5⟩ := hob
      dsimp only at o1 o2 o3 o4 o5 q1 q2 q3 q4 q5
      obtain ⟨d0, d1, d2, d3⟩ := bk.two
      have HF := Lib.hid hfo
      have HL := Lib.hid bl
      have HK := Lib.hid bk
      have HR := Lib.hid br
      have HB := Lib.hid hbe
      clear hfo bl bk br hbe
      have i0 : (0 : Int) ≤ (k : Int) := by omega
      have i1 : (k : Int) < 3 := by omega
      go_wp2
      by_cases t : lsB fn fd bn bd = true
      · skip
        have gw0 : ∀ X, (grw wr X).cell? ⟨L, k * 2, none⟩ = some (.int .i64 fn) := grw_cell c0
        have gw1 : ∀ X, (grw wr X).cell? ⟨L, k * 2 + 1, none⟩ = some (.int .i64 fd) := grw_cell c1
        have gw2 : ∀ X, (grw wr X).cell? ⟨K, 0, none⟩ = some (.int .i64 bn) := grw_cell d0
        have gw3 : ∀ X, (grw wr X).cell? ⟨K, 1, none⟩ = some (.int .i64 bd) := grw_cell d1
        refine wp_region_grow (by kernel_rfl) (by kernel_rfl) ?_
        repeat (go_big_quiet_step ((go_at_call 92; exact grow_of (less14_is (by assumption) _ (by omega) (by omega) (by omega) (by omega)))))
        refine wpQuiet_nil ?_
        rintro wq ⟨X, hX⟩
        have hQ : Below wr.heap.size wr wq := by rw [hX]; exact grw_below _ _
        clear hX gw0 gw1 gw2 gw3
        replace c0 := grc hQ c0
        replace c1 := grc hQ c1
        have bk := HK.out.late hQ
        obtain ⟨d0, d1, d2, d3⟩ := bk.two
        have HK' := Lib.hid bk
        have HL' := Lib.hid (HL.out.late hQ)
        have HR' := Lib.hid (HR.out.late hQ)
        have HB' := Lib.hid (gr_then hQ HB.out)
        clear bk hQ HK HL HR HB
        go_wp2
        go_roundw
        case rel => exact ⟨k + 1, by omega, by go_num, (HL'.out.far (p := ⟨K, 0, none⟩) (by simp; omega) _).far (p := ⟨K, 1, none⟩) (by simp; omega) _, by rw [HF.out, stepB_y t]; exact (HK'.out.put 0 fn).put 1 fd, (HR'.out.far (p := ⟨K, 0, none⟩) (by simp; omega) _).far (p := ⟨K, 1, none⟩) (by simp; omega) _, by have := HB'.out; repeat' first | exact gr_refl _ | with_reducible assumption | with_reducible apply gr_alloc | with_reducible apply gr_set | with_reducible apply gr_drew | with_reducible apply gr_drewN | (dsimp only; omega) | (dsimp only; simp only [World.size_alloc, World.size_setCell]; omega)⟩
        case measure => simp [intOf]; omega
      · have t := (Bool.not_eq_true _).mp t
        have gw0 : ∀ X, (grw wr X).cell? ⟨L, k * 2, none⟩ = some (.int .i64 fn) := grw_cell c0
        have gw1 : ∀ X, (grw wr X).cell? ⟨L, k * 2 + 1, none⟩ = some (.int .i64 fd) := grw_cell c1
        have gw2 : ∀ X, (grw wr X).cell? ⟨K, 0, none⟩ = some (.int .i64 bn) := grw_cell d0
        have gw3 : ∀ X, (grw wr X).cell? ⟨K, 1, none⟩ = some (.int .i64 bd) := grw_cell d1
        refine wp_region_grow (by kernel_rfl) (by kernel_rfl) ?_
        repeat (go_big_quiet_step ((go_at_call 92; exact grow_of (less14_is (by assumption) _ (by omega) (by omega) (by omega) (by omega)))))
        refine wpQuiet_nil ?_
        rintro wq ⟨X, hX⟩
        have hQ : Below wr.heap.size wr wq := by rw [hX]; exact grw_below _ _
        clear hX gw0 gw1 gw2 gw3
        replace c0 := grc hQ c0
        replace c1 := grc hQ c1
        have bk := HK.out.late hQ
        obtain ⟨d0, d1, d2, d3⟩ := bk.two
        have HK' := Lib.hid bk
        have HL' := Lib.hid (HL.out.late hQ)
        have HR' := Lib.hid (HR.out.late hQ)
        have HB' := Lib.hid (gr_then hQ HB.out)
        clear bk hQ HK HL HR HB
        go_wp2
        go_roundw
        case rel => exact ⟨k + 1, by omega, by go_num, HL'.out, by rw [HF.out, stepB_n t]; exact HK'.out, HR'.out, HB'.out⟩
        case measure => simp [intOf]; omega
    · obtain rfl : k = 3 := by omega
      obtain ⟨⟨bn, bd⟩, hbb⟩ : ∃ x, foldZ (ssL a b c d e f g h) (psF a b c d e f) 3 = x := ⟨_, rfl⟩
      rw [hbb] at bk
      dsimp only at bk
      have HE := Lib.hid hbb
      obtain ⟨d0, d1, d2, d3⟩ := bk.two
      obtain ⟨e0, e1, e2, e3⟩ := br.two
      have HB := Lib.hid hbe
      clear bl bk br hbe hbb
      go_wp2
      refine bodyPost_ret (v := .agg #[.int .i64 bn, .int .i64 bd]) (by simp [results, Try.results93, go_sem, *]) rfl ?_
      exact ⟨by rw [HE.out], by have := HB.out; repeat' first | exact gr_refl _ | with_reducible assumption | with_reducible apply gr_alloc | with_reducible apply gr_set | with_reducible apply gr_drew | with_reducible apply gr_drewN | (dsimp only; omega) | (dsimp only; simp only [World.size_alloc, World.size_setCell]; omega)⟩
end Go.Proofs.Ytmgbbkglafnibaa
