/- Contracts of SlowerSpeeds, both sides. -/
import Derived.Test.YtoglmeiffidcbaaSlew
import Derived.Deep.RegionHeld3
namespace Go.Proofs.Ytoglmeiffidcbaa
open Go.RowKit
def slV (g : Bool) (x : Int) : Int := if g = true then x else 0
theorem slV_y {g : Bool} {x : Int} (h : g = true) : slV g x = x := if_pos h
theorem slV_n {g : Bool} {x : Int} (h : g = false) : slV g x = 0 := if_neg (by simp [h])
theorem ret_slow {a b c d e a2 b2 c2 d2 e2 : Int} (h0 : a = a2) (h1 : b = b2) (h2 : c = c2) (h3 : d = d2) (h4 : e = e2) : Ending.returned (.tuple #[.agg #[.int .i64 a, .int .i64 b, .int .i64 c, .int .i64 d], .int .i64 e]) = .returned (.tuple #[.agg #[.int .i64 a2, .int .i64 b2, .int .i64 c2, .int .i64 d2], .int .i64 e2]) := by rw [h0, h1, h2, h3, h4]
set_option maxHeartbeats 4000000 in
theorem specSlow_any (a b c d p : Int) (w : World) : Calls Try.prog 26 #[.agg #[.int .i64 a, .int .i64 b, .int .i64 c, .int .i64 d], .int .i64 p] w fun e w' => e = .returned (.tuple #[.agg #[.int .i64 (slV (slowOk (okSp a b c d) a b c d p) (slowA a p)), .int .i64 (slV (slowOk (okSp a b c d) a b c d p) (slowB b p)), .int .i64 (slV (slowOk (okSp a b c d) a b c d p) (slowB c p)), .int .i64 (slV (slowOk (okSp a b c d) a b c d p) (slowA d p))], .int .i64 (slowE (okSp a b c d) a b c d p)]) ∧ Below w.heap.size w w' := by
  by_cases hok : okSp a b c d = true
  case neg => have hok := (Bool.not_eq_true _).mp hok; have hg : slowOk (okSp a b c d) a b c d p = false := by simp [slowOk, hok]
              rw [slV_n hg, slV_n hg, slV_n hg, slV_n hg, show slowE (okSp a b c d) a b c d p = 1 from if_neg (by simp [hok])]; clear hg; go_enter Try.func26, Try.ntmps26; go_wp2_with (first | (go_at_call 38; refine (l10Ok_any _ _ _ _ _).mono ?_; rintro e w1 ⟨rfl, hb⟩; have hB : Below ((w.alloc (.cells #[.int .i64 a, .int .i64 b, .int .i64 c, .int .i64 d] 25)).alloc (.cells #[.int .i64 0, .int .i64 0, .int .i64 0, .int .i64 0] 25)).heap.size ((w.alloc (.cells #[.int .i64 a, .int .i64 b, .int .i64 c, .int .i64 d] 25)).alloc (.cells #[.int .i64 0, .int .i64 0, .int .i64 0, .int .i64 0] 25)) w1 := gr_then hb (by repeat' first | exact gr_refl _ | with_reducible assumption | with_reducible apply gr_alloc | with_reducible apply gr_set | with_reducible apply gr_drew | with_reducible apply gr_drewN | exact Nat.le_add_right _ _ | exact Nat.le_refl _ | (refine gr_then (by with_reducible assumption) ?_)); obtain ⟨hc, hf⟩ := bcell hB; have hz := hB.size) | (go_at_call 40; refine (in_any _ _ _ _).mono ?_; rintro e w2 ⟨rfl, rfl⟩)); refine bodyPost_ret (v := .tuple #[.agg #[.int .i64 0, .int .i64 0, .int .i64 0, .int .i64 0], .int .i64 1]) (by simp [results, Try.results26, go_sem, *]) rfl ?_; exact ⟨rfl, by repeat' first | exact gr_refl _ | with_reducible assumption | with_reducible apply gr_alloc | with_reducible apply gr_set | with_reducible apply gr_drew | with_reducible apply gr_drewN | exact Nat.le_add_right _ _ | exact Nat.le_refl _ | (refine gr_then (by with_reducible assumption) ?_)⟩
  by_cases hi : inI p 100 1000 = true
  case neg => have hi := (Bool.not_eq_true _).mp hi; have hg : slowOk (okSp a b c d) a b c d p = false := by simp [slowOk, hi]
              rw [slV_n hg, slV_n hg, slV_n hg, slV_n hg, show slowE (okSp a b c d) a b c d p = 2 from (if_pos hok).trans (if_neg (by simp [hi]))]; clear hg; go_enter Try.func26, Try.ntmps26; go_wp2_with (first | (go_at_call 38; refine (l10Ok_any _ _ _ _ _).mono ?_; rintro e w1 ⟨rfl, hb⟩; have hB : Below ((w.alloc (.cells #[.int .i64 a, .int .i64 b, .int .i64 c, .int .i64 d] 25)).alloc (.cells #[.int .i64 0, .int .i64 0, .int .i64 0, .int .i64 0] 25)).heap.size ((w.alloc (.cells #[.int .i64 a, .int .i64 b, .int .i64 c, .int .i64 d] 25)).alloc (.cells #[.int .i64 0, .int .i64 0, .int .i64 0, .int .i64 0] 25)) w1 := gr_then hb (by repeat' first | exact gr_refl _ | with_reducible assumption | with_reducible apply gr_alloc | with_reducible apply gr_set | with_reducible apply gr_drew | with_reducible apply gr_drewN | exact Nat.le_add_right _ _ | exact Nat.le_refl _ | (refine gr_then (by with_reducible assumption) ?_)); obtain ⟨hc, hf⟩ := bcell hB; have hz := hB.size) | (go_at_call 40; refine (in_any _ _ _ _).mono ?_; rintro e w2 ⟨rfl, rfl⟩)); refine bodyPost_ret (v := .tuple #[.agg #[.int .i64 0, .int .i64 0, .int .i64 0, .int .i64 0], .int .i64 2]) (by simp [results, Try.results26, go_sem, *]) rfl ?_; exact ⟨rfl, by repeat' first | exact gr_refl _ | with_reducible assumption | with_reducible apply gr_alloc | with_reducible apply gr_set | with_reducible apply gr_drew | with_reducible apply gr_drewN | exact Nat.le_add_right _ _ | exact Nat.le_refl _ | (refine gr_then (by with_reducible assumption) ?_)⟩
  obtain ⟨b1, b2, b3, b4, b5, b6, b7, b8⟩ := okSp_t hok
  have hi2 := inI_t hi
  have hp1 : 100 ≤ p := hi2.1
  have hp2 : p ≤ 1000 := hi2.2
  have hpn : ¬ p = 0 := by omega
  have hpm : ¬ p = -1 := by omega
  have hpp : 0 < p := by omega
  have ha := slowA_bd b1 b2 hi2.1 hi2.2
  have hd := slowA_bd b7 b8 hi2.1 hi2.2
  have hb := slowB_bd b3 b4 hi2.1
  have hcc := slowB_bd b5 b6 hi2.1
  have wa : IntKind.i64.wrap (a * p) = a * p := IntWalk.i64_in _ (by omega)
  have wd : IntKind.i64.wrap (d * p) = d * p := IntWalk.i64_in _ (by omega)
  have wb : IntKind.i64.wrap (b * 100) = b * 100 := IntWalk.i64_in _ (by omega)
  have wc : IntKind.i64.wrap (c * 100) = c * 100 := IntWalk.i64_in _ (by omega)
  have tb : (b * 100).tdiv p = b * 100 / p := Int.tdiv_eq_ediv_of_nonneg (by omega)
  have tc : (c * 100).tdiv p = c * 100 / p := Int.tdiv_eq_ediv_of_nonneg (by omega)
  have qb : IntKind.i64.wrap (b * 100 / p) = b * 100 / p := IntWalk.i64_in _ (by omega)
  have qc : IntKind.i64.wrap (c * 100 / p) = c * 100 / p := IntWalk.i64_in _ (by omega)
  go_enter Try.func26, Try.ntmps26
  go_wp2_with (first | (go_at_call 38; refine (l10Ok_any _ _ _ _ _).mono ?_; rintro e w1 ⟨rfl, hb⟩; have hB : Below ((w.alloc (.cells #[.int .i64 a, .int .i64 b, .int .i64 c, .int .i64 d] 25)).alloc (.cells #[.int .i64 0, .int .i64 0, .int .i64 0, .int .i64 0] 25)).heap.size ((w.alloc (.cells #[.int .i64 a, .int .i64 b, .int .i64 c, .int .i64 d] 25)).alloc (.cells #[.int .i64 0, .int .i64 0, .int .i64 0, .int .i64 0] 25)) w1 := gr_then hb (by repeat' first | exact gr_refl _ | with_reducible assumption | with_reducible apply gr_alloc | with_reducible apply gr_set | with_reducible apply gr_drew | with_reducible apply gr_drewN | exact Nat.le_add_right _ _ | exact Nat.le_refl _ | (refine gr_then (by with_reducible assumption) ?_)); obtain ⟨hc, hf⟩ := bcell hB; have hz := hB.size) | (go_at_call 40; refine (in_any _ _ _ _).mono ?_; rintro e w2 ⟨rfl, rfl⟩))
  have p0 : w1.cell? ⟨w.heap.size, 0, none⟩ = some (.int .i64 a) := by rw [hc _ _ (by simp; omega)]; simp [go_sem]
  have p1 : w1.cell? ⟨w.heap.size, 1, none⟩ = some (.int .i64 b) := by rw [hc _ _ (by simp; omega)]; simp [go_sem]
  have p2 : w1.cell? ⟨w.heap.size, 2, none⟩ = some (.int .i64 c) := by rw [hc _ _ (by simp; omega)]; simp [go_sem]
  have p3 : w1.cell? ⟨w.heap.size, 3, none⟩ = some (.int .i64 d) := by rw [hc _ _ (by simp; omega)]; simp [go_sem]
  have r0 : w1.cell? ⟨w.heap.size + 1, 0, none⟩ = some (.int .i64 0) := by rw [hc _ _ (by simp)]; simp [go_sem]
  have r1 : w1.cell? ⟨w.heap.size + 1, 1, none⟩ = some (.int .i64 0) := by rw [hc _ _ (by simp)]; simp [go_sem]
  have r2 : w1.cell? ⟨w.heap.size + 1, 2, none⟩ = some (.int .i64 0) := by rw [hc _ _ (by simp)]; simp [go_sem]
  have r3 : w1.cell? ⟨w.heap.size + 1, 3, none⟩ = some (.int .i64 0) := by rw [hc _ _ (by simp)]; simp [go_sem]
  have f0 : w1.frozen? ⟨w.heap.size + 1, 0, none⟩ = false := by rw [hf _ _ (by simp)]; simp [go_sem]
  have f1 : w1.frozen? ⟨w.heap.size + 1, 1, none⟩ = false := by rw [hf _ _ (by simp)]; simp [go_sem]
  have f2 : w1.frozen? ⟨w.heap.size + 1, 2, none⟩ = false := by rw [hf _ _ (by simp)]; simp [go_sem]
  have f3 : w1.frozen? ⟨w.heap.size + 1, 3, none⟩ = false := by rw [hf _ _ (by simp)]; simp [go_sem]
  have hz1 : w.heap.size < w1.heap.size := by simp at hz; omega
  have hz2 : w.heap.size + 1 < w1.heap.size := by simp at hz; omega
  have HB := Lib.hid hB
  clear hc hf hz hB
  go_region_held3 (fun w' => w'.cell? ⟨w.heap.size, 0, none⟩ = some (.int .i64 a) ∧ w'.cell? ⟨w.heap.size, 1, none⟩ = some (.int .i64 b)) (go_keep) (first | (go_at_call 42; refine (up_any _ _ _ (by omega) (by omega) (by omega)).mono ?_; rintro e w2 ⟨rfl, rfl⟩))
  all_goals
    by_cases hk : okSp ((a * p + 100 - 1) / 100) (b * 100 / p) (c * 100 / p) ((d * p + 100 - 1) / 100) = true
    · have hg : slowOk (okSp a b c d) a b c d p = true := (by simp [slowOk, hok, hi, slowA, slowB, hk]); have HG := Lib.hid hg; clear hg
      go_wp2_with (go_at_call 42; refine (up_any _ _ _ (by omega) (by omega) (by omega)).mono ?_; rintro e w2 ⟨rfl, rfl⟩)
      refine (l10Ok_any _ _ _ _ _).mono ?_; rintro e w3 ⟨rfl, hb3⟩
      have hb4 : Below w1.heap.size w1 w3 := gr_then hb3 (by repeat' first | exact gr_refl _ | with_reducible assumption | with_reducible apply gr_alloc | with_reducible apply gr_set | with_reducible apply gr_drew | with_reducible apply gr_drewN | exact Nat.le_add_right _ _ | exact Nat.le_refl _ | (refine gr_then (by with_reducible assumption) ?_))
      have s0 := (hb4.cell (p := ⟨w.heap.size + 1, 0, none⟩) hz2).trans r0
      have s1 := (hb4.cell (p := ⟨w.heap.size + 1, 1, none⟩) hz2).trans r1
      have s2 := (hb4.cell (p := ⟨w.heap.size + 1, 2, none⟩) hz2).trans r2
      have s3 := (hb4.cell (p := ⟨w.heap.size + 1, 3, none⟩) hz2).trans r3
      have t0 := (hb4.frozen (p := ⟨w.heap.size + 1, 0, none⟩) hz2).trans f0
      have t1 := (hb4.frozen (p := ⟨w.heap.size + 1, 1, none⟩) hz2).trans f1
      have t2 := (hb4.frozen (p := ⟨w.heap.size + 1, 2, none⟩) hz2).trans f2
      have t3 := (hb4.frozen (p := ⟨w.heap.size + 1, 3, none⟩) hz2).trans f3
      have o0 : w3.cell? ⟨w1.heap.size, 0, none⟩ = some (.int .i64 ((a * p + 100 - 1) / 100)) := by rw [hb3.cell (p := ⟨w1.heap.size, 0, none⟩) (by simp)]; simp [go_sem]
      have o1 : w3.cell? ⟨w1.heap.size, 1, none⟩ = some (.int .i64 (b * 100 / p)) := by rw [hb3.cell (p := ⟨w1.heap.size, 1, none⟩) (by simp)]; simp [go_sem]
      have o2 : w3.cell? ⟨w1.heap.size, 2, none⟩ = some (.int .i64 (c * 100 / p)) := by rw [hb3.cell (p := ⟨w1.heap.size, 2, none⟩) (by simp)]; simp [go_sem]
      have o3 : w3.cell? ⟨w1.heap.size, 3, none⟩ = some (.int .i64 ((d * p + 100 - 1) / 100)) := by rw [hb3.cell (p := ⟨w1.heap.size, 3, none⟩) (by simp)]; simp [go_sem]
      have HB4 := Lib.hid hb4
      clear hb3 hb4
      go_wp2
      have hg := HG.out
      refine bodyPost_ret (v := .tuple #[.agg #[.int .i64 ((a * p + 100 - 1) / 100), .int .i64 (b * 100 / p), .int .i64 (c * 100 / p), .int .i64 ((d * p + 100 - 1) / 100)], .int .i64 0]) (by simp [results, Try.results26, go_sem, *]) rfl ?_; exact ⟨ret_slow (slV_y hg).symm (slV_y hg).symm (slV_y hg).symm (slV_y hg).symm (((if_pos hok).trans ((if_pos hi).trans (if_pos hk))).symm), by have := HB.out; have := gr_then HB4.out (gr_then this (gr_alloc (gr_alloc (gr_refl w)))); repeat' first | exact gr_refl _ | with_reducible assumption | with_reducible apply gr_alloc | with_reducible apply gr_set | with_reducible apply gr_drew | with_reducible apply gr_drewN | exact Nat.le_add_right _ _ | exact Nat.le_refl _ | (refine gr_then (by with_reducible assumption) ?_)⟩
    · have hk : okSp ((a * p + 100 - 1) / 100) (b * 100 / p) (c * 100 / p) ((d * p + 100 - 1) / 100) = false := (Bool.not_eq_true _).mp hk
      have hg : slowOk (okSp a b c d) a b c d p = false := (by simp [slowOk, slowA, slowB, hk]); have HG := Lib.hid hg; clear hg
      go_wp2_with (go_at_call 42; refine (up_any _ _ _ (by omega) (by omega) (by omega)).mono ?_; rintro e w2 ⟨rfl, rfl⟩)
      refine (l10Ok_any _ _ _ _ _).mono ?_; rintro e w3 ⟨rfl, hb3⟩
      have hb4 : Below w1.heap.size w1 w3 := gr_then hb3 (by repeat' first | exact gr_refl _ | with_reducible assumption | with_reducible apply gr_alloc | with_reducible apply gr_set | with_reducible apply gr_drew | with_reducible apply gr_drewN | exact Nat.le_add_right _ _ | exact Nat.le_refl _ | (refine gr_then (by with_reducible assumption) ?_))
      have s0 := (hb4.cell (p := ⟨w.heap.size + 1, 0, none⟩) hz2).trans r0
      have s1 := (hb4.cell (p := ⟨w.heap.size + 1, 1, none⟩) hz2).trans r1
      have s2 := (hb4.cell (p := ⟨w.heap.size + 1, 2, none⟩) hz2).trans r2
      have s3 := (hb4.cell (p := ⟨w.heap.size + 1, 3, none⟩) hz2).trans r3
      have t0 := (hb4.frozen (p := ⟨w.heap.size + 1, 0, none⟩) hz2).trans f0
      have t1 := (hb4.frozen (p := ⟨w.heap.size + 1, 1, none⟩) hz2).trans f1
      have t2 := (hb4.frozen (p := ⟨w.heap.size + 1, 2, none⟩) hz2).trans f2
      have t3 := (hb4.frozen (p := ⟨w.heap.size + 1, 3, none⟩) hz2).trans f3
      have o0 : w3.cell? ⟨w1.heap.size, 0, none⟩ = some (.int .i64 ((a * p + 100 - 1) / 100)) := by rw [hb3.cell (p := ⟨w1.heap.size, 0, none⟩) (by simp)]; simp [go_sem]
      have o1 : w3.cell? ⟨w1.heap.size, 1, none⟩ = some (.int .i64 (b * 100 / p)) := by rw [hb3.cell (p := ⟨w1.heap.size, 1, none⟩) (by simp)]; simp [go_sem]
      have o2 : w3.cell? ⟨w1.heap.size, 2, none⟩ = some (.int .i64 (c * 100 / p)) := by rw [hb3.cell (p := ⟨w1.heap.size, 2, none⟩) (by simp)]; simp [go_sem]
      have o3 : w3.cell? ⟨w1.heap.size, 3, none⟩ = some (.int .i64 ((d * p + 100 - 1) / 100)) := by rw [hb3.cell (p := ⟨w1.heap.size, 3, none⟩) (by simp)]; simp [go_sem]
      have HB4 := Lib.hid hb4
      clear hb3 hb4
      go_wp2
      have hg := HG.out
      refine bodyPost_ret (v := .tuple #[.agg #[.int .i64 0, .int .i64 0, .int .i64 0, .int .i64 0], .int .i64 5]) (by simp [results, Try.results26, go_sem, *]) rfl ?_; exact ⟨ret_slow (slV_n hg).symm (slV_n hg).symm (slV_n hg).symm (slV_n hg).symm (((if_pos hok).trans ((if_pos hi).trans (if_neg (by simpa [slowA, slowB] using hk)))).symm), by have := HB.out; have := gr_then HB4.out (gr_then this (gr_alloc (gr_alloc (gr_refl w)))); repeat' first | exact gr_refl _ | with_reducible assumption | with_reducible apply gr_alloc | with_reducible apply gr_set | with_reducible apply gr_drew | with_reducible apply gr_drewN | exact Nat.le_add_right _ _ | exact Nat.le_refl _ | (refine gr_then (by with_reducible assumption) ?_)⟩
end Go.Proofs.Ytoglmeiffidcbaa
