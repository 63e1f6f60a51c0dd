/- Masses, moments, stability and codes of a base, both sides. -/
import Derived.Test.YtmalbgbmapfiiaaStP
import Derived.Test.YtmalbgbmapfiiaaRoot
import Derived.Test.YtmalbgbmapfiiaaGrow
import Derived.BigQuiet
import Derived.StillTailTactics
namespace Go.Proofs.Ytmalbgbmapfiiaa
open Go.RowKit Go.Deep
theorem C7.drewN {w : World} {b n : Nat} {x0 x1 x2 x3 x4 x5 x6 : Int} (h : C7 w b x0 x1 x2 x3 x4 x5 x6) : C7 (w.drewN n) b x0 x1 x2 x3 x4 x5 x6 := h
theorem C7.lt {w : World} {b : Nat} {x0 x1 x2 x3 x4 x5 x6 : Int} (h : C7 w b x0 x1 x2 x3 x4 x5 x6) : b < w.heap.size := by
  rcases Nat.lt_or_ge b w.heap.size with hl | hg
  · exact hl
  · have := h.1; simp [World.cell?, Array.getElem?_eq_none hg] at this
theorem C7.late {w w' : World} {b : Nat} {x0 x1 x2 x3 x4 x5 x6 : Int} (h : C7 w b x0 x1 x2 x3 x4 x5 x6) (hb : Below w.heap.size w w') : C7 w' b x0 x1 x2 x3 x4 x5 x6 := h.below hb h.lt
set_option maxHeartbeats 2000000 in
set_option maxRecDepth 20000 in
theorem tot06_any (b : Nat) (x0 x1 x2 x3 x4 x5 x6 : Int) (ld : Int) (w : World) (h : C7 w b x0 x1 x2 x3 x4 x5 x6) (hok : okB x0 x1 x2 x3 x4 x5 x6 = true) (hl : 0 ≤ ld ∧ ld ≤ 50000) : Calls Try.prog 42 #[.pointer (some ⟨b, 0, none⟩), .int .i64 ld] w fun e w' => e = .returned (.int .i64 (totB x1 x2 x3 x5 ld)) ∧ ∃ q, w' = w.drewN q := by
  have k := okB_t hok
  clear hok
  obtain ⟨c0, c1, c2, c3, c4, c5, c6⟩ := h
  go_enter Try.func42, Try.ntmps42; go_wp2
  go_quiet (fail)
  go_wp2
  go_ret
  exact ⟨rfl, nq, rfl⟩
set_option maxHeartbeats 2000000 in
set_option maxRecDepth 20000 in
theorem total_any (x0 x1 x2 x3 x4 x5 x6 : Int) (ld : Int) (w : World) (hok : okB x0 x1 x2 x3 x4 x5 x6 = true) (hl : 0 ≤ ld ∧ ld ≤ 50000) : Calls Try.prog 37 #[.agg #[.int .i64 x0, .int .i64 x1, .int .i64 x2, .int .i64 x3, .int .i64 x4, .int .i64 x5, .int .i64 x6], .int .i64 ld] w fun e w' => e = .returned (.int .i64 (totB x1 x2 x3 x5 ld)) ∧ Below w.heap.size w w' := by
  have k := okB_t hok
  clear hok
  go_enter Try.func37, Try.ntmps37; go_wp2
  go_returns
  exact ⟨rfl, by repeat' first | exact gr_refl _ | with_reducible assumption | with_reducible apply gr_alloc | with_reducible apply gr_set | with_reducible apply gr_drew | with_reducible apply gr_drewN | exact Nat.le_add_right _ _ | exact Nat.le_refl _ | (refine gr_then (by with_reducible assumption) ?_)⟩
set_option maxHeartbeats 2000000 in
set_option maxRecDepth 20000 in
theorem mom06_any (b : Nat) (x0 x1 x2 x3 x4 x5 x6 : Int) (ld r : Int) (w : World) (h : C7 w b x0 x1 x2 x3 x4 x5 x6) (hok : okB x0 x1 x2 x3 x4 x5 x6 = true) (hl : 0 ≤ ld ∧ ld ≤ 50000) (hr : 0 ≤ r ∧ r ≤ 1000) : Calls Try.prog 44 #[.pointer (some ⟨b, 0, none⟩), .int .i64 ld, .int .i64 r] w fun e w' => e = .returned (.int .i64 (momB x3 x4 x5 x6 ld r)) ∧ ∃ q, w' = w.drewN q := by
  have k := okB_t hok
  obtain ⟨m1, m2, m3, m4⟩ := mom_bd hok hl hr
  have HE := Lib.hid (show ld * r + x3 * x4 - x5 * x6 = momB x3 x4 x5 x6 ld r from rfl)
  have hw1 : IntKind.i64.wrap (ld * r) = ld * r := IntWalk.i64_in _ (by omega)
  have hw2 : IntKind.i64.wrap (x3 * x4) = x3 * x4 := IntWalk.i64_in _ (by omega)
  have hw3 : IntKind.i64.wrap (x5 * x6) = x5 * x6 := IntWalk.i64_in _ (by omega)
  clear hok
  obtain ⟨c0, c1, c2, c3, c4, c5, c6⟩ := h
  go_enter Try.func44, Try.ntmps44; go_wp2
  go_quiet (fail)
  go_wp2
  go_ret
  exact ⟨ret_int HE.out, nq, rfl⟩
set_option maxHeartbeats 2000000 in
set_option maxRecDepth 20000 in
theorem moment_any (x0 x1 x2 x3 x4 x5 x6 : Int) (ld r : Int) (w : World) (hok : okB x0 x1 x2 x3 x4 x5 x6 = true) (hl : 0 ≤ ld ∧ ld ≤ 50000) (hr : 0 ≤ r ∧ r ≤ 1000) : Calls Try.prog 39 #[.agg #[.int .i64 x0, .int .i64 x1, .int .i64 x2, .int .i64 x3, .int .i64 x4, .int .i64 x5, .int .i64 x6], .int .i64 ld, .int .i64 r] w fun e w' => e = .returned (.int .i64 (momB x3 x4 x5 x6 ld r)) ∧ Below w.heap.size w w' := by
  have k := okB_t hok
  obtain ⟨m1, m2, m3, m4⟩ := mom_bd hok hl hr
  have HE := Lib.hid (show ld * r + x3 * x4 - x5 * x6 = momB x3 x4 x5 x6 ld r from rfl)
  have hw1 : IntKind.i64.wrap (ld * r) = ld * r := IntWalk.i64_in _ (by omega)
  have hw2 : IntKind.i64.wrap (x3 * x4) = x3 * x4 := IntWalk.i64_in _ (by omega)
  have hw3 : IntKind.i64.wrap (x5 * x6) = x5 * x6 := IntWalk.i64_in _ (by omega)
  clear hok
  go_enter Try.func39, Try.ntmps39; go_wp2
  go_returns
  exact ⟨ret_int HE.out, by repeat' first | exact gr_refl _ | with_reducible assumption | with_reducible apply gr_alloc | with_reducible apply gr_set | with_reducible apply gr_drew | with_reducible apply gr_drewN | exact Nat.le_add_right _ _ | exact Nat.le_refl _ | (refine gr_then (by with_reducible assumption) ?_)⟩
set_option maxHeartbeats 4000000 in
set_option maxRecDepth 20000 in
theorem st06_any (b : Nat) (x0 x1 x2 x3 x4 x5 x6 : Int) (ld r pc : Int) (w : World) (h : C7 w b x0 x1 x2 x3 x4 x5 x6) (hok : okB x0 x1 x2 x3 x4 x5 x6 = true) (hl : 0 ≤ ld ∧ ld ≤ 50000) (hr : 0 ≤ r ∧ r ≤ 1000) (hp : 100 ≤ pc ∧ pc ≤ 1000) : Calls Try.prog 26 #[.pointer (some ⟨b, 0, none⟩), .int .i64 ld, .int .i64 r, .int .i64 pc] w fun e w' => e = .returned (.bool (stB x0 (totB x1 x2 x3 x5 ld) (momB x3 x4 x5 x6 ld r) pc)) ∧ ∃ q, w' = w.drewN q := by
  obtain ⟨s1, s2, s3, s4, s5⟩ := stab_bd hok hl hr hp
  have t1 := tot_bd hok hl
  have t2 := (mom_bd hok hl hr).2.2.2
  have HOK := Lib.hid hok
  have k0 := (okB_t hok).1
  clear hok
  have HE := Lib.hid (show decide (2 * pc * absI (momB x3 x4 x5 x6 ld r) ≤ 100 * (totB x1 x2 x3 x5 ld) * x0) = stB x0 (totB x1 x2 x3 x5 ld) (momB x3 x4 x5 x6 ld r) pc from rfl)
  have HT : Hid (∀ w' : World, C7 w' b x0 x1 x2 x3 x4 x5 x6 → Calls Try.prog 42 #[.pointer (some ⟨b, 0, none⟩), .int .i64 ld] w' fun e w'' => e = .returned (.int .i64 (totB x1 x2 x3 x5 ld)) ∧ ∃ q, w'' = w'.drewN q) := fun w' h' => tot06_any b x0 x1 x2 x3 x4 x5 x6 ld w' h' HOK.out hl
  have HM : Hid (∀ w' : World, C7 w' b x0 x1 x2 x3 x4 x5 x6 → Calls Try.prog 44 #[.pointer (some ⟨b, 0, none⟩), .int .i64 ld, .int .i64 r] w' fun e w'' => e = .returned (.int .i64 (momB x3 x4 x5 x6 ld r)) ∧ ∃ q, w'' = w'.drewN q) := fun w' h' => mom06_any b x0 x1 x2 x3 x4 x5 x6 ld r w' h' HOK.out hl hr
  generalize totB x1 x2 x3 x5 ld = tt at *
  generalize momB x3 x4 x5 x6 ld r = mo at *
  have hw1 : IntKind.i64.wrap (100 * tt) = 100 * tt := IntWalk.i64_in _ (by omega)
  have hw2 : IntKind.i64.wrap (100 * tt * x0) = 100 * tt * x0 := IntWalk.i64_in _ (by omega)
  have hw3 : IntKind.i64.wrap (2 * pc) = 2 * pc := IntWalk.i64_in _ (by omega)
  have hw4 : IntKind.i64.wrap (2 * pc * absI mo) = 2 * pc * absI mo := IntWalk.i64_in _ (by omega)
  have HC := Lib.hid h
  have c0 := h.1
  clear h
  go_enter Try.func26, Try.ntmps26; go_wp2
  go_quiet (first | (go_at_call 42; exact Calls.quiet_of (HT.out _ HC.out.drewN)) | (go_at_call 44; exact Calls.quiet_of (HM.out _ HC.out.drewN)) | (go_at_call 43; exact quiet_left (size06_any _ _ (by omega))))
  go_wp2
  go_ret
  exact ⟨ret_bool HE.out, nq, rfl⟩
set_option maxHeartbeats 8000000 in
set_option maxRecDepth 20000 in
theorem stable_any (x0 x1 x2 x3 x4 x5 x6 : Int) (ld r pc : Int) (w : World) (hok : okB x0 x1 x2 x3 x4 x5 x6 = true) (hl : 0 ≤ ld ∧ ld ≤ 50000) (hr : 0 ≤ r ∧ r ≤ 1000) (hp : 100 ≤ pc ∧ pc ≤ 1000) : Calls Try.prog 20 #[.agg #[.int .i64 x0, .int .i64 x1, .int .i64 x2, .int .i64 x3, .int .i64 x4, .int .i64 x5, .int .i64 x6], .int .i64 ld, .int .i64 r, .int .i64 pc] w fun e w' => e = .returned (.bool (stB x0 (totB x1 x2 x3 x5 ld) (momB x3 x4 x5 x6 ld r) pc)) ∧ Below w.heap.size w w' := by
  obtain ⟨s1, s2, s3, s4, s5⟩ := stab_bd hok hl hr hp
  have t1 := tot_bd hok hl
  have t2 := (mom_bd hok hl hr).2.2.2
  have HOK := Lib.hid hok
  have k0 := (okB_t hok).1
  clear hok
  have HE := Lib.hid (show decide (2 * pc * absI (momB x3 x4 x5 x6 ld r) ≤ 100 * (totB x1 x2 x3 x5 ld) * x0) = stB x0 (totB x1 x2 x3 x5 ld) (momB x3 x4 x5 x6 ld r) pc from rfl)
  have HT : Hid (∀ w' : World, Calls Try.prog 37 #[.agg #[.int .i64 x0, .int .i64 x1, .int .i64 x2, .int .i64 x3, .int .i64 x4, .int .i64 x5, .int .i64 x6], .int .i64 ld] w' fun e w'' => e = .returned (.int .i64 (totB x1 x2 x3 x5 ld)) ∧ Below w'.heap.size w' w'') := fun w' => total_any x0 x1 x2 x3 x4 x5 x6 ld w' HOK.out hl
  have HM : Hid (∀ w' : World, Calls Try.prog 39 #[.agg #[.int .i64 x0, .int .i64 x1, .int .i64 x2, .int .i64 x3, .int .i64 x4, .int .i64 x5, .int .i64 x6], .int .i64 ld, .int .i64 r] w' fun e w'' => e = .returned (.int .i64 (momB x3 x4 x5 x6 ld r)) ∧ Below w'.heap.size w' w'') := fun w' => moment_any x0 x1 x2 x3 x4 x5 x6 ld r w' HOK.out hl hr
  generalize totB x1 x2 x3 x5 ld = tt at *
  generalize momB x3 x4 x5 x6 ld r = mo at *
  have hw1 : IntKind.i64.wrap (100 * tt) = 100 * tt := IntWalk.i64_in _ (by omega)
  have hw2 : IntKind.i64.wrap (100 * tt * x0) = 100 * tt * x0 := IntWalk.i64_in _ (by omega)
  have hw3 : IntKind.i64.wrap (2 * pc) = 2 * pc := IntWalk.i64_in _ (by omega)
  have hw4 : IntKind.i64.wrap (2 * pc * absI mo) = 2 * pc * absI mo := IntWalk.i64_in _ (by omega)
  obtain ⟨c0, c1, c2, c3, c4, c5, c6⟩ := C7.box w 25 x0 x1 x2 x3 x4 x5 x6
  go_enter Try.func20, Try.ntmps20; go_wp2
  generalize hW : w.alloc (.cells #[.int .i64 x0, .int .i64 x1, .int .i64 x2, .int .i64 x3, .int .i64 x4, .int .i64 x5, .int .i64 x6] 25) = v0 at *
  have HB := Lib.hid (show Below w.heap.size w v0 by rw [← hW]; exact gr_alloc (gr_refl w))
  clear hW
  have gw0 : ∀ X, (grw (v0) X).cell? ⟨w.heap.size, 0, none⟩ = some (.int .i64 x0) := grw_cell (by assumption)
  have gw1 : ∀ X, (grw (v0) X).cell? ⟨w.heap.size, 1, none⟩ = some (.int .i64 x1) := grw_cell (by assumption)
  have gw2 : ∀ X, (grw (v0) X).cell? ⟨w.heap.size, 2, none⟩ = some (.int .i64 x2) := grw_cell (by assumption)
  have gw3 : ∀ X, (grw (v0) X).cell? ⟨w.heap.size, 3, none⟩ = some (.int .i64 x3) := grw_cell (by assumption)
  have gw4 : ∀ X, (grw (v0) X).cell? ⟨w.heap.size, 4, none⟩ = some (.int .i64 x4) := grw_cell (by assumption)
  have gw5 : ∀ X, (grw (v0) X).cell? ⟨w.heap.size, 5, none⟩ = some (.int .i64 x5) := grw_cell (by assumption)
  have gw6 : ∀ X, (grw (v0) X).cell? ⟨w.heap.size, 6, none⟩ = some (.int .i64 x6) := grw_cell (by assumption)
  refine wp_region_grow (by kernel_rfl) (by kernel_rfl) ?_
  repeat (go_big_quiet_step (first | (go_at_call 37; exact grow_of (HT.out _)) | (go_at_call 39; exact grow_of (HM.out _)) | (go_at_call 38; exact grow_same (abs_any _ _ (by omega)))))
  refine wpQuiet_nil ?_
  rintro wq ⟨X, hX⟩
  have hQ_wq : Below (v0).heap.size (v0) wq := by rw [hX]; exact grw_below _ _
  clear hX gw0 gw1 gw2 gw3 gw4 gw5 gw6
  have HQ := Lib.hid (gr_then hQ_wq HB.out)
  clear hQ_wq
  go_wp2
  go_returns
  exact ⟨ret_bool HE.out, HQ.out⟩
theorem perc06_any (n : Int) (w : World) : Calls Try.prog 23 #[.int .i64 n] w fun e w' => e = .returned (.bool (inI n 100 1000)) ∧ w = w' := by
  go_enter Try.func23, Try.ntmps23; go_wp2_with (go_at_call 40; (with_reducible refine (in_any _ _ _ _).mono ?_); rintro e w1 ⟨rfl, rfl⟩)
  go_ret
  exact ⟨rfl, rfl⟩
theorem codeB1 {ld r pc : Int} : codB false ld r pc = 1 := codB_1 ld r pc rfl
theorem in100 : inI 100 100 1000 = true := inI_y (by omega)
set_option maxHeartbeats 2000000 in
set_option maxRecDepth 20000 in
theorem code06_any (b : Nat) (x0 x1 x2 x3 x4 x5 x6 : Int) (ld r : Int) (w : World) (h : C7 w b x0 x1 x2 x3 x4 x5 x6) : Calls Try.prog 47 #[.pointer (some ⟨b, 0, none⟩), .int .i64 ld, .int .i64 r] w fun e w' => e = .returned (.int .i64 (codB (okB x0 x1 x2 x3 x4 x5 x6) ld r 100)) ∧ w = w' := by
  have HC := Lib.hid h
  clear h
  obtain ⟨K, hK⟩ : ∃ K, okB x0 x1 x2 x3 x4 x5 x6 = K := ⟨_, rfl⟩
  rw [hK]
  have HL : Hid (Calls Try.prog 21 #[.pointer (some ⟨b, 0, none⟩)] w fun e w' => e = .returned (.bool K) ∧ w = w') := by have h9 := l06Ok_any b x0 x1 x2 x3 x4 x5 x6 w HC.out; rw [hK] at h9; exact h9
  clear hK
  cases K
  · rw [codeB1]; go_enter Try.func47, Try.ntmps47; go_wp2_with (go_at_call 21; (with_reducible refine (HL.out).mono ?_); rintro e w1 ⟨rfl, rfl⟩); go_ret; exact ⟨rfl, rfl⟩
  obtain ⟨q, h1⟩ : ∃ q, inI ld 0 50000 = q := ⟨_, rfl⟩
  cases q
  · rw [codB_2 rfl (.inl h1)]; go_enter Try.func47, Try.ntmps47; go_wp2_with (first | (go_at_call 21; (with_reducible refine (HL.out).mono ?_); rintro e w1 ⟨rfl, rfl⟩) | (go_at_call 40; (with_reducible refine (in7_is (by assumption) (in_any _ _ _ _)).mono ?_); rintro e w1 ⟨rfl, rfl⟩)); go_ret; exact ⟨rfl, rfl⟩
  obtain ⟨q, h2⟩ : ∃ q, inI r 0 1000 = q := ⟨_, rfl⟩
  cases q
  · rw [codB_2 rfl (.inr (.inl h2))]; go_enter Try.func47, Try.ntmps47; go_wp2_with (first | (go_at_call 21; (with_reducible refine (HL.out).mono ?_); rintro e w1 ⟨rfl, rfl⟩) | (go_at_call 40; (with_reducible refine (in7_is (by assumption) (in_any _ _ _ _)).mono ?_); rintro e w1 ⟨rfl, rfl⟩)); go_ret; exact ⟨rfl, rfl⟩
  rw [codB_0 rfl h1 h2 in100]; go_enter Try.func47, Try.ntmps47; go_wp2_with (first | (go_at_call 21; (with_reducible refine (HL.out).mono ?_); rintro e w1 ⟨rfl, rfl⟩) | (go_at_call 40; (with_reducible refine (in7_is (by assumption) (in_any _ _ _ _)).mono ?_); rintro e w1 ⟨rfl, rfl⟩)); go_ret; exact ⟨rfl, rfl⟩
theorem codB_less {ok : Bool} {ld r pc K : Int} (h : codB ok ld r 100 = K) (h0 : ¬ K = 0) : codB ok ld r pc = K := by
  subst h
  unfold codB at *
  by_cases h1 : ok = true
  · rw [if_pos h1] at h0 ⊢
    rw [if_pos h1]
    by_cases h2 : inI ld 0 50000 = true ∧ inI r 0 1000 = true ∧ inI 100 100 1000 = true
    · rw [if_pos h2] at h0; omega
    · rw [if_neg h2]
      refine if_neg (fun h3 => h2 ⟨h3.1, h3.2.1, in100⟩)
  · rw [if_neg h1, if_neg h1]
set_option maxHeartbeats 2000000 in
set_option maxRecDepth 20000 in
theorem asked06_any (b : Nat) (x0 x1 x2 x3 x4 x5 x6 : Int) (ld r pc : Int) (w : World) (h : C7 w b x0 x1 x2 x3 x4 x5 x6) : Calls Try.prog 28 #[.pointer (some ⟨b, 0, none⟩), .int .i64 ld, .int .i64 r, .int .i64 pc] w fun e w' => e = .returned (.int .i64 (codB (okB x0 x1 x2 x3 x4 x5 x6) ld r pc)) ∧ w = w' := by
  obtain ⟨K, hK⟩ : ∃ K, codB (okB x0 x1 x2 x3 x4 x5 x6) ld r 100 = K := ⟨_, rfl⟩
  have HL : Hid (Calls Try.prog 47 #[.pointer (some ⟨b, 0, none⟩), .int .i64 ld, .int .i64 r] w fun e w' => e = .returned (.int .i64 K) ∧ w = w') := by have h9 := code06_any b x0 x1 x2 x3 x4 x5 x6 ld r w h; rw [hK] at h9; exact h9
  have hb := codB_bd (okB x0 x1 x2 x3 x4 x5 x6) ld r 100
  rw [hK] at hb
  obtain ⟨q, h3⟩ : ∃ q, inI pc 100 1000 = q := ⟨_, rfl⟩
  by_cases h0 : K = 0
  · subst h0
    cases q
    · rw [codB_2 (codB_t hK).1 (.inr (.inr h3))]; clear hK; go_enter Try.func28, Try.ntmps28; go_wp2_with (first | (go_at_call 47; (with_reducible refine (HL.out).mono ?_); rintro e w1 ⟨rfl, rfl⟩) | (go_at_call 23; (with_reducible refine (in7_is (by assumption) (perc06_any _ _)).mono ?_); rintro e w1 ⟨rfl, rfl⟩)); go_ret; exact ⟨rfl, rfl⟩
    · rw [← codB_100 h3, hK]; clear hK; go_enter Try.func28, Try.ntmps28; go_wp2_with (first | (go_at_call 47; (with_reducible refine (HL.out).mono ?_); rintro e w1 ⟨rfl, rfl⟩) | (go_at_call 23; (with_reducible refine (in7_is (by assumption) (perc06_any _ _)).mono ?_); rintro e w1 ⟨rfl, rfl⟩)); go_ret; exact ⟨rfl, rfl⟩
  · have hd : (K == 0) = false := beq_eq_false_iff_ne.2 h0
    rw [codB_less hK h0]; clear hK; go_enter Try.func28, Try.ntmps28; go_wp2_with (go_at_call 47; (with_reducible refine (HL.out).mono ?_); rintro e w1 ⟨rfl, rfl⟩); go_ret; exact ⟨rfl, rfl⟩
set_option maxHeartbeats 4000000 in
set_option maxRecDepth 20000 in
theorem baseCode_any (x0 x1 x2 x3 x4 x5 x6 : Int) (ld r pc : Int) (w : World) : Calls Try.prog 18 #[.agg #[.int .i64 x0, .int .i64 x1, .int .i64 x2, .int .i64 x3, .int .i64 x4, .int .i64 x5, .int .i64 x6], .int .i64 ld, .int .i64 r, .int .i64 pc] w fun e w' => e = .returned (.int .i64 (codB (okB x0 x1 x2 x3 x4 x5 x6) ld r pc)) ∧ Below w.heap.size w w' := by
  obtain ⟨K, hK⟩ : ∃ K, okB x0 x1 x2 x3 x4 x5 x6 = K := ⟨_, rfl⟩
  rw [hK]
  have HL : Hid (∀ w : World, Calls Try.prog 36 #[.agg #[.int .i64 x0, .int .i64 x1, .int .i64 x2, .int .i64 x3, .int .i64 x4, .int .i64 x5, .int .i64 x6]] w fun e w' => e = .returned (.bool K) ∧ Below w.heap.size w w') := by intro w; have h9 := validBase_any x0 x1 x2 x3 x4 x5 x6 w; rw [hK] at h9; exact h9
  clear hK
  cases K
  · rw [codeB1]; go_enter Try.func18, Try.ntmps18; go_wp2_with (go_at_call 36; (with_reducible refine (HL.out _).mono ?_); rintro e w1 ⟨rfl, hb⟩; have HB := Lib.hid (gr_then hb (gr_alloc (gr_refl w))); clear hb); go_returns; exact ⟨rfl, HB.out⟩
  obtain ⟨q, h1⟩ : ∃ q, inI ld 0 50000 = q := ⟨_, rfl⟩
  cases q
  · rw [codB_2 rfl (.inl h1)]; go_enter Try.func18, Try.ntmps18; go_wp2_with (first | (go_at_call 36; (with_reducible refine (HL.out _).mono ?_); rintro e w1 ⟨rfl, hb⟩; have HB := Lib.hid (gr_then hb (gr_alloc (gr_refl w))); clear hb) | (go_at_call 30; (with_reducible refine (in7_is (by assumption) (within_any _ _ _ _)).mono ?_); rintro e w1 ⟨rfl, rfl⟩)); go_returns; exact ⟨rfl, HB.out⟩
  obtain ⟨q, h2⟩ : ∃ q, inI r 0 1000 = q := ⟨_, rfl⟩
  cases q
  · rw [codB_2 rfl (.inr (.inl h2))]; go_enter Try.func18, Try.ntmps18; go_wp2_with (first | (go_at_call 36; (with_reducible refine (HL.out _).mono ?_); rintro e w1 ⟨rfl, hb⟩; have HB := Lib.hid (gr_then hb (gr_alloc (gr_refl w))); clear hb) | (go_at_call 30; (with_reducible refine (in7_is (by assumption) (within_any _ _ _ _)).mono ?_); rintro e w1 ⟨rfl, rfl⟩)); go_returns; exact ⟨rfl, HB.out⟩
  obtain ⟨q, h3⟩ : ∃ q, inI pc 100 1000 = q := ⟨_, rfl⟩
  cases q
  · rw [codB_2 rfl (.inr (.inr h3))]; go_enter Try.func18, Try.ntmps18; go_wp2_with (first | (go_at_call 36; (with_reducible refine (HL.out _).mono ?_); rintro e w1 ⟨rfl, hb⟩; have HB := Lib.hid (gr_then hb (gr_alloc (gr_refl w))); clear hb) | (go_at_call 30; (with_reducible refine (in7_is (by assumption) (within_any _ _ _ _)).mono ?_); rintro e w1 ⟨rfl, rfl⟩)); go_returns; exact ⟨rfl, HB.out⟩
  rw [codB_0 rfl h1 h2 h3]; go_enter Try.func18, Try.ntmps18; go_wp2_with (first | (go_at_call 36; (with_reducible refine (HL.out _).mono ?_); rintro e w1 ⟨rfl, hb⟩; have HB := Lib.hid (gr_then hb (gr_alloc (gr_refl w))); clear hb) | (go_at_call 30; (with_reducible refine (in7_is (by assumption) (within_any _ _ _ _)).mono ?_); rintro e w1 ⟨rfl, rfl⟩)); go_returns; exact ⟨rfl, HB.out⟩
end Go.Proofs.Ytmalbgbmapfiiaa
