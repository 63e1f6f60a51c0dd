/- Contracts of ValidMotion, both sides. -/
import Derived.Test.YtoojnfdphjdocaaDoorMot
namespace Go.Proofs.YtoojnfdphjdocaaDoor
open Go.RowKit
def allTurn (xs : List Int) : Bool := xs.all fun x => inI x (-1) 1
theorem allTurn_bad {xs : List Int} {j : Nat} {x : Int} (hj : xs[j]? = some x) (h : inI x (-1) 1 = false) : allTurn xs = false := by
  unfold allTurn
  rw [List.all_eq_false]
  exact ⟨x, List.mem_iff_getElem?.2 ⟨j, hj⟩, by simp [h]⟩
theorem allTurn_y {xs : List Int} (h : ∀ (j : Nat) x, xs[j]? = some x → inI x (-1) 1 = true) : allTurn xs = true := by
  unfold allTurn
  rw [List.all_eq_true]
  intro x hx
  obtain ⟨j, hj⟩ := List.mem_iff_getElem?.1 hx
  exact h j x hj
def okM (s : Int) (xs : List Int) : Bool := inI s 0 23 && decide (xs.length ≤ 200) && allTurn xs
/-- the index of a number that is no turn; -1 if there is none -/
def IdxTurn (xs : List Int) (w : World) (e : Ending) (w' : World) : Prop := ∃ r : Int, e = .returned (.int .i64 r) ∧ w = w' ∧ allTurn xs = decide (r < 0)
theorem dir_is0 {n : Int} {r : Bool} (h : inI n 0 23 = r) {P : Program} {f : FuncId} {w : World} (c : Calls P f #[.int .i64 n] w fun e w' => e = .returned (.bool (inI n 0 23)) ∧ w = w') : Calls P f #[.int .i64 n] w fun e w' => e = .returned (.bool r) ∧ w = w' := by subst h; exact c
theorem in_is0 {n a b : Int} {r : Bool} (h : inI n a b = r) {P : Program} {f : FuncId} {w : World} (c : Calls P f #[.int .i64 n, .int .i64 a, .int .i64 b] w fun e w' => e = .returned (.bool (inI n a b)) ∧ w = w') : Calls P f #[.int .i64 n, .int .i64 a, .int .i64 b] w fun e w' => e = .returned (.bool r) ∧ w = w' := by subst h; exact c
set_option maxHeartbeats 3000000 in
theorem l16Ok_any (b : Nat) (s : Int) (A : Option Addr) (c : Nat) (xs : List Int) (w : World) (hn : xs.length ≤ 1048576) (c0 : w.cell? ⟨b, 0, none⟩ = some (.int .i64 s)) (c1 : w.cell? ⟨b, 1, none⟩ = some (.slice A xs.length c)) (h : SV (.int .i64) w w.heap.size A xs) : Calls Tryd.prog 15 #[.pointer (some ⟨b, 0, none⟩)] w fun e w' => e = .returned (.bool (okM s xs)) ∧ w = w' := by
  obtain ⟨n, hn'⟩ : ∃ n, xs.length = n := ⟨_, rfl⟩
  have HN := Lib.hid hn'
  have H := Lib.hid h
  clear h
  rw [hn'] at hn c1
  clear hn'
  go_enter Tryd.func15, Tryd.ntmps15
  go_wp2
  go_loop [3] (fun i => ∃ k : Nat, k ≤ n ∧ i = .int .i64 k ∧ Hid (∀ (j : Nat) x, j < k → xs[j]? = some x → inI x (-1) 1 = true)) (fun i => n - (intOf i).toNat)
  case atStart => exact ⟨0, by omega, rfl, fun j x hj => by omega⟩
  case round =>
    obtain ⟨k, hk, rfl, HS⟩ := hrel
    by_cases hlt : k < n
    · obtain ⟨x, hx⟩ := at_of_lt (xs := xs) (k := k) (by rw [HN.out]; exact hlt)
      obtain ⟨b2, off, rfl, hB, hc⟩ := H.out.at_ hx
      have HX := Lib.hid hx
      by_cases hi : inI x (-1) 1 = true
      · have HI := Lib.hid hi
        clear hx
        go_wp2_with (go_at_call 31; (with_reducible refine (in_is0 hi (in_any _ _ _ _)).mono ?_); rintro e w1 ⟨rfl, rfl⟩)
        go_round
        case rel => exact ⟨k + 1, by omega, by go_num, fun j x' hj hb' => by by_cases e : j = k; (subst e; have e2 := HX.out.symm.trans hb'; simp only [Option.some.injEq] at e2; rw [← e2]; exact HI.out); exact HS.out j x' (by omega) hb'⟩
        case measure => simp [intOf]; omega
      · have hi := (Bool.not_eq_true _).mp hi
        have HO := Lib.hid (show okM s xs = false by unfold okM; rw [allTurn_bad hx hi]; simp)
        clear hx
        go_wp2_with (go_at_call 31; (with_reducible refine (in_is0 hi (in_any _ _ _ _)).mono ?_); rintro e w1 ⟨rfl, rfl⟩)
        go_ret
        exact ⟨ret_bool HO.out.symm, rfl⟩
    · obtain rfl : k = n := by omega
      have HA := Lib.hid (allTurn_y (xs := xs) (fun j x hj => HS.out j x (by rw [← HN.out]; exact lt_of_at hj) hj))
      by_cases hd : inI s 0 23 = true
      · by_cases hl : k ≤ 200
        · have HO := Lib.hid (show okM s xs = true by unfold okM; rw [hd, HA.out, HN.out, decide_eq_true hl]; rfl)
          go_wp2_with (go_at_call 32; (with_reducible refine (dir_is0 hd (dir02_any _ _)).mono ?_); rintro e w1 ⟨rfl, rfl⟩)
          go_ret
          exact ⟨ret_bool (by rw [HO.out]; first | rfl | exact decide_eq_true (by omega)), rfl⟩
        · have hl2 := decide_eq_false hl
          have hl3 : decide ((k : Int) ≤ 200) = false := decide_eq_false (by omega)
          have HO := Lib.hid (show okM s xs = false by unfold okM; rw [HN.out, hl2]; simp)
          go_wp2_with (go_at_call 32; (with_reducible refine (dir_is0 hd (dir02_any _ _)).mono ?_); rintro e w1 ⟨rfl, rfl⟩)
          go_ret
          exact ⟨ret_bool HO.out.symm, rfl⟩
      · have hd := (Bool.not_eq_true _).mp hd
        have HO := Lib.hid (show okM s xs = false by unfold okM; rw [hd]; rfl)
        go_wp2_with (go_at_call 32; (with_reducible refine (dir_is0 hd (dir02_any _ _)).mono ?_); rintro e w1 ⟨rfl, rfl⟩)
        go_ret
        exact ⟨ret_bool HO.out.symm, rfl⟩
set_option maxHeartbeats 1000000 in
theorem vm1_is {x : Int} {r : Bool} (h : inI x (-1) 1 = r) (w : World) : Calls Tryd.prog 36 #[.int .i64 x] w fun e w' => e = .returned (.bool (!r)) ∧ w = w' := by
  cases r
  · go_enter Tryd.func36, Tryd.ntmps36; go_wp2_with (first | (go_at_call 45; (with_reducible refine (in_is0 (by assumption) (within_any _ _ _ _)).mono ?_); rintro e w1 ⟨rfl, rfl⟩) | go_in); go_ret; exact ⟨rfl, rfl⟩
  · go_enter Tryd.func36, Tryd.ntmps36; go_wp2_with (first | (go_at_call 45; (with_reducible refine (in_is0 (by assumption) (within_any _ _ _ _)).mono ?_); rintro e w1 ⟨rfl, rfl⟩) | go_in); go_ret; exact ⟨rfl, rfl⟩
set_option maxHeartbeats 3000000 in
theorem idxT_any (A : Option Addr) (c : Nat) (xs : List Int) (w : World) (hn : xs.length ≤ 1048576) (h : SV (.int .i64) w w.heap.size A xs) : Calls Tryd.prog 46 #[.slice A xs.length c, .func (.func 36) #[] #[]] w (IdxTurn xs w) := by
  obtain ⟨n, hn'⟩ : ∃ n, xs.length = n := ⟨_, rfl⟩
  have HN := Lib.hid hn'
  have H := Lib.hid h
  clear h
  rw [hn'] at hn ⊢
  clear hn'
  go_enter Tryd.func46, Tryd.ntmps46
  go_wp2
  go_loop [8] (fun i => ∃ k : Nat, k ≤ n ∧ i = .int .i64 k ∧ Hid (∀ (j : Nat) x, j < k → xs[j]? = some x → inI x (-1) 1 = true)) (fun i => n - (intOf i).toNat)
  case atStart => exact ⟨0, by omega, rfl, fun j x hj => by omega⟩
  case round =>
    obtain ⟨k, hk, rfl, HS⟩ := hrel
    by_cases hlt : k < n
    · obtain ⟨x, hx⟩ := at_of_lt (xs := xs) (k := k) (by rw [HN.out]; exact hlt)
      obtain ⟨b2, off, rfl, hB, hc⟩ := H.out.at_ hx
      have HX := Lib.hid hx
      by_cases hi : inI x (-1) 1 = true
      · have HI := Lib.hid hi
        clear hx
        go_wp2_with (go_at_call 36; (with_reducible refine (vm1_is hi _).mono ?_); rintro e w1 ⟨rfl, rfl⟩)
        go_round
        case rel => exact ⟨k + 1, by omega, by go_num, fun j x' hj hb' => by by_cases e : j = k; (subst e; have e2 := HX.out.symm.trans hb'; simp only [Option.some.injEq] at e2; rw [← e2]; exact HI.out); exact HS.out j x' (by omega) hb'⟩
        case measure => simp [intOf]; omega
      · have hi := (Bool.not_eq_true _).mp hi
        have HO := Lib.hid (allTurn_bad hx hi)
        clear hx
        go_wp2_with (go_at_call 36; (with_reducible refine (vm1_is hi _).mono ?_); rintro e w1 ⟨rfl, rfl⟩)
        go_ret
        exact ⟨k, rfl, rfl, by rw [HO.out]; exact (decide_eq_false (by omega)).symm⟩
    · obtain rfl : k = n := by omega
      have HA := Lib.hid (allTurn_y (xs := xs) (fun j x hj => HS.out j x (by rw [← HN.out]; exact lt_of_at hj) hj))
      go_wp2
      go_ret
      exact ⟨-1, rfl, rfl, by rw [HA.out]; rfl⟩
set_option maxHeartbeats 1000000 in
theorem contT_any (A : Option Addr) (c : Nat) (xs : List Int) (w : World) (hn : xs.length ≤ 1048576) (h : SV (.int .i64) w w.heap.size A xs) : Calls Tryd.prog 35 #[.slice A xs.length c, .func (.func 36) #[] #[]] w fun e w' => e = .returned (.bool (!(allTurn xs))) ∧ w = w' := by
  have H := Lib.hid h
  clear h
  go_enter Tryd.func35, Tryd.ntmps35; go_wp2_with fail
  go_at_call 46
  (with_reducible refine (idxT_any _ _ xs _ hn H.out).mono ?_)
  rintro e w1 ⟨r, rfl, rfl, ha⟩
  have HA := Lib.hid ha
  clear ha
  by_cases hr : r < 0
  · have hd : decide (0 ≤ r) = false := decide_eq_false (by omega)
    go_wp2
    go_ret
    exact ⟨ret_bool (by rw [HA.out, decide_eq_true (show r < 0 by omega)]; rfl), rfl⟩
  · have hp : 0 ≤ r := by omega
    go_wp2
    go_ret
    exact ⟨ret_bool (by rw [HA.out, decide_eq_false (show ¬ r < 0 by omega)]; rfl), rfl⟩
set_option maxHeartbeats 2000000 in
theorem implVm_any (s : Int) (A : Option Addr) (c : Nat) (xs : List Int) (w : World) (hn : xs.length ≤ 1048576) (h : SV (.int .i64) w w.heap.size A xs) : Calls Tryd.prog 18 #[.agg #[.int .i64 s, .slice A xs.length c]] w fun e w' => e = .returned (.bool (okM s xs)) ∧ Below w.heap.size w w' := by
  have hb0 : Below w.heap.size w (w.alloc (.cells #[.int .i64 s, .slice A xs.length c] 27)) := gr_alloc (gr_refl w)
  have H := Lib.hid ((h.below hb0).more hb0.size)
  clear h hb0
  by_cases hd : inI s 0 23 = true
  case neg => have hd := (Bool.not_eq_true _).mp hd; rw [show okM s xs = false by unfold okM; rw [hd]; rfl]; go_enter Tryd.func18, Tryd.ntmps18; go_wp2_with (first | (go_at_call 34; (with_reducible refine (dir_is0 (by assumption) (isDir_any _ _)).mono ?_); rintro e w1 ⟨rfl, rfl⟩) | (go_at_call 35; (with_reducible refine (contT_any _ _ xs _ hn H.out).mono ?_); rintro e w1 ⟨rfl, rfl⟩)); go_returns; exact ⟨rfl, by repeat' first | exact gr_refl _ | with_reducible assumption | with_reducible apply gr_alloc | with_reducible apply gr_set | with_reducible apply gr_drew | with_reducible apply gr_drewN | exact Nat.le_add_right _ _ | exact Nat.le_refl _ | (refine gr_then (by with_reducible assumption) ?_)⟩
  by_cases hl : xs.length ≤ 200
  case neg => have hl2 := decide_eq_false hl; have hl3 : decide ((xs.length : Int) ≤ 200) = false := decide_eq_false (by omega); rw [show okM s xs = false by unfold okM; rw [hl2]; simp]; go_enter Tryd.func18, Tryd.ntmps18; go_wp2_with (first | (go_at_call 34; (with_reducible refine (dir_is0 (by assumption) (isDir_any _ _)).mono ?_); rintro e w1 ⟨rfl, rfl⟩) | (go_at_call 35; (with_reducible refine (contT_any _ _ xs _ hn H.out).mono ?_); rintro e w1 ⟨rfl, rfl⟩)); go_returns; exact ⟨rfl, by repeat' first | exact gr_refl _ | with_reducible assumption | with_reducible apply gr_alloc | with_reducible apply gr_set | with_reducible apply gr_drew | with_reducible apply gr_drewN | exact Nat.le_add_right _ _ | exact Nat.le_refl _ | (refine gr_then (by with_reducible assumption) ?_)⟩
  rw [show okM s xs = allTurn xs by unfold okM; rw [hd, decide_eq_true hl]; rfl]
  go_enter Tryd.func18, Tryd.ntmps18; go_wp2_with (first | (go_at_call 34; (with_reducible refine (dir_is0 (by assumption) (isDir_any _ _)).mono ?_); rintro e w1 ⟨rfl, rfl⟩) | (go_at_call 35; (with_reducible refine (contT_any _ _ xs _ hn H.out).mono ?_); rintro e w1 ⟨rfl, rfl⟩)); go_returns; exact ⟨ret_bool (by simp), by repeat' first | exact gr_refl _ | with_reducible assumption | with_reducible apply gr_alloc | with_reducible apply gr_set | with_reducible apply gr_drew | with_reducible apply gr_drewN | exact Nat.le_add_right _ _ | exact Nat.le_refl _ | (refine gr_then (by with_reducible assumption) ?_)⟩
theorem keepc {W w1 : World} {b o : Nat} {v : Value} (hb : Below W.heap.size W w1) (h : W.cell? ⟨b, o, none⟩ = some v) : w1.cell? ⟨b, o, none⟩ = some v :=
  (hb.cell (p := ⟨b, o, none⟩) (lt_of_cell h)).trans h
theorem SV.later {α : Type} {f : α → Value} {w w' : World} {A : Option Addr} {xs : List α} (h : SV f w w.heap.size A xs) (hb : Below w.heap.size w w') : SV f w' w'.heap.size A xs := (h.below hb).more hb.size
end Go.Proofs.YtoojnfdphjdocaaDoor
