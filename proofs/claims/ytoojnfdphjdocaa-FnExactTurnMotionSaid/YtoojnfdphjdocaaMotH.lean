/- TurnMotion, the program: slices.Repeat. -/
import Derived.Test.YtoojnfdphjdocaaMotG
import Derived.Test.YtoojnfdphjdocaaShelf
import Derived.Deep.RegionHeld3
namespace Go.Proofs.Ytoojnfdphjdocaa
open Go.RowKit
theorem u64w (n : Nat) (h : n ≤ 200) : IntKind.u64.wrap (n : Int) = n := by
  unfold IntKind.wrap
  simp only [IntKind.signed, IntKind.bits]
  simp
  omega
theorem infoIntSz : (Try.prog.info? 2).map (·.size) = some 1 := by kernel_rfl
theorem splice_map {α β : Type} (f : α → β) (L cs : List α) (k : Nat) : splice (L.map f) k (cs.map f) = (splice L k cs).map f := by simp [splice, List.map_take, List.map_drop]
theorem splice_rep (u : Int) (j m n : Nat) (h : j + m ≤ n) : splice (List.replicate j u ++ List.replicate (n - j) 0) j (List.replicate m u) = List.replicate (j + m) u ++ List.replicate (n - (j + m)) 0 := by
  unfold splice
  rw [List.take_left' (by simp), List.length_replicate, List.drop_append, List.length_replicate]
  rw [List.drop_eq_nil_of_le (by simp), List.nil_append, List.drop_replicate, ← List.append_assoc, List.replicate_append_replicate]
  congr 2
  omega
set_option maxHeartbeats 2000000 in
set_option maxRecDepth 20000 in
theorem cmp0_any (b : Int) (w : World) : Calls Try.prog 86 #[.int .i64 b, .int .i64 0] w fun e w' => e = .returned (.int .i64 (sgn b)) ∧ w = w' := by
  by_cases h0 : b < 0
  · rw [show sgn b = -1 from if_pos h0]; go_enter Try.func86, Try.ntmps86; go_wp2_with go_in; go_ret; exact ⟨rfl, rfl⟩
  by_cases h1 : 0 < b
  · rw [show sgn b = 1 by unfold sgn; rw [if_neg h0, if_neg (by omega)]]; go_enter Try.func86, Try.ntmps86; go_wp2_with go_in; go_ret; exact ⟨rfl, rfl⟩
  obtain rfl : b = 0 := by omega
  go_enter Try.func86, Try.ntmps86; go_wp2_with go_in; go_ret; exact ⟨rfl, rfl⟩
set_option maxHeartbeats 2000000 in
set_option maxRecDepth 20000 in
theorem sign_any (b : Int) (w : World) : Calls Try.prog 61 #[.int .i64 b] w fun e w' => e = .returned (.int .i64 (sgn b)) ∧ w = w' := by
  go_enter Try.func61, Try.ntmps61; go_wp2_with (go_at_call 86; (with_reducible refine (cmp0_any _ _).mono ?_); rintro e w1 ⟨rfl, rfl⟩); go_ret; exact ⟨rfl, rfl⟩
set_option maxHeartbeats 2000000 in
set_option maxRecDepth 20000 in
theorem mul1_any (n : Nat) (h : n ≤ 200) (w : World) : Calls Try.prog 85 #[.int .u64 1, .int .u64 (n : Int)] w fun e w' => e = .returned (.tuple #[.int .u64 0, .int .u64 (n : Int)]) ∧ w = w' := by
  have h0 := bits_Mul 1 n (by omega) (by omega) w
  refine h0.mono ?_
  rintro e w' ⟨rfl, rfl⟩
  rw [show 1 * n / 18446744073709551616 = 0 by omega, show 1 * n % 18446744073709551616 = n by omega]
  exact ⟨rfl, rfl⟩
set_option maxHeartbeats 2000000 in
set_option maxRecDepth 20000 in
theorem repeat_any (b c n : Nat) (u : Int) (w : World) (hn : n ≤ 200) (hc : w.cell? ⟨b, 0, none⟩ = some (.int .i64 u)) : Calls Try.prog 60 #[.slice (some ⟨b, 0, none⟩) 1 c, .int .i64 (n : Int)] w fun e w' => e = .returned (.slice (some ⟨w.heap.size, 0, none⟩) n n) ∧ BV (.int .i64) w' w.heap.size 2 (List.replicate n u) ∧ Below w.heap.size w w' := by
  have hmk := madeInt n (by omega)
  have hu : IntKind.u64.wrap (n : Int) = n := by exact u64w n (by omega)
  have hi : IntKind.i64.wrap (n : Int) = n := IntWalk.i64_in _ (by omega)
  have hbig : decide ((9223372036854775807 : Int) < (n : Int)) = false := decide_eq_false (by omega)
  have hBV := Lib.hid (BV.made (f := Value.int .i64) w 2 n 0)
  have HC := Lib.hid hc
  clear hc
  obtain ⟨m, hm⟩ : ∃ m, Nat.min 1 n = m := ⟨_, rfl⟩
  have HM := Lib.hid hm
  have hm1 : m ≤ 1 := hm ▸ Nat.min_le_left 1 n
  have hm2 : m ≤ n := hm ▸ Nat.min_le_right 1 n
  have hm3 : 0 < n → 0 < m := fun h => by have h2 : Nat.min 1 n = 1 := Nat.min_eq_left h; omega
  clear hm
  go_enter Try.func60, Try.ntmps60; go_wp2_with (first | (go_at_call 85; (with_reducible refine (mul1_any _ hn _).mono ?_); rintro e w1 ⟨rfl, rfl⟩) | (refine wpList_copy_splice (by rfl) (.tmp 31) (.tmp 32) 22 22 (by rfl) 2 Try.underlying22 infoIntSz (some ⟨w.heap.size, 0, none⟩) (some ⟨b, 0, none⟩) (n) (n) (1) (c) (by rfl) (by rfl) w.heap.size (0) ((List.replicate n (0 : Int)).map (Value.int .i64)) 2 hBV.out (List.replicate (m) (.int .i64 u)) (by rw [List.length_replicate]; exact HM.out.symm) (by intro hp; exact ⟨rfl, _, rfl, by intro j v hj; have h0 : j < m := (by have := (List.getElem?_eq_some_iff.1 hj).1; simpa using this); obtain rfl : j = 0 := (by omega); rw [List.getElem?_replicate, if_pos h0] at hj; cases hj; exact keepc (gr_alloc (gr_refl w)) HC.out⟩) (by simp only [List.length_replicate, List.length_map]; omega) (by intro v hv; rw [List.eq_of_mem_replicate hv]; rfl) w.heap.size w (gr_alloc (gr_refl w)) (Nat.le_refl _) ?_; intro w1 hid hbe; have HI := hid; have HB := Lib.hid hbe; clear hid hbe))
  go_loopw [8] (fun k wr => ∃ j : Nat, j ≤ n ∧ k = .int .i64 j ∧ (0 < n → 0 < j) ∧ BV (.int .i64) wr w.heap.size 2 (List.replicate j u ++ List.replicate (n - j) 0) ∧ Below w.heap.size w wr) (fun k _ => n - (intOf k).toNat)
  case atStart =>
    refine ⟨m, hm2, by simp, hm3, ?_, HB.out⟩
    have h := splice_rep u 0 m n (by omega)
    simp only [List.replicate_zero, List.nil_append, Nat.sub_zero, Nat.zero_add] at h
    rw [← h]
    have h2 := HI.out
    rw [show (List.replicate m (Value.int .i64 u)) = (List.replicate m u).map (Value.int .i64) by simp, splice_map] at h2
    exact h2
  case round =>
    obtain ⟨j, hj, rfl, hpos, hbv, hbe⟩ := hrel
    have HV := Lib.hid hbv
    have HB2 := Lib.hid hbe
    clear hbv hbe
    by_cases hlt : j < n
    · obtain ⟨q, hq⟩ : ∃ q, Nat.min j (n - j) = q := ⟨_, rfl⟩
      have HQ := Lib.hid (show q = Nat.min j (n - j) from hq.symm)
      have hq1 : q ≤ n - j := hq ▸ Nat.min_le_right j (n - j)
      have hq2 : q ≤ j := hq ▸ Nat.min_le_left j (n - j)
      have hq3 : 0 < q := by have := hpos (by omega); rw [← hq]; exact Nat.lt_min.2 ⟨this, by omega⟩
      clear hq hpos
      have i0 : (0 : Int) ≤ (j : Int) := by omega
      have i1 : (j : Int) ≤ (n : Int) := by omega
      have i2 : (j : Int) < (n : Int) := by omega
      have i3 : IntKind.i64.wrap ((j : Int) + (q : Int)) = (j : Int) + (q : Int) := IntWalk.i64_in _ (by omega)
      have i4 : ¬ n = j := by omega
      go_wp2
      go_region_held3 (fun _ => True) (trivial) ((refine step_copy_splice (by rfl) (.tmp 41) (.tmp 44) 22 22 (by rfl) 2 Try.underlying22 infoIntSz (some ⟨w.heap.size, j, none⟩) (some ⟨w.heap.size, 0, none⟩) (n - j) (n - j) (j) (n) (by rfl) (by rfl) w.heap.size (j) ((List.replicate j u ++ List.replicate (n - j) (0 : Int)).map (Value.int .i64)) 2 HV.out (List.replicate (q) (.int .i64 u)) (by rw [List.length_replicate]; exact HQ.out) (by intro hp; exact ⟨rfl, _, rfl, by intro i v hv; have h0 : i < q := (by have := (List.getElem?_eq_some_iff.1 hv).1; simpa using this); rw [List.getElem?_replicate, if_pos h0] at hv; cases hv; have hadd : (⟨w.heap.size, 0, none⟩ : Addr).add i = ⟨w.heap.size, i, none⟩ := (by unfold Addr.add; split <;> simp_all); rw [hadd]; exact (BV.cell HV.out (by rw [List.getElem?_append_left (by simp; omega), List.getElem?_replicate, if_pos (by omega)]))⟩) (by simp only [List.length_replicate, List.length_map, List.length_append]; omega) (by intro v hv; rw [List.eq_of_mem_replicate hv]; rfl) w.heap.size w (gr_drew HB2.out) (Nat.le_refl _) ?_; intro w2 hid hbe; have HI2 := hid; have HB3 := Lib.hid hbe; clear hid hbe))
      go_roundw
      case rel => (repeat apply Exists.intro); exact ⟨⟨j + q, by omega, by go_num, by omega, by have h2 := HI2.out; rw [show (List.replicate q (Value.int .i64 u)) = (List.replicate q u).map (Value.int .i64) by simp, splice_map, splice_rep u j q n (by omega)] at h2; exact h2, HB3.out⟩, rfl⟩
      case measure => simp [intOf]; omega
    · obtain rfl : j = n := by omega
      go_wp2
      go_ret
      exact ⟨rfl, by have h := HV.out; rw [Nat.sub_self, List.replicate_zero, List.append_nil] at h; exact h, HB2.out⟩
set_option maxHeartbeats 4000000 in
set_option maxRecDepth 20000 in
theorem implTu_any (a b : Int) (w : World) (_ : -9223372036854775808 ≤ a ∧ a ≤ 9223372036854775807) (_ : -9223372036854775808 ≤ b ∧ b ≤ 9223372036854775807) : Calls Try.prog 23 #[.int .i64 a, .int .i64 b] w (RetM (tuS a b) (tuX a b) (tuC a b) 2 w) := by
  by_cases h1 : inI a 0 23 = true
  case neg =>
    have h1 := (Bool.not_eq_true _).mp h1
    rw [show tuS a b = 0 by simp [tuS, tuOk, h1], show tuX a b = [] by simp [tuX, tuOk, h1], show tuC a b = 2 by simp [tuC, tuOk, h1]]
    go_enter Try.func23, Try.ntmps23; go_wp2_with (first | (go_at_call 50; (with_reducible refine (dir_is0 (by assumption) (isDir_any _ _)).mono ?_); rintro e w1 ⟨rfl, rfl⟩) | (go_at_call 59; (with_reducible refine (in_is0 (by assumption) (within_any _ _ _ _)).mono ?_); rintro e w1 ⟨rfl, rfl⟩))
    refine bodyPost_ret (v := .tuple #[.agg #[.int .i64 0, .slice none 0 0], .int .i64 2]) (by simp [results, Try.results23, go_sem]) rfl ⟨none, 0, rfl, RS.nil, by repeat' first | exact gr_refl _ | with_reducible assumption | with_reducible apply gr_alloc | with_reducible apply gr_set | with_reducible apply gr_drew | with_reducible apply gr_drewN | exact Nat.le_add_right _ _ | exact Nat.le_refl _ | (refine gr_then (by with_reducible assumption) ?_)⟩
  by_cases h2 : inI b (-200) 200 = true
  case neg =>
    have h2 := (Bool.not_eq_true _).mp h2
    rw [show tuS a b = 0 by simp [tuS, tuOk, h2], show tuX a b = [] by simp [tuX, tuOk, h2], show tuC a b = 2 by simp [tuC, tuOk, h2]]
    go_enter Try.func23, Try.ntmps23; go_wp2_with (first | (go_at_call 50; (with_reducible refine (dir_is0 (by assumption) (isDir_any _ _)).mono ?_); rintro e w1 ⟨rfl, rfl⟩) | (go_at_call 59; (with_reducible refine (in_is0 (by assumption) (within_any _ _ _ _)).mono ?_); rintro e w1 ⟨rfl, rfl⟩))
    refine bodyPost_ret (v := .tuple #[.agg #[.int .i64 0, .slice none 0 0], .int .i64 2]) (by simp [results, Try.results23, go_sem]) rfl ⟨none, 0, rfl, RS.nil, by repeat' first | exact gr_refl _ | with_reducible assumption | with_reducible apply gr_alloc | with_reducible apply gr_set | with_reducible apply gr_drew | with_reducible apply gr_drewN | exact Nat.le_add_right _ _ | exact Nat.le_refl _ | (refine gr_then (by with_reducible assumption) ?_)⟩
  have hb := inI_t h2
  rw [show tuS a b = a by simp [tuS, tuOk, h1, h2], show tuC a b = 0 by simp [tuC, tuOk, h1, h2]]
  have hx : tuX a b = List.replicate b.natAbs (sgn b) := by unfold tuX tuOk; rw [h1, h2]; rfl
  rw [hx]
  clear hx
  obtain ⟨n, hn0⟩ : ∃ n : Nat, b.natAbs = n := ⟨_, rfl⟩
  rw [hn0]
  have hn : n ≤ 200 := by omega
  have HA : Hid (∀ w : World, Calls Try.prog 62 #[.int .i64 b] w fun e w' => e = .returned (.int .i64 (n : Int)) ∧ w = w') := fun w => by have h := abs_any b w (by constructor <;> omega); rw [show absI b = (n : Int) by unfold absI; split <;> omega] at h; exact h
  clear hn0
  go_enter Try.func23, Try.ntmps23; go_wp2_with (first | (go_at_call 50; (with_reducible refine (dir_is0 (by assumption) (isDir_any _ _)).mono ?_); rintro e w1 ⟨rfl, rfl⟩) | (go_at_call 59; (with_reducible refine (in_is0 (by assumption) (within_any _ _ _ _)).mono ?_); rintro e w1 ⟨rfl, rfl⟩) | (go_at_call 61; (with_reducible refine (sign_any _ _).mono ?_); rintro e w1 ⟨rfl, rfl⟩) | (go_at_call 62; (with_reducible refine (HA.out _).mono ?_); rintro e w1 ⟨rfl, rfl⟩) | (go_at_call 60; (with_reducible refine (repeat_any (w.heap.size + 1) 1 n (sgn b) _ hn (by simp [go_sem])).mono ?_); rintro e w2 ⟨rfl, hbv, hbe⟩; have hbx := ((Box2.new w 27 (.int .i64 0) (.slice none 0 0)).late (gr_alloc (gr_refl _))).late hbe; have q0 := hbx.c0; have q1 := hbx.c1; have q2 := hbx.f0 0; have q3 := hbx.f0 1; have hz := hbe.size; simp only [World.size_alloc] at hbv hz; have HV := Lib.hid hbv; have HB := Lib.hid (gr_then hbe (gr_alloc (gr_alloc (gr_refl w)))); clear hbx hbv hbe))
  refine bodyPost_ret (v := .tuple #[.agg #[.int .i64 a, .slice (some ⟨w.heap.size + 1 + 1, 0, none⟩) n n], .int .i64 0]) (by simp [results, Try.results23, go_sem, *]) rfl ⟨some ⟨w.heap.size + 1 + 1, 0, none⟩, n, by rw [List.length_replicate], ?_, (HB.out.setCell (by simp) _).setCell (by simp) _⟩
  have hl := HV.out.lt
  have h := RS.of_bv (lo := w.heap.size) (hi := w2.heap.size) HV.out (by omega) hl (by rw [List.length_replicate]; unfold maxLen; omega)
  rw [List.length_replicate] at h
  exact ((h.far (p := ⟨w.heap.size, 0, none⟩) (by intro g' hg' he'; simp at hg' he'; omega) _).far (p := ⟨w.heap.size, 1, none⟩) (by intro g' hg' he'; simp at hg' he'; omega) _).wide (Nat.le_refl _) (by simp)
end Go.Proofs.Ytoojnfdphjdocaa
