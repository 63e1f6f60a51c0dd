/- StepAllowed, both sides. -/
import Derived.Test.YtmgbbkglafnibaaCell
import Derived.Test.YtmgbbkglafnibaaMarkB
import Derived.Test.YtmgbbkglafnibaaInts
import Derived.Test.YtmgbbkglafnibaaTurns
namespace Go.Proofs.Ytmgbbkglafnibaa
open Go.RowKit
def nearB (a c : Nat) : Bool := inI (turnI a c) (-1) 1
def stpB (T : List (List Bool)) (a b c d : Nat) : Bool :=
  nearB a c && (nearB b d && (!(decide (a = c) && decide (b = d)) && (!cellT T a b && (!cellT T c d && (decide (a = c) || (decide (b = d) || (!cellT T a d && !cellT T c b)))))))
def stepI (T : List (List Bool)) (a b c d : Nat) : Bool :=
  nearB a c && (nearB b d && (!(decide (a = c) && decide (b = d)) && (!cellT T a b && !clB T a b c d)))
theorem step_eq (T : List (List Bool)) (a b c d : Nat) : stepI T a b c d = stpB T a b c d := by
  unfold stepI stpB clB
  by_cases e1 : a = c
  · subst e1
    cases nearB a a <;> cases nearB b d <;> cases cellT T a b <;> cases cellT T a d <;> simp
  · by_cases e2 : b = d
    · subst e2
      cases nearB a c <;> cases nearB b b <;> cases cellT T a b <;> cases cellT T c b <;> simp [e1]
    · cases nearB a c <;> cases nearB b d <;> cases cellT T a b <;> cases cellT T a d <;> cases cellT T c b <;> cases cellT T c d <;> simp [e1, e2]
theorem turnI_zero {a c : Nat} (ha : a ≤ 23) (hc : c ≤ 23) : (turnI a c == 0) = decide (a = c) := by
  rw [Bool.eq_iff_iff, beq_iff_eq, decide_eq_true_iff]
  unfold turnI
  split <;> omega
def stOk (xs : List Int) : Bool := decide (xs.length = 2) && (inI (xs.getD 0 0) 0 23 && inI (xs.getD 1 0) 0 23)
theorem dir_is0 {n : Int} {r : Bool} (h : inI n 0 23 = r) {P : Program} {f : FuncId} {w : World} (c : Calls P f #[.int .i64 n] w fun e w' => e = .returned (.bool (inI n 0 23)) ∧ w = w') : Calls P f #[.int .i64 n] w fun e w' => e = .returned (.bool r) ∧ w = w' := by subst h; exact c
/-- two directions in a slice -/
theorem stOk_t {w : World} {B : Nat} {A : Option Addr} {xs : List Int} (hs : stOk xs = true) (h : SV (.int .i64) w B A xs) : ∃ (a b p o : Nat), a ≤ 23 ∧ b ≤ 23 ∧ xs = [(a : Int), (b : Int)] ∧ A = some ⟨p, o, none⟩ ∧ p < B ∧ w.cell? ⟨p, o, none⟩ = some (.int .i64 a) ∧ w.cell? ⟨p, o + 1, none⟩ = some (.int .i64 b) := by
  unfold stOk at hs
  simp only [Bool.and_eq_true, decide_eq_true_eq] at hs
  obtain ⟨hl, h0, h1⟩ := hs
  match xs, hl with
  | [x, y], _ =>
    have h0 := inI_t h0
    have h1 := inI_t h1
    simp at h0 h1
    obtain ⟨p, o, e, hB, hc⟩ := h (by simp)
    refine ⟨x.toNat, y.toNat, p, o, by omega, by omega, by rw [Int.toNat_of_nonneg h0.1, Int.toNat_of_nonneg h1.1], e, hB, ?_, ?_⟩
    · rw [Int.toNat_of_nonneg h0.1]; exact hc 0 x rfl
    · rw [Int.toNat_of_nonneg h1.1]; exact hc 1 y rfl
set_option maxHeartbeats 4000000 in
set_option maxRecDepth 20000 in
theorem specSt_any (A : Option Addr) (c : Nat) (xs : List Int) (w : World) (hn : xs.length ≤ 1048576) (h : SV (.int .i64) w w.heap.size A xs) {r : Bool} (hr : stOk xs = r) : Calls Try.prog 52 #[.slice A xs.length c] w fun e w' => e = .returned (.bool r) ∧ w = w' := by
  subst hr
  by_cases hl : xs.length = 2
  case neg =>
    have hb : ((xs.length : Int) == 2) = false := by rw [beq_eq_false_iff_ne]; omega
    rw [show stOk xs = false by simp [stOk, hl]]
    clear hl
    go_enter Try.func52, Try.ntmps52; go_wp2; go_ret; exact ⟨rfl, rfl⟩
  match xs, hl with
  | [x, y], _ =>
    obtain ⟨p, o, rfl, hB, hc⟩ := h (by simp)
    have c0 : w.cell? ⟨p, o, none⟩ = some (.int .i64 x) := hc 0 x rfl
    have c1 := hc 1 y rfl
    clear hc h hn
    rw [show stOk [x, y] = (inI x 0 23 && inI y 0 23) by simp [stOk]]
    show Calls Try.prog 52 #[.slice (some ⟨p, o, none⟩) 2 c] w _
    cases k0 : inI x 0 23
    · have D0 := Lib.hid k0
      clear k0
      go_enter Try.func52, Try.ntmps52; go_wp2_with (go_at_call 49; (with_reducible refine (dir_is0 D0.out (dir02_any _ _)).mono ?_); rintro e w1 ⟨rfl, rfl⟩); go_ret; exact ⟨rfl, rfl⟩
    have D0 := Lib.hid k0
    clear k0
    cases k1 : inI y 0 23
    · have D1 := Lib.hid k1
      clear k1
      go_enter Try.func52, Try.ntmps52; go_wp2_with (first | (go_at_call 49; (with_reducible refine (dir_is0 D0.out (dir02_any _ _)).mono ?_); rintro e w1 ⟨rfl, rfl⟩) | (go_at_call 49; (with_reducible refine (dir_is0 D1.out (dir02_any _ _)).mono ?_); rintro e w1 ⟨rfl, rfl⟩)); go_ret; exact ⟨rfl, rfl⟩
    · have D1 := Lib.hid k1
      clear k1
      go_enter Try.func52, Try.ntmps52; go_wp2_with (first | (go_at_call 49; (with_reducible refine (dir_is0 D0.out (dir02_any _ _)).mono ?_); rintro e w1 ⟨rfl, rfl⟩) | (go_at_call 49; (with_reducible refine (dir_is0 D1.out (dir02_any _ _)).mono ?_); rintro e w1 ⟨rfl, rfl⟩)); go_ret; exact ⟨rfl, rfl⟩
set_option maxHeartbeats 4000000 in
set_option maxRecDepth 20000 in
theorem implSt_any (A : Option Addr) (c : Nat) (xs : List Int) (w : World) (hn : xs.length ≤ 1048576) (h : SV (.int .i64) w w.heap.size A xs) {r : Bool} (hr : stOk xs = r) : Calls Try.prog 54 #[.slice A xs.length c] w fun e w' => e = .returned (.bool r) ∧ w = w' := by
  subst hr
  by_cases hl : xs.length = 2
  case neg =>
    have hb : ((xs.length : Int) == 2) = false := by rw [beq_eq_false_iff_ne]; omega
    rw [show stOk xs = false by simp [stOk, hl]]
    clear hl
    go_enter Try.func54, Try.ntmps54; go_wp2; go_ret; exact ⟨rfl, rfl⟩
  match xs, hl with
  | [x, y], _ =>
    obtain ⟨p, o, rfl, hB, hc⟩ := h (by simp)
    have c0 : w.cell? ⟨p, o, none⟩ = some (.int .i64 x) := hc 0 x rfl
    have c1 := hc 1 y rfl
    clear hc h hn
    rw [show stOk [x, y] = (inI x 0 23 && inI y 0 23) by simp [stOk]]
    show Calls Try.prog 54 #[.slice (some ⟨p, o, none⟩) 2 c] w _
    cases k0 : inI x 0 23
    · have D0 := Lib.hid k0
      clear k0
      go_enter Try.func54, Try.ntmps54; go_wp2_with (go_at_call 50; (with_reducible refine (dir_is0 D0.out (isDir_any _ _)).mono ?_); rintro e w1 ⟨rfl, rfl⟩); go_ret; exact ⟨rfl, rfl⟩
    have D0 := Lib.hid k0
    clear k0
    cases k1 : inI y 0 23
    · have D1 := Lib.hid k1
      clear k1
      go_enter Try.func54, Try.ntmps54; go_wp2_with (first | (go_at_call 50; (with_reducible refine (dir_is0 D0.out (isDir_any _ _)).mono ?_); rintro e w1 ⟨rfl, rfl⟩) | (go_at_call 50; (with_reducible refine (dir_is0 D1.out (isDir_any _ _)).mono ?_); rintro e w1 ⟨rfl, rfl⟩)); go_ret; exact ⟨rfl, rfl⟩
    · have D1 := Lib.hid k1
      clear k1
      go_enter Try.func54, Try.ntmps54; go_wp2_with (first | (go_at_call 50; (with_reducible refine (dir_is0 D0.out (isDir_any _ _)).mono ?_); rintro e w1 ⟨rfl, rfl⟩) | (go_at_call 50; (with_reducible refine (dir_is0 D1.out (isDir_any _ _)).mono ?_); rintro e w1 ⟨rfl, rfl⟩)); go_ret; exact ⟨rfl, rfl⟩
set_option maxHeartbeats 4000000 in
set_option maxRecDepth 20000 in
theorem near_any (a c : Nat) (w : World) (ha : a ≤ 23) (hc : c ≤ 23) : Calls Try.prog 65 #[.int .i64 (a : Int), .int .i64 (c : Int)] w fun e w' => e = .returned (.bool (nearB a c)) ∧ w = w' := by
  have hb := turnI_bd a c
  go_enter Try.func65, Try.ntmps65; go_wp2_with (first | (go_at_call 76; (with_reducible refine (turn02_any _ _ _ (by omega) (by omega)).mono ?_); rintro e w1 ⟨rfl, rfl⟩) | (go_at_call 75; (with_reducible refine (size_any _ _ (by omega)).mono ?_); rintro e w1 ⟨rfl, rfl⟩)); go_ret
  refine ⟨ret_bool ?_, rfl⟩
  show decide (absI (turnI a c) ≤ 1) = nearB a c
  unfold nearB inI absI
  rw [Bool.eq_iff_iff, decide_eq_true_iff, decide_eq_true_iff]
  split <;> omega
set_option maxHeartbeats 4000000 in
set_option maxRecDepth 20000 in
theorem isTurn_any (n : Int) (w : World) {r : Bool} (hr : inI n (-1) 1 = r) : Calls Try.prog 67 #[.int .i64 n] w fun e w' => e = .returned (.bool r) ∧ w = w' := by
  subst hr
  go_enter Try.func67, Try.ntmps67; go_wp2_with (go_at_call 63; (with_reducible refine (within_any _ _ _ _).mono ?_); rintro e w1 ⟨rfl, rfl⟩); go_ret; exact ⟨rfl, rfl⟩
set_option maxHeartbeats 8000000 in
set_option maxRecDepth 20000 in
theorem step_any (A : Option Addr) (e0 : Nat) (T : List (List Bool)) (w : World) (hok : okT T = true) (h : TB .bool w w.heap.size A T) (a b c d : Nat) (ha : a ≤ 23) (hb : b ≤ 23) (hc : c ≤ 23) (hd : d ≤ 23) : Calls Try.prog 53 #[.slice A T.length e0, .int .i64 (a : Int), .int .i64 (b : Int), .int .i64 (c : Int), .int .i64 (d : Int)] w fun e w' => e = .returned (.bool (stpB T a b c d)) ∧ w = w' := by
  obtain ⟨p0, o0, q0, u0, v0, ea0, c0, g0⟩ := trow h hok (a := a) (by omega)
  subst ea0
  obtain ⟨p1, o1, q1, u1, v1, ea1, c1, g1⟩ := trow h hok (a := c) (by omega)
  simp only [Option.some.injEq, Addr.mk.injEq, and_true] at ea1
  obtain ⟨rfl, rfl⟩ := ea1
  have d0 := g0 b (by omega)
  have d1 := g1 d (by omega)
  have d2 := g0 d (by omega)
  have d3 := g1 b (by omega)
  clear g0 g1
  have hT := (okT_t hok).1
  rw [hT]
  clear h hok hT
  have ia0 : (0 : Int) ≤ (a : Int) := by omega
  have ia1 : (a : Int) < 24 := by omega
  have ib0 : (0 : Int) ≤ (b : Int) := by omega
  have ib1 : (b : Int) < 24 := by omega
  have ic0 : (0 : Int) ≤ (c : Int) := by omega
  have ic1 : (c : Int) < 24 := by omega
  have id0 : (0 : Int) ≤ (d : Int) := by omega
  have id1 : (d : Int) < 24 := by omega
  unfold stpB
  cases n1 : nearB a c
  · have N1 : Hid (∀ w : World, Calls Try.prog 65 #[.int .i64 (a : Int), .int .i64 (c : Int)] w fun e w' => e = .returned (.bool false) ∧ w = w') := fun w => by have h2 := near_any a c w (by omega) (by omega); rw [n1] at h2; exact h2
    clear n1
    go_enter Try.func53, Try.ntmps53; go_wp2_with (go_at_call 65; (with_reducible refine (N1.out _).mono ?_); rintro e w1 ⟨rfl, rfl⟩); go_ret; exact ⟨rfl, rfl⟩
  have N1 : Hid (∀ w : World, Calls Try.prog 65 #[.int .i64 (a : Int), .int .i64 (c : Int)] w fun e w' => e = .returned (.bool true) ∧ w = w') := fun w => by have h2 := near_any a c w (by omega) (by omega); rw [n1] at h2; exact h2
  cases n2 : nearB b d
  · have N2 : Hid (∀ w : World, Calls Try.prog 65 #[.int .i64 (b : Int), .int .i64 (d : Int)] w fun e w' => e = .returned (.bool false) ∧ w = w') := fun w => by have h2 := near_any b d w (by omega) (by omega); rw [n2] at h2; exact h2
    clear n1 n2
    go_enter Try.func53, Try.ntmps53; go_wp2_with (first | (go_at_call 65; (with_reducible refine (N1.out _).mono ?_); rintro e w1 ⟨rfl, rfl⟩) | (go_at_call 65; (with_reducible refine (N2.out _).mono ?_); rintro e w1 ⟨rfl, rfl⟩)); go_ret; exact ⟨rfl, rfl⟩
  have N2 : Hid (∀ w : World, Calls Try.prog 65 #[.int .i64 (b : Int), .int .i64 (d : Int)] w fun e w' => e = .returned (.bool true) ∧ w = w') := fun w => by have h2 := near_any b d w (by omega) (by omega); rw [n2] at h2; exact h2
  clear n1 n2
  by_cases e1 : a = c
  · by_cases e2 : b = d
    · have z1 : ((a : Int) == (c : Int)) = true := by rw [beq_iff_eq]; omega
      have z2 : ((b : Int) == (d : Int)) = true := by rw [beq_iff_eq]; omega
      rw [decide_eq_true e1, decide_eq_true e2]
      clear e1 e2
      go_enter Try.func53, Try.ntmps53; go_wp2_with (first | (go_at_call 65; (with_reducible refine (N1.out _).mono ?_); rintro e w1 ⟨rfl, rfl⟩) | (go_at_call 65; (with_reducible refine (N2.out _).mono ?_); rintro e w1 ⟨rfl, rfl⟩)); go_ret; exact ⟨rfl, rfl⟩
    · have z1 : ((a : Int) == (c : Int)) = true := by rw [beq_iff_eq]; omega
      have z2 : ((b : Int) == (d : Int)) = false := by rw [beq_eq_false_iff_ne]; omega
      rw [decide_eq_true e1, decide_eq_false e2]
      clear e1 e2
      cases k1 : cellT T a b <;> rw [k1] at d0
      case true => clear k1; go_enter Try.func53, Try.ntmps53; go_wp2_with (first | (go_at_call 65; (with_reducible refine (N1.out _).mono ?_); rintro e w1 ⟨rfl, rfl⟩) | (go_at_call 65; (with_reducible refine (N2.out _).mono ?_); rintro e w1 ⟨rfl, rfl⟩)); go_ret; exact ⟨rfl, rfl⟩
      cases k2 : cellT T c d <;> rw [k2] at d1
      case true => clear k1 k2; go_enter Try.func53, Try.ntmps53; go_wp2_with (first | (go_at_call 65; (with_reducible refine (N1.out _).mono ?_); rintro e w1 ⟨rfl, rfl⟩) | (go_at_call 65; (with_reducible refine (N2.out _).mono ?_); rintro e w1 ⟨rfl, rfl⟩)); go_ret; exact ⟨rfl, rfl⟩
      clear k1 k2
      go_enter Try.func53, Try.ntmps53; go_wp2_with (first | (go_at_call 65; (with_reducible refine (N1.out _).mono ?_); rintro e w1 ⟨rfl, rfl⟩) | (go_at_call 65; (with_reducible refine (N2.out _).mono ?_); rintro e w1 ⟨rfl, rfl⟩)); go_ret; exact ⟨rfl, rfl⟩
  · by_cases e2 : b = d
    · have z1 : ((a : Int) == (c : Int)) = false := by rw [beq_eq_false_iff_ne]; omega
      have z2 : ((b : Int) == (d : Int)) = true := by rw [beq_iff_eq]; omega
      rw [decide_eq_false e1, decide_eq_true e2]
      clear e1 e2
      cases k1 : cellT T a b <;> rw [k1] at d0
      case true => clear k1; go_enter Try.func53, Try.ntmps53; go_wp2_with (first | (go_at_call 65; (with_reducible refine (N1.out _).mono ?_); rintro e w1 ⟨rfl, rfl⟩) | (go_at_call 65; (with_reducible refine (N2.out _).mono ?_); rintro e w1 ⟨rfl, rfl⟩)); go_ret; exact ⟨rfl, rfl⟩
      cases k2 : cellT T c d <;> rw [k2] at d1
      case true => clear k1 k2; go_enter Try.func53, Try.ntmps53; go_wp2_with (first | (go_at_call 65; (with_reducible refine (N1.out _).mono ?_); rintro e w1 ⟨rfl, rfl⟩) | (go_at_call 65; (with_reducible refine (N2.out _).mono ?_); rintro e w1 ⟨rfl, rfl⟩)); go_ret; exact ⟨rfl, rfl⟩
      clear k1 k2
      go_enter Try.func53, Try.ntmps53; go_wp2_with (first | (go_at_call 65; (with_reducible refine (N1.out _).mono ?_); rintro e w1 ⟨rfl, rfl⟩) | (go_at_call 65; (with_reducible refine (N2.out _).mono ?_); rintro e w1 ⟨rfl, rfl⟩)); go_ret; exact ⟨rfl, rfl⟩
    · have z1 : ((a : Int) == (c : Int)) = false := by rw [beq_eq_false_iff_ne]; omega
      have z2 : ((b : Int) == (d : Int)) = false := by rw [beq_eq_false_iff_ne]; omega
      rw [decide_eq_false e1, decide_eq_false e2]
      clear e1 e2
      cases k1 : cellT T a b <;> rw [k1] at d0
      case true => clear k1; go_enter Try.func53, Try.ntmps53; go_wp2_with (first | (go_at_call 65; (with_reducible refine (N1.out _).mono ?_); rintro e w1 ⟨rfl, rfl⟩) | (go_at_call 65; (with_reducible refine (N2.out _).mono ?_); rintro e w1 ⟨rfl, rfl⟩)); go_ret; exact ⟨rfl, rfl⟩
      cases k2 : cellT T c d <;> rw [k2] at d1
      case true => clear k1 k2; go_enter Try.func53, Try.ntmps53; go_wp2_with (first | (go_at_call 65; (with_reducible refine (N1.out _).mono ?_); rintro e w1 ⟨rfl, rfl⟩) | (go_at_call 65; (with_reducible refine (N2.out _).mono ?_); rintro e w1 ⟨rfl, rfl⟩)); go_ret; exact ⟨rfl, rfl⟩
      cases k3 : cellT T a d <;> rw [k3] at d2
      case true => clear k1 k2 k3; go_enter Try.func53, Try.ntmps53; go_wp2_with (first | (go_at_call 65; (with_reducible refine (N1.out _).mono ?_); rintro e w1 ⟨rfl, rfl⟩) | (go_at_call 65; (with_reducible refine (N2.out _).mono ?_); rintro e w1 ⟨rfl, rfl⟩)); go_ret; exact ⟨rfl, rfl⟩
      cases k4 : cellT T c b <;> rw [k4] at d3
      · clear k1 k2 k3 k4; go_enter Try.func53, Try.ntmps53; go_wp2_with (first | (go_at_call 65; (with_reducible refine (N1.out _).mono ?_); rintro e w1 ⟨rfl, rfl⟩) | (go_at_call 65; (with_reducible refine (N2.out _).mono ?_); rintro e w1 ⟨rfl, rfl⟩)); go_ret; exact ⟨rfl, rfl⟩
      · clear k1 k2 k3 k4; go_enter Try.func53, Try.ntmps53; go_wp2_with (first | (go_at_call 65; (with_reducible refine (N1.out _).mono ?_); rintro e w1 ⟨rfl, rfl⟩) | (go_at_call 65; (with_reducible refine (N2.out _).mono ?_); rintro e w1 ⟨rfl, rfl⟩)); go_ret; exact ⟨rfl, rfl⟩
set_option maxHeartbeats 4000000 in
set_option maxRecDepth 20000 in
theorem safe_any (A : Option Addr) (e0 : Nat) (T : List (List Bool)) (w : World) (hok : okT T = true) (h : TB .bool w w.heap.size A T) (a b : Nat) (ha : a ≤ 23) (hb : b ≤ 23) (pf of_ cf : Nat) (f0 : w.cell? ⟨pf, of_, none⟩ = some (.int .i64 (a : Int))) (f1 : w.cell? ⟨pf, of_ + 1, none⟩ = some (.int .i64 (b : Int))) {r : Bool} (hr : cellT T a b = r) : Calls Try.prog 68 #[.slice A T.length e0, .slice (some ⟨pf, of_, none⟩) 2 cf] w fun e w' => e = .returned (.bool (!r)) ∧ ∃ q, w' = w.drewN q := by
  obtain ⟨p0, o0, q0, u0, v0, ea0, c0, g0⟩ := trow h hok (a := a) (by omega)
  subst ea0
  have d0 := g0 b (by omega)
  clear g0
  have hT := (okT_t hok).1
  rw [hT]
  clear h hok hT
  have ia0 : (0 : Int) ≤ (a : Int) := by omega
  have ia1 : (a : Int) < 24 := by omega
  have ib0 : (0 : Int) ≤ (b : Int) := by omega
  have ib1 : (b : Int) < 24 := by omega
  rw [hr] at d0
  clear hr
  go_enter Try.func68, Try.ntmps68
  go_wp2
  go_quiet (fail)
  go_wp2
  go_ret
  exact ⟨rfl, by first | exact ⟨_, rfl⟩ | exact ⟨_, by simp only [World.drewN_drewN]; rfl⟩ | exact ⟨0, rfl⟩⟩
set_option maxHeartbeats 8000000 in
set_option maxRecDepth 20000 in
theorem allowed_any (A : Option Addr) (e0 : Nat) (T : List (List Bool)) (w : World) (hok : okT T = true) (h : TB .bool w w.heap.size A T) (a b c d : Nat) (ha : a ≤ 23) (hb : b ≤ 23) (hc : c ≤ 23) (hd : d ≤ 23) (pf of_ cf pt ot ct : Nat) (f0 : w.cell? ⟨pf, of_, none⟩ = some (.int .i64 (a : Int))) (f1 : w.cell? ⟨pf, of_ + 1, none⟩ = some (.int .i64 (b : Int))) (t0 : w.cell? ⟨pt, ot, none⟩ = some (.int .i64 (c : Int))) (t1 : w.cell? ⟨pt, ot + 1, none⟩ = some (.int .i64 (d : Int))) : Calls Try.prog 55 #[.slice A T.length e0, .slice (some ⟨pf, of_, none⟩) 2 cf, .slice (some ⟨pt, ot, none⟩) 2 ct] w fun e w' => e = .returned (.bool (stepI T a b c d)) ∧ ∃ q, w' = w.drewN q := by
  have H := Lib.hid h
  clear h
  have ia0 : (0 : Int) ≤ (a : Int) := by omega
  have ib0 : (0 : Int) ≤ (b : Int) := by omega
  have ic0 : (0 : Int) ≤ (c : Int) := by omega
  have id0 : (0 : Int) ≤ (d : Int) := by omega
  have ia1 : (a : Int) ≤ 23 := by omega
  have ib1 : (b : Int) ≤ 23 := by omega
  have ic1 : (c : Int) ≤ 23 := by omega
  have id1 : (d : Int) ≤ 23 := by omega
  unfold stepI
  have y1 := turnI_zero ha hc
  have y2 := turnI_zero hb hd
  cases n1 : nearB a c
  · have M1 := Lib.hid (show inI (turnI a c) (-1) 1 = false from n1)
    have M2 := M1
    clear n1 y1 y2
    go_enter Try.func55, Try.ntmps55
    go_wp2
    go_quiet ((go_at_call 66; exact quiet_left (turnBetween_any _ _ _ (by omega) (by omega))))
    go_wp2_with (first | (go_at_call 67; (with_reducible refine (isTurn_any _ _ M1.out).mono ?_); rintro e w1 ⟨rfl, rfl⟩) | (go_at_call 67; (with_reducible refine (isTurn_any _ _ M2.out).mono ?_); rintro e w1 ⟨rfl, rfl⟩))
    go_ret
    exact ⟨rfl, by first | exact ⟨_, rfl⟩ | exact ⟨_, by simp only [World.drewN_drewN]; rfl⟩ | exact ⟨0, rfl⟩⟩
  have M1 := Lib.hid (show inI (turnI a c) (-1) 1 = true from n1)
  cases n2 : nearB b d
  · have M2 := Lib.hid (show inI (turnI b d) (-1) 1 = false from n2)
    clear n1 n2 y1 y2
    go_enter Try.func55, Try.ntmps55
    go_wp2
    go_quiet ((go_at_call 66; exact quiet_left (turnBetween_any _ _ _ (by omega) (by omega))))
    go_wp2_with (first | (go_at_call 67; (with_reducible refine (isTurn_any _ _ M1.out).mono ?_); rintro e w1 ⟨rfl, rfl⟩) | (go_at_call 67; (with_reducible refine (isTurn_any _ _ M2.out).mono ?_); rintro e w1 ⟨rfl, rfl⟩))
    go_ret
    exact ⟨rfl, by first | exact ⟨_, rfl⟩ | exact ⟨_, by simp only [World.drewN_drewN]; rfl⟩ | exact ⟨0, rfl⟩⟩
  have M2 := Lib.hid (show inI (turnI b d) (-1) 1 = true from n2)
  clear n1 n2
  by_cases e1 : a = c
  · by_cases e2 : b = d
    · rw [decide_eq_true e1] at y1 ⊢
      rw [decide_eq_true e2] at y2 ⊢
      clear e1 e2
      go_enter Try.func55, Try.ntmps55
      go_wp2
      go_quiet ((go_at_call 66; exact quiet_left (turnBetween_any _ _ _ (by omega) (by omega))))
      go_wp2_with (first | (go_at_call 67; (with_reducible refine (isTurn_any _ _ M1.out).mono ?_); rintro e w1 ⟨rfl, rfl⟩) | (go_at_call 67; (with_reducible refine (isTurn_any _ _ M2.out).mono ?_); rintro e w1 ⟨rfl, rfl⟩))
      go_ret
      exact ⟨rfl, by first | exact ⟨_, rfl⟩ | exact ⟨_, by simp only [World.drewN_drewN]; rfl⟩ | exact ⟨0, rfl⟩⟩
    · rw [decide_eq_true e1] at y1 ⊢
      rw [decide_eq_false e2] at y2 ⊢
      clear e1 e2
      cases k1 : cellT T a b
      · have K1 := Lib.hid k1
        clear k1
        go_enter Try.func55, Try.ntmps55
        go_wp2
        go_quiet ((go_at_call 66; exact quiet_left (turnBetween_any _ _ _ (by omega) (by omega))))
        go_wp2_with (first | (go_at_call 67; (with_reducible refine (isTurn_any _ _ M1.out).mono ?_); rintro e w1 ⟨rfl, rfl⟩) | (go_at_call 67; (with_reducible refine (isTurn_any _ _ M2.out).mono ?_); rintro e w1 ⟨rfl, rfl⟩) | (go_at_call 68; (with_reducible refine (safe_any A e0 T _ hok (H.out.laterT (by repeat' first | exact gr_refl _ | with_reducible assumption | with_reducible apply gr_alloc | with_reducible apply gr_set | with_reducible apply gr_drew | with_reducible apply gr_drewN | exact Nat.le_add_right _ _ | exact Nat.le_refl _ | (refine gr_then (by with_reducible assumption) ?_))) a b ha hb pf of_ cf (keepcM (by repeat' first | exact gr_refl _ | with_reducible assumption | with_reducible apply gr_alloc | with_reducible apply gr_set | with_reducible apply gr_drew | with_reducible apply gr_drewN | exact Nat.le_add_right _ _ | exact Nat.le_refl _ | (refine gr_then (by with_reducible assumption) ?_)) f0) (keepcM (by repeat' first | exact gr_refl _ | with_reducible assumption | with_reducible apply gr_alloc | with_reducible apply gr_set | with_reducible apply gr_drew | with_reducible apply gr_drewN | exact Nat.le_add_right _ _ | exact Nat.le_refl _ | (refine gr_then (by with_reducible assumption) ?_)) f1) K1.out).mono ?_); rintro e w1 ⟨rfl, q, rfl⟩))
        go_quiet ((go_at_call 69; first | exact quiet_left (clashes_any A e0 T _ hok (H.out.laterT (by repeat' first | exact gr_refl _ | with_reducible assumption | with_reducible apply gr_alloc | with_reducible apply gr_set | with_reducible apply gr_drew | with_reducible apply gr_drewN | exact Nat.le_add_right _ _ | exact Nat.le_refl _ | (refine gr_then (by with_reducible assumption) ?_))) a b c d ha hb hc hd) | exact quiet_add_left (clashes_any A e0 T _ hok (H.out.laterT (by repeat' first | exact gr_refl _ | with_reducible assumption | with_reducible apply gr_alloc | with_reducible apply gr_set | with_reducible apply gr_drew | with_reducible apply gr_drewN | exact Nat.le_add_right _ _ | exact Nat.le_refl _ | (refine gr_then (by with_reducible assumption) ?_))) a b c d ha hb hc hd)))
        go_wp2
        go_ret
        exact ⟨ret_bool (by simp), by first | exact ⟨_, rfl⟩ | exact ⟨_, by simp only [World.drewN_drewN]; rfl⟩ | exact ⟨0, rfl⟩⟩
      · have K1 := Lib.hid k1
        clear k1
        go_enter Try.func55, Try.ntmps55
        go_wp2
        go_quiet ((go_at_call 66; exact quiet_left (turnBetween_any _ _ _ (by omega) (by omega))))
        go_wp2_with (first | (go_at_call 67; (with_reducible refine (isTurn_any _ _ M1.out).mono ?_); rintro e w1 ⟨rfl, rfl⟩) | (go_at_call 67; (with_reducible refine (isTurn_any _ _ M2.out).mono ?_); rintro e w1 ⟨rfl, rfl⟩) | (go_at_call 68; (with_reducible refine (safe_any A e0 T _ hok (H.out.laterT (by repeat' first | exact gr_refl _ | with_reducible assumption | with_reducible apply gr_alloc | with_reducible apply gr_set | with_reducible apply gr_drew | with_reducible apply gr_drewN | exact Nat.le_add_right _ _ | exact Nat.le_refl _ | (refine gr_then (by with_reducible assumption) ?_))) a b ha hb pf of_ cf (keepcM (by repeat' first | exact gr_refl _ | with_reducible assumption | with_reducible apply gr_alloc | with_reducible apply gr_set | with_reducible apply gr_drew | with_reducible apply gr_drewN | exact Nat.le_add_right _ _ | exact Nat.le_refl _ | (refine gr_then (by with_reducible assumption) ?_)) f0) (keepcM (by repeat' first | exact gr_refl _ | with_reducible assumption | with_reducible apply gr_alloc | with_reducible apply gr_set | with_reducible apply gr_drew | with_reducible apply gr_drewN | exact Nat.le_add_right _ _ | exact Nat.le_refl _ | (refine gr_then (by with_reducible assumption) ?_)) f1) K1.out).mono ?_); rintro e w1 ⟨rfl, q, rfl⟩))
        go_ret
        exact ⟨rfl, by first | exact ⟨_, rfl⟩ | exact ⟨_, by simp only [World.drewN_drewN]; rfl⟩ | exact ⟨0, rfl⟩⟩
  · by_cases e2 : b = d
    · rw [decide_eq_false e1] at y1 ⊢
      rw [decide_eq_true e2] at y2 ⊢
      clear e1 e2
      cases k1 : cellT T a b
      · have K1 := Lib.hid k1
        clear k1
        go_enter Try.func55, Try.ntmps55
        go_wp2
        go_quiet ((go_at_call 66; exact quiet_left (turnBetween_any _ _ _ (by omega) (by omega))))
        go_wp2_with (first | (go_at_call 67; (with_reducible refine (isTurn_any _ _ M1.out).mono ?_); rintro e w1 ⟨rfl, rfl⟩) | (go_at_call 67; (with_reducible refine (isTurn_any _ _ M2.out).mono ?_); rintro e w1 ⟨rfl, rfl⟩) | (go_at_call 68; (with_reducible refine (safe_any A e0 T _ hok (H.out.laterT (by repeat' first | exact gr_refl _ | with_reducible assumption | with_reducible apply gr_alloc | with_reducible apply gr_set | with_reducible apply gr_drew | with_reducible apply gr_drewN | exact Nat.le_add_right _ _ | exact Nat.le_refl _ | (refine gr_then (by with_reducible assumption) ?_))) a b ha hb pf of_ cf (keepcM (by repeat' first | exact gr_refl _ | with_reducible assumption | with_reducible apply gr_alloc | with_reducible apply gr_set | with_reducible apply gr_drew | with_reducible apply gr_drewN | exact Nat.le_add_right _ _ | exact Nat.le_refl _ | (refine gr_then (by with_reducible assumption) ?_)) f0) (keepcM (by repeat' first | exact gr_refl _ | with_reducible assumption | with_reducible apply gr_alloc | with_reducible apply gr_set | with_reducible apply gr_drew | with_reducible apply gr_drewN | exact Nat.le_add_right _ _ | exact Nat.le_refl _ | (refine gr_then (by with_reducible assumption) ?_)) f1) K1.out).mono ?_); rintro e w1 ⟨rfl, q, rfl⟩))
        go_quiet ((go_at_call 69; first | exact quiet_left (clashes_any A e0 T _ hok (H.out.laterT (by repeat' first | exact gr_refl _ | with_reducible assumption | with_reducible apply gr_alloc | with_reducible apply gr_set | with_reducible apply gr_drew | with_reducible apply gr_drewN | exact Nat.le_add_right _ _ | exact Nat.le_refl _ | (refine gr_then (by with_reducible assumption) ?_))) a b c d ha hb hc hd) | exact quiet_add_left (clashes_any A e0 T _ hok (H.out.laterT (by repeat' first | exact gr_refl _ | with_reducible assumption | with_reducible apply gr_alloc | with_reducible apply gr_set | with_reducible apply gr_drew | with_reducible apply gr_drewN | exact Nat.le_add_right _ _ | exact Nat.le_refl _ | (refine gr_then (by with_reducible assumption) ?_))) a b c d ha hb hc hd)))
        go_wp2
        go_ret
        exact ⟨ret_bool (by simp), by first | exact ⟨_, rfl⟩ | exact ⟨_, by simp only [World.drewN_drewN]; rfl⟩ | exact ⟨0, rfl⟩⟩
      · have K1 := Lib.hid k1
        clear k1
        go_enter Try.func55, Try.ntmps55
        go_wp2
        go_quiet ((go_at_call 66; exact quiet_left (turnBetween_any _ _ _ (by omega) (by omega))))
        go_wp2_with (first | (go_at_call 67; (with_reducible refine (isTurn_any _ _ M1.out).mono ?_); rintro e w1 ⟨rfl, rfl⟩) | (go_at_call 67; (with_reducible refine (isTurn_any _ _ M2.out).mono ?_); rintro e w1 ⟨rfl, rfl⟩) | (go_at_call 68; (with_reducible refine (safe_any A e0 T _ hok (H.out.laterT (by repeat' first | exact gr_refl _ | with_reducible assumption | with_reducible apply gr_alloc | with_reducible apply gr_set | with_reducible apply gr_drew | with_reducible apply gr_drewN | exact Nat.le_add_right _ _ | exact Nat.le_refl _ | (refine gr_then (by with_reducible assumption) ?_))) a b ha hb pf of_ cf (keepcM (by repeat' first | exact gr_refl _ | with_reducible assumption | with_reducible apply gr_alloc | with_reducible apply gr_set | with_reducible apply gr_drew | with_reducible apply gr_drewN | exact Nat.le_add_right _ _ | exact Nat.le_refl _ | (refine gr_then (by with_reducible assumption) ?_)) f0) (keepcM (by repeat' first | exact gr_refl _ | with_reducible assumption | with_reducible apply gr_alloc | with_reducible apply gr_set | with_reducible apply gr_drew | with_reducible apply gr_drewN | exact Nat.le_add_right _ _ | exact Nat.le_refl _ | (refine gr_then (by with_reducible assumption) ?_)) f1) K1.out).mono ?_); rintro e w1 ⟨rfl, q, rfl⟩))
        go_ret
        exact ⟨rfl, by first | exact ⟨_, rfl⟩ | exact ⟨_, by simp only [World.drewN_drewN]; rfl⟩ | exact ⟨0, rfl⟩⟩
    · rw [decide_eq_false e1] at y1 ⊢
      rw [decide_eq_false e2] at y2 ⊢
      clear e1 e2
      cases k1 : cellT T a b
      · have K1 := Lib.hid k1
        clear k1
        go_enter Try.func55, Try.ntmps55
        go_wp2
        go_quiet ((go_at_call 66; exact quiet_left (turnBetween_any _ _ _ (by omega) (by omega))))
        go_wp2_with (first | (go_at_call 67; (with_reducible refine (isTurn_any _ _ M1.out).mono ?_); rintro e w1 ⟨rfl, rfl⟩) | (go_at_call 67; (with_reducible refine (isTurn_any _ _ M2.out).mono ?_); rintro e w1 ⟨rfl, rfl⟩) | (go_at_call 68; (with_reducible refine (safe_any A e0 T _ hok (H.out.laterT (by repeat' first | exact gr_refl _ | with_reducible assumption | with_reducible apply gr_alloc | with_reducible apply gr_set | with_reducible apply gr_drew | with_reducible apply gr_drewN | exact Nat.le_add_right _ _ | exact Nat.le_refl _ | (refine gr_then (by with_reducible assumption) ?_))) a b ha hb pf of_ cf (keepcM (by repeat' first | exact gr_refl _ | with_reducible assumption | with_reducible apply gr_alloc | with_reducible apply gr_set | with_reducible apply gr_drew | with_reducible apply gr_drewN | exact Nat.le_add_right _ _ | exact Nat.le_refl _ | (refine gr_then (by with_reducible assumption) ?_)) f0) (keepcM (by repeat' first | exact gr_refl _ | with_reducible assumption | with_reducible apply gr_alloc | with_reducible apply gr_set | with_reducible apply gr_drew | with_reducible apply gr_drewN | exact Nat.le_add_right _ _ | exact Nat.le_refl _ | (refine gr_then (by with_reducible assumption) ?_)) f1) K1.out).mono ?_); rintro e w1 ⟨rfl, q, rfl⟩))
        go_quiet ((go_at_call 69; first | exact quiet_left (clashes_any A e0 T _ hok (H.out.laterT (by repeat' first | exact gr_refl _ | with_reducible assumption | with_reducible apply gr_alloc | with_reducible apply gr_set | with_reducible apply gr_drew | with_reducible apply gr_drewN | exact Nat.le_add_right _ _ | exact Nat.le_refl _ | (refine gr_then (by with_reducible assumption) ?_))) a b c d ha hb hc hd) | exact quiet_add_left (clashes_any A e0 T _ hok (H.out.laterT (by repeat' first | exact gr_refl _ | with_reducible assumption | with_reducible apply gr_alloc | with_reducible apply gr_set | with_reducible apply gr_drew | with_reducible apply gr_drewN | exact Nat.le_add_right _ _ | exact Nat.le_refl _ | (refine gr_then (by with_reducible assumption) ?_))) a b c d ha hb hc hd)))
        go_wp2
        go_ret
        exact ⟨ret_bool (by simp), by first | exact ⟨_, rfl⟩ | exact ⟨_, by simp only [World.drewN_drewN]; rfl⟩ | exact ⟨0, rfl⟩⟩
      · have K1 := Lib.hid k1
        clear k1
        go_enter Try.func55, Try.ntmps55
        go_wp2
        go_quiet ((go_at_call 66; exact quiet_left (turnBetween_any _ _ _ (by omega) (by omega))))
        go_wp2_with (first | (go_at_call 67; (with_reducible refine (isTurn_any _ _ M1.out).mono ?_); rintro e w1 ⟨rfl, rfl⟩) | (go_at_call 67; (with_reducible refine (isTurn_any _ _ M2.out).mono ?_); rintro e w1 ⟨rfl, rfl⟩) | (go_at_call 68; (with_reducible refine (safe_any A e0 T _ hok (H.out.laterT (by repeat' first | exact gr_refl _ | with_reducible assumption | with_reducible apply gr_alloc | with_reducible apply gr_set | with_reducible apply gr_drew | with_reducible apply gr_drewN | exact Nat.le_add_right _ _ | exact Nat.le_refl _ | (refine gr_then (by with_reducible assumption) ?_))) a b ha hb pf of_ cf (keepcM (by repeat' first | exact gr_refl _ | with_reducible assumption | with_reducible apply gr_alloc | with_reducible apply gr_set | with_reducible apply gr_drew | with_reducible apply gr_drewN | exact Nat.le_add_right _ _ | exact Nat.le_refl _ | (refine gr_then (by with_reducible assumption) ?_)) f0) (keepcM (by repeat' first | exact gr_refl _ | with_reducible assumption | with_reducible apply gr_alloc | with_reducible apply gr_set | with_reducible apply gr_drew | with_reducible apply gr_drewN | exact Nat.le_add_right _ _ | exact Nat.le_refl _ | (refine gr_then (by with_reducible assumption) ?_)) f1) K1.out).mono ?_); rintro e w1 ⟨rfl, q, rfl⟩))
        go_ret
        exact ⟨rfl, by first | exact ⟨_, rfl⟩ | exact ⟨_, by simp only [World.drewN_drewN]; rfl⟩ | exact ⟨0, rfl⟩⟩
def stA (T : List (List Bool)) (xs ys : List Int) : Bool :=
  okT T && (stOk xs && (stOk ys && stpB T (xs.getD 0 0).toNat (xs.getD 1 0).toNat (ys.getD 0 0).toNat (ys.getD 1 0).toNat))
set_option maxHeartbeats 8000000 in
set_option maxRecDepth 20000 in
theorem specSa_any (A A1 A2 : Option Addr) (e0 e1 e2 : Nat) (T : List (List Bool)) (xs ys : List Int) (w : World) (hn : T.length ≤ 1048576) (hm1 : xs.length ≤ 1048576) (hm2 : ys.length ≤ 1048576) (h : TB .bool w w.heap.size A T) (h1 : SV (.int .i64) w w.heap.size A1 xs) (h2 : SV (.int .i64) w w.heap.size A2 ys) : Calls Try.prog 29 #[.slice A T.length e0, .slice A1 xs.length e1, .slice A2 ys.length e2] w fun e w' => e = .returned (.bool (stA T xs ys)) ∧ ∃ q, w' = w.drewN q := by
  have H := Lib.hid h
  have H1 := Lib.hid h1
  have H2 := Lib.hid h2
  clear h h1 h2
  unfold stA
  cases k1 : okT T
  · have K1 := Lib.hid k1
    clear k1
    go_enter Try.func29, Try.ntmps29
    go_wp2
    go_quiet ((first | (go_at_call 41; ((with_reducible refine quiet_left (l15Ok_is A e0 T _ hn ?_ K1.out)); exact (H.out.laterT (by repeat' first | exact gr_refl _ | with_reducible assumption | with_reducible apply gr_alloc | with_reducible apply gr_set | with_reducible apply gr_drew | with_reducible apply gr_drewN | exact Nat.le_add_right _ _ | exact Nat.le_refl _ | (refine gr_then (by with_reducible assumption) ?_)))))))
    go_wp2
    go_ret
    exact ⟨ret_bool (by simp), by first | exact ⟨_, rfl⟩ | exact ⟨_, by simp only [World.drewN_drewN]; rfl⟩ | exact ⟨0, rfl⟩⟩
  have K1 := Lib.hid k1
  cases s1 : stOk xs
  · have S1 := Lib.hid s1
    clear k1 s1
    go_enter Try.func29, Try.ntmps29
    go_wp2
    go_quiet ((first | (go_at_call 41; ((with_reducible refine quiet_left (l15Ok_is A e0 T _ hn ?_ K1.out)); exact (H.out.laterT (by repeat' first | exact gr_refl _ | with_reducible assumption | with_reducible apply gr_alloc | with_reducible apply gr_set | with_reducible apply gr_drew | with_reducible apply gr_drewN | exact Nat.le_add_right _ _ | exact Nat.le_refl _ | (refine gr_then (by with_reducible assumption) ?_))))) | (go_at_call 52; ((with_reducible refine quiet_left (specSt_any A1 e1 xs _ hm1 ?_ S1.out)); exact (H1.out.later (by repeat' first | exact gr_refl _ | with_reducible assumption | with_reducible apply gr_alloc | with_reducible apply gr_set | with_reducible apply gr_drew | with_reducible apply gr_drewN | exact Nat.le_add_right _ _ | exact Nat.le_refl _ | (refine gr_then (by with_reducible assumption) ?_)))))))
    go_wp2
    go_ret
    exact ⟨ret_bool (by simp), by first | exact ⟨_, rfl⟩ | exact ⟨_, by simp only [World.drewN_drewN]; rfl⟩ | exact ⟨0, rfl⟩⟩
  have S1 := Lib.hid s1
  cases s2 : stOk ys
  · have S2 := Lib.hid s2
    clear k1 s1 s2
    go_enter Try.func29, Try.ntmps29
    go_wp2
    go_quiet ((first | (go_at_call 41; ((with_reducible refine quiet_left (l15Ok_is A e0 T _ hn ?_ K1.out)); exact (H.out.laterT (by repeat' first | exact gr_refl _ | with_reducible assumption | with_reducible apply gr_alloc | with_reducible apply gr_set | with_reducible apply gr_drew | with_reducible apply gr_drewN | exact Nat.le_add_right _ _ | exact Nat.le_refl _ | (refine gr_then (by with_reducible assumption) ?_))))) | (go_at_call 52; first | ((with_reducible refine quiet_left (specSt_any A1 e1 xs _ hm1 ?_ S1.out)); exact (H1.out.later (by repeat' first | exact gr_refl _ | with_reducible assumption | with_reducible apply gr_alloc | with_reducible apply gr_set | with_reducible apply gr_drew | with_reducible apply gr_drewN | exact Nat.le_add_right _ _ | exact Nat.le_refl _ | (refine gr_then (by with_reducible assumption) ?_)))) | ((with_reducible refine quiet_left (specSt_any A2 e2 ys _ hm2 ?_ S2.out)); exact (H2.out.later (by repeat' first | exact gr_refl _ | with_reducible assumption | with_reducible apply gr_alloc | with_reducible apply gr_set | with_reducible apply gr_drew | with_reducible apply gr_drewN | exact Nat.le_add_right _ _ | exact Nat.le_refl _ | (refine gr_then (by with_reducible assumption) ?_)))))))
    go_wp2
    go_ret
    exact ⟨ret_bool (by simp), by first | exact ⟨_, rfl⟩ | exact ⟨_, by simp only [World.drewN_drewN]; rfl⟩ | exact ⟨0, rfl⟩⟩
  have S2 := Lib.hid s2
  obtain ⟨a, b, p, o, ha, hb, rfl, rfl, hp, c0, c1⟩ := stOk_t s1 H1.out
  obtain ⟨c, d, p2, o2, hc, hd, rfl, rfl, hp2, c2, c3⟩ := stOk_t s2 H2.out
  have hok := k1
  clear s1 s2 k1 hp hp2
  simp only [List.length_cons, List.length_nil, Nat.zero_add, Nat.reduceAdd, List.getD_cons_zero, List.getD_cons_succ, Int.toNat_natCast]
  have G1 : Hid (∀ w1 : World, Below w.heap.size w w1 → Calls Try.prog 52 #[.slice (some ⟨p, o, none⟩) 2 e1] w1 fun e w' => e = .returned (.bool true) ∧ w1 = w') := fun w1 hb1 => specSt_any _ e1 [(a : Int), (b : Int)] w1 hm1 (H1.out.later hb1) S1.out
  have G2 : Hid (∀ w1 : World, Below w.heap.size w w1 → Calls Try.prog 52 #[.slice (some ⟨p2, o2, none⟩) 2 e2] w1 fun e w' => e = .returned (.bool true) ∧ w1 = w') := fun w1 hb1 => specSt_any _ e2 [(c : Int), (d : Int)] w1 hm2 (H2.out.later hb1) S2.out
  go_enter Try.func29, Try.ntmps29
  go_wp2
  go_quiet ((first | (go_at_call 41; ((with_reducible refine quiet_left (l15Ok_is A e0 T _ hn ?_ K1.out)); exact (H.out.laterT (by repeat' first | exact gr_refl _ | with_reducible assumption | with_reducible apply gr_alloc | with_reducible apply gr_set | with_reducible apply gr_drew | with_reducible apply gr_drewN | exact Nat.le_add_right _ _ | exact Nat.le_refl _ | (refine gr_then (by with_reducible assumption) ?_))))) | (go_at_call 52; first | ((with_reducible refine quiet_left (G1.out _ ?_)); repeat' first | exact gr_refl _ | with_reducible assumption | with_reducible apply gr_alloc | with_reducible apply gr_set | with_reducible apply gr_drew | with_reducible apply gr_drewN | exact Nat.le_add_right _ _ | exact Nat.le_refl _ | (refine gr_then (by with_reducible assumption) ?_)) | ((with_reducible refine quiet_left (G2.out _ ?_)); repeat' first | exact gr_refl _ | with_reducible assumption | with_reducible apply gr_alloc | with_reducible apply gr_set | with_reducible apply gr_drew | with_reducible apply gr_drewN | exact Nat.le_add_right _ _ | exact Nat.le_refl _ | (refine gr_then (by with_reducible assumption) ?_))) | (go_at_call 53; (with_reducible refine quiet_left (step_any A e0 T _ hok ?_ a b c d ha hb hc hd)); exact (H.out.laterT (by repeat' first | exact gr_refl _ | with_reducible assumption | with_reducible apply gr_alloc | with_reducible apply gr_set | with_reducible apply gr_drew | with_reducible apply gr_drewN | exact Nat.le_add_right _ _ | exact Nat.le_refl _ | (refine gr_then (by with_reducible assumption) ?_))))))
  go_wp2
  go_ret
  exact ⟨ret_bool (by simp), by first | exact ⟨_, rfl⟩ | exact ⟨_, by simp only [World.drewN_drewN]; rfl⟩ | exact ⟨0, rfl⟩⟩
set_option maxHeartbeats 8000000 in
set_option maxRecDepth 20000 in
theorem implSa_any (A A1 A2 : Option Addr) (e0 e1 e2 : Nat) (T : List (List Bool)) (xs ys : List Int) (w : World) (hn : T.length ≤ 1048576) (hm1 : xs.length ≤ 1048576) (hm2 : ys.length ≤ 1048576) (h : TB .bool w w.heap.size A T) (h1 : SV (.int .i64) w w.heap.size A1 xs) (h2 : SV (.int .i64) w w.heap.size A2 ys) (hbs : ∀ (j : Nat) bs, T[j]? = some bs → bs.length ≤ 1048576) : Calls Try.prog 31 #[.slice A T.length e0, .slice A1 xs.length e1, .slice A2 ys.length e2] w fun e w' => e = .returned (.bool (stA T xs ys)) ∧ ∃ q, w' = w.drewN q := by
  have H := Lib.hid h
  have H1 := Lib.hid h1
  have H2 := Lib.hid h2
  have HBS := Lib.hid hbs
  clear h h1 h2 hbs
  unfold stA
  cases k1 : okT T
  · have K1 := Lib.hid k1
    clear k1
    go_enter Try.func31, Try.ntmps31
    go_wp2_with (first | (go_at_call 14; ((with_reducible refine (implVt_is A e0 T _ hn (H.out.laterT (by repeat' first | exact gr_refl _ | with_reducible assumption | with_reducible apply gr_alloc | with_reducible apply gr_set | with_reducible apply gr_drew | with_reducible apply gr_drewN | exact Nat.le_add_right _ _ | exact Nat.le_refl _ | (refine gr_then (by with_reducible assumption) ?_))) HBS.out K1.out).mono ?_); rintro e w1 ⟨rfl, rfl⟩)))
    go_ret
    exact ⟨ret_bool (by simp), by first | exact ⟨_, rfl⟩ | exact ⟨_, by simp only [World.drewN_drewN]; rfl⟩ | exact ⟨0, rfl⟩⟩
  have K1 := Lib.hid k1
  cases s1 : stOk xs
  · have S1 := Lib.hid s1
    clear k1 s1
    go_enter Try.func31, Try.ntmps31
    go_wp2_with (first | (go_at_call 14; ((with_reducible refine (implVt_is A e0 T _ hn (H.out.laterT (by repeat' first | exact gr_refl _ | with_reducible assumption | with_reducible apply gr_alloc | with_reducible apply gr_set | with_reducible apply gr_drew | with_reducible apply gr_drewN | exact Nat.le_add_right _ _ | exact Nat.le_refl _ | (refine gr_then (by with_reducible assumption) ?_))) HBS.out K1.out).mono ?_); rintro e w1 ⟨rfl, rfl⟩)) | (go_at_call 54; ((with_reducible refine (implSt_any A1 e1 xs _ hm1 (H1.out.later (by repeat' first | exact gr_refl _ | with_reducible assumption | with_reducible apply gr_alloc | with_reducible apply gr_set | with_reducible apply gr_drew | with_reducible apply gr_drewN | exact Nat.le_add_right _ _ | exact Nat.le_refl _ | (refine gr_then (by with_reducible assumption) ?_))) S1.out).mono ?_); rintro e w1 ⟨rfl, rfl⟩)))
    go_ret
    exact ⟨ret_bool (by simp), by first | exact ⟨_, rfl⟩ | exact ⟨_, by simp only [World.drewN_drewN]; rfl⟩ | exact ⟨0, rfl⟩⟩
  have S1 := Lib.hid s1
  cases s2 : stOk ys
  · have S2 := Lib.hid s2
    clear k1 s1 s2
    go_enter Try.func31, Try.ntmps31
    go_wp2_with (first | (go_at_call 14; ((with_reducible refine (implVt_is A e0 T _ hn (H.out.laterT (by repeat' first | exact gr_refl _ | with_reducible assumption | with_reducible apply gr_alloc | with_reducible apply gr_set | with_reducible apply gr_drew | with_reducible apply gr_drewN | exact Nat.le_add_right _ _ | exact Nat.le_refl _ | (refine gr_then (by with_reducible assumption) ?_))) HBS.out K1.out).mono ?_); rintro e w1 ⟨rfl, rfl⟩)) | (go_at_call 54; first | ((with_reducible refine (implSt_any A1 e1 xs _ hm1 (H1.out.later (by repeat' first | exact gr_refl _ | with_reducible assumption | with_reducible apply gr_alloc | with_reducible apply gr_set | with_reducible apply gr_drew | with_reducible apply gr_drewN | exact Nat.le_add_right _ _ | exact Nat.le_refl _ | (refine gr_then (by with_reducible assumption) ?_))) S1.out).mono ?_); rintro e w1 ⟨rfl, rfl⟩) | ((with_reducible refine (implSt_any A2 e2 ys _ hm2 (H2.out.later (by repeat' first | exact gr_refl _ | with_reducible assumption | with_reducible apply gr_alloc | with_reducible apply gr_set | with_reducible apply gr_drew | with_reducible apply gr_drewN | exact Nat.le_add_right _ _ | exact Nat.le_refl _ | (refine gr_then (by with_reducible assumption) ?_))) S2.out).mono ?_); rintro e w1 ⟨rfl, rfl⟩)))
    go_ret
    exact ⟨ret_bool (by simp), by first | exact ⟨_, rfl⟩ | exact ⟨_, by simp only [World.drewN_drewN]; rfl⟩ | exact ⟨0, rfl⟩⟩
  have S2 := Lib.hid s2
  obtain ⟨a, b, p, o, ha, hb, rfl, rfl, hp, c0, c1⟩ := stOk_t s1 H1.out
  obtain ⟨c, d, p2, o2, hc, hd, rfl, rfl, hp2, c2, c3⟩ := stOk_t s2 H2.out
  have hok := k1
  clear s1 s2 k1 hp hp2
  simp only [List.length_cons, List.length_nil, Nat.zero_add, Nat.reduceAdd, List.getD_cons_zero, List.getD_cons_succ, Int.toNat_natCast]
  have G1 : Hid (∀ w1 : World, Below w.heap.size w w1 → Calls Try.prog 54 #[.slice (some ⟨p, o, none⟩) 2 e1] w1 fun e w' => e = .returned (.bool true) ∧ w1 = w') := fun w1 hb1 => implSt_any _ e1 [(a : Int), (b : Int)] w1 hm1 (H1.out.later hb1) S1.out
  have G2 : Hid (∀ w1 : World, Below w.heap.size w w1 → Calls Try.prog 54 #[.slice (some ⟨p2, o2, none⟩) 2 e2] w1 fun e w' => e = .returned (.bool true) ∧ w1 = w') := fun w1 hb1 => implSt_any _ e2 [(c : Int), (d : Int)] w1 hm2 (H2.out.later hb1) S2.out
  go_enter Try.func31, Try.ntmps31
  go_wp2_with (first | (go_at_call 14; ((with_reducible refine (implVt_is A e0 T _ hn (H.out.laterT (by repeat' first | exact gr_refl _ | with_reducible assumption | with_reducible apply gr_alloc | with_reducible apply gr_set | with_reducible apply gr_drew | with_reducible apply gr_drewN | exact Nat.le_add_right _ _ | exact Nat.le_refl _ | (refine gr_then (by with_reducible assumption) ?_))) HBS.out K1.out).mono ?_); rintro e w1 ⟨rfl, rfl⟩)) | (go_at_call 54; first | ((with_reducible refine (G1.out _ (by repeat' first | exact gr_refl _ | with_reducible assumption | with_reducible apply gr_alloc | with_reducible apply gr_set | with_reducible apply gr_drew | with_reducible apply gr_drewN | exact Nat.le_add_right _ _ | exact Nat.le_refl _ | (refine gr_then (by with_reducible assumption) ?_))).mono ?_); rintro e w1 ⟨rfl, rfl⟩) | ((with_reducible refine (G2.out _ (by repeat' first | exact gr_refl _ | with_reducible assumption | with_reducible apply gr_alloc | with_reducible apply gr_set | with_reducible apply gr_drew | with_reducible apply gr_drewN | exact Nat.le_add_right _ _ | exact Nat.le_refl _ | (refine gr_then (by with_reducible assumption) ?_))).mono ?_); rintro e w1 ⟨rfl, rfl⟩)) | (go_at_call 55; (with_reducible refine (allowed_any A e0 T _ hok (H.out.laterT (by repeat' first | exact gr_refl _ | with_reducible assumption | with_reducible apply gr_alloc | with_reducible apply gr_set | with_reducible apply gr_drew | with_reducible apply gr_drewN | exact Nat.le_add_right _ _ | exact Nat.le_refl _ | (refine gr_then (by with_reducible assumption) ?_))) a b c d ha hb hc hd p o e1 p2 o2 e2 (keepcM (by repeat' first | exact gr_refl _ | with_reducible assumption | with_reducible apply gr_alloc | with_reducible apply gr_set | with_reducible apply gr_drew | with_reducible apply gr_drewN | exact Nat.le_add_right _ _ | exact Nat.le_refl _ | (refine gr_then (by with_reducible assumption) ?_)) c0) (keepcM (by repeat' first | exact gr_refl _ | with_reducible assumption | with_reducible apply gr_alloc | with_reducible apply gr_set | with_reducible apply gr_drew | with_reducible apply gr_drewN | exact Nat.le_add_right _ _ | exact Nat.le_refl _ | (refine gr_then (by with_reducible assumption) ?_)) c1) (keepcM (by repeat' first | exact gr_refl _ | with_reducible assumption | with_reducible apply gr_alloc | with_reducible apply gr_set | with_reducible apply gr_drew | with_reducible apply gr_drewN | exact Nat.le_add_right _ _ | exact Nat.le_refl _ | (refine gr_then (by with_reducible assumption) ?_)) c2) (keepcM (by repeat' first | exact gr_refl _ | with_reducible assumption | with_reducible apply gr_alloc | with_reducible apply gr_set | with_reducible apply gr_drew | with_reducible apply gr_drewN | exact Nat.le_add_right _ _ | exact Nat.le_refl _ | (refine gr_then (by with_reducible assumption) ?_)) c3)).mono ?_); rintro e w1 ⟨rfl, q, rfl⟩))
  go_ret
  exact ⟨ret_bool (by rw [step_eq]; simp), by first | exact ⟨_, rfl⟩ | exact ⟨_, by simp only [World.drewN_drewN]; rfl⟩ | exact ⟨0, rfl⟩⟩
end Go.Proofs.Ytmgbbkglafnibaa
