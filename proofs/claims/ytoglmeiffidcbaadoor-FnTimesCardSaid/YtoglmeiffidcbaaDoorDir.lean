/- The direction that points to a place best, both sides. -/
import Derived.Test.YtoglmeiffidcbaaDoorDirP
import Derived.Test.YtoglmeiffidcbaaDoorCrn
import Derived.BigQuiet
namespace Go.Proofs.YtoglmeiffidcbaaDoor
open Go.RowKit Go.Deep
set_option maxHeartbeats 8000000 in
set_option maxRecDepth 20000 in
theorem to02_any (a b c d : Int) (w : World) (hu : -400000 ≤ c - a ∧ c - a ≤ 400000) (hv : -400000 ≤ d - b ∧ d - b ≤ 400000) : Calls Tryd.prog 80 #[.agg #[.int .i64 a, .int .i64 b], .agg #[.int .i64 c, .int .i64 d]] w fun e w' => e = .returned (.int .i64 ((dirN (c - a) (d - b) : Nat) : Int)) ∧ Below w.heap.size w w' := by
  have HX0 := Lib.hid (show Box2 ((w.alloc (.cells #[.int .i64 a, .int .i64 b] 35)).alloc (.cells #[.int .i64 c, .int .i64 d] 35)) (w.heap.size) 35 (.int .i64 a) (.int .i64 b) by have h := (Box2.new (w) 35 (.int .i64 a) (.int .i64 b)).late (gr_alloc (o := .cells #[.int .i64 c, .int .i64 d] 35) (gr_refl _)); (try simp only [World.size_alloc] at h); exact h)
  have q0_0 := HX0.out.c0
  have q0_1 := HX0.out.c1
  have HX1 := Lib.hid (show Box2 ((w.alloc (.cells #[.int .i64 a, .int .i64 b] 35)).alloc (.cells #[.int .i64 c, .int .i64 d] 35)) (w.heap.size + 1) 35 (.int .i64 c) (.int .i64 d) by have h := Box2.new (w.alloc (.cells #[.int .i64 a, .int .i64 b] 35)) 35 (.int .i64 c) (.int .i64 d); (try simp only [World.size_alloc] at h); exact h)
  have q1_0 := HX1.out.c0
  have q1_1 := HX1.out.c1
  have HB := Lib.hid (show Below w.heap.size w ((w.alloc (.cells #[.int .i64 a, .int .i64 b] 35)).alloc (.cells #[.int .i64 c, .int .i64 d] 35)) by repeat' first | exact gr_refl _ | with_reducible assumption | with_reducible apply gr_alloc | with_reducible apply gr_set | with_reducible apply gr_drew | with_reducible apply gr_drewN | exact Nat.le_add_right _ _ | exact Nat.le_refl _ | (refine gr_then (by with_reducible assumption) ?_))
  have hz : w.heap.size + 2 ≤ ((w.alloc (.cells #[.int .i64 a, .int .i64 b] 35)).alloc (.cells #[.int .i64 c, .int .i64 d] 35)).heap.size := by simp
  go_enter Tryd.func80, Tryd.ntmps80
  go_wp2_with fail
  generalize (w.alloc (.cells #[.int .i64 a, .int .i64 b] 35)).alloc (.cells #[.int .i64 c, .int .i64 d] 35) = v0 at *
  clear q0_0 q0_1 q1_0 q1_1
  go_loopw [5, 6, 7] (fun bv mv dv wr => ∃ (k : Nat) (m : Int), k ≤ 24 ∧ dv = .int .i64 (k : Int) ∧ bv = .int .i64 ((bstD (c - a) (d - b) k : Nat) : Int) ∧ mv = .int .i64 m ∧ (-800000000 ≤ m ∧ m ≤ 800000000) ∧ Hid (0 < k → m = prdD (c - a) (d - b) (bstD (c - a) (d - b) k)) ∧ Hid (Box2 wr w.heap.size 35 (.int .i64 a) (.int .i64 b)) ∧ Hid (Box2 wr (w.heap.size + 1) 35 (.int .i64 c) (.int .i64 d)) ∧ Hid (Below w.heap.size w wr)) (fun _ _ dv _ => 24 - (intOf dv).toNat)
  case atStart => exact ⟨0, 0, by omega, rfl, rfl, rfl, by omega, fun h9 => by omega, HX0.out, HX1.out, HB.out⟩
  case round =>
    obtain ⟨k, m, hk, rfl, rfl, rfl, hm, HM, HA, HC, HW⟩ := hrel
    by_cases hlt : k < 24
    case neg =>
      have HE := Lib.hid (show bstD (c - a) (d - b) k = dirN (c - a) (d - b) by rw [show k = 24 by omega]; rfl)
      have hd : decide ((k : Int) < 24) = false := decide_eq_false (by omega)
      go_wp2_with fail
      go_returns
      exact ⟨ret_int (by rw [HE.out]), HW.out⟩
    have hd : decide ((k : Int) < 24) = true := decide_eq_true (by omega)
    have HPB := prd_bd hu hv k
    obtain ⟨x, hx⟩ : ∃ q, vX k = q := ⟨_, rfl⟩
    obtain ⟨y, hy⟩ : ∃ q, vY k = q := ⟨_, rfl⟩
    have HP := Lib.hid (show x * (c - a) + y * (d - b) = prdD (c - a) (d - b) k by rw [← hx, ← hy]; rfl)
    rw [hx, hy] at HPB
    obtain ⟨p1, p2, p3⟩ := HPB
    rw [← HP.out] at p3
    have HXX := Lib.hid hx
    have HYY := Lib.hid hy
    clear hx hy
    go_wp2_with fail
    go_at_call 86
    (with_reducible refine (specVec_any k _ (by omega)).mono ?_)
    rw [HXX.out, HYY.out]
    rintro e w1 ⟨rfl, hb⟩
    have hz1 := hb.size
    have hb2 : Below wr.heap.size wr (w1.alloc (.cells #[.int .i64 x, .int .i64 y] 35)) := gr_alloc hb
    have HA1 := Lib.hid (HA.out.late hb2)
    have HC1 := Lib.hid (HC.out.late hb2)
    have HW1 := Lib.hid (gr_then hb2 HW.out)
    clear hb hb2
    have a0 := HA1.out.c0
    have a1 := HA1.out.c1
    have c0 := HC1.out.c0
    have c1 := HC1.out.c1
    rcases Nat.eq_zero_or_pos k with h0 | h0
    · have HK := Lib.hid h0
      have hk1 : ((k : Int) == 0) = true := by rw [HK.out]; rfl
      have HB1 := Lib.hid (show bstD (c - a) (d - b) (k + 1) = k by rw [HK.out]; exact bstD_1 _ _)
      clear h0
      go_wp2_with fail
      go_roundw
      case rel => exact ⟨k + 1, _, by omega, by go_num, by rw [HB1.out], rfl, p3, fun _ => by rw [HB1.out]; exact HP.out, HA1.out, HC1.out, HW1.out⟩
      case measure => simp [intOf]; omega
    have hk1 : ((k : Int) == 0) = false := by rw [beq_eq_false_iff_ne]; omega
    have HMM := Lib.hid (HM.out h0)
    clear HM
    by_cases hgt : m < x * (c - a) + y * (d - b)
    · have hd2 := decide_eq_true hgt
      have HB1 := Lib.hid (show bstD (c - a) (d - b) (k + 1) = k from bstD_y (by rw [← HMM.out, ← HP.out]; exact hgt))
      go_wp2_with fail
      go_roundw
      case rel => exact ⟨k + 1, _, by omega, by go_num, by rw [HB1.out], rfl, p3, fun _ => by rw [HB1.out]; exact HP.out, HA1.out, HC1.out, HW1.out⟩
      case measure => simp [intOf]; omega
    · have hd2 := decide_eq_false hgt
      have HB1 := Lib.hid (show bstD (c - a) (d - b) (k + 1) = bstD (c - a) (d - b) k from bstD_n (by rw [← HMM.out, ← HP.out]; exact hgt))
      go_wp2_with fail
      go_roundw
      case rel => exact ⟨k + 1, m, by omega, by go_num, by rw [HB1.out], rfl, hm, fun _ => by rw [HB1.out]; exact HMM.out, HA1.out, HC1.out, HW1.out⟩
      case measure => simp [intOf]; omega
set_option maxHeartbeats 2000000 in
set_option maxRecDepth 20000 in
theorem dir09_any (a b c d : Int) (w : World) (hu : -400000 ≤ c - a ∧ c - a ≤ 400000) (hv : -400000 ≤ d - b ∧ d - b ≤ 400000) : Calls Tryd.prog 59 #[.agg #[.int .i64 a, .int .i64 b], .agg #[.int .i64 c, .int .i64 d]] w fun e w' => e = .returned (.int .i64 ((dirN (c - a) (d - b) : Nat) : Int)) ∧ Below w.heap.size w w' := by
  obtain ⟨D, hD⟩ : ∃ q, dirN (c - a) (d - b) = q := ⟨_, rfl⟩
  have HT : Hid (∀ w : World, Calls Tryd.prog 80 #[.agg #[.int .i64 a, .int .i64 b], .agg #[.int .i64 c, .int .i64 d]] w fun e w' => e = .returned (.int .i64 ((D : Nat) : Int)) ∧ Below w.heap.size w w') := fun w => by have h9 := to02_any a b c d w hu hv; rw [hD] at h9; exact h9
  rw [hD]
  clear hu hv
  by_cases h1 : a = c ∧ b = d
  · have HD0 := Lib.hid (show D = 0 by rw [← hD, h1.1, h1.2, Int.sub_self, Int.sub_self]; exact dirN_zero)
    clear hD HT
    obtain ⟨rfl, rfl⟩ := h1
    go_enter Tryd.func59, Tryd.ntmps59; go_wp2; go_returns
    exact ⟨ret_int (by rw [HD0.out]; rfl), by repeat' first | exact gr_refl _ | with_reducible assumption | with_reducible apply gr_alloc | with_reducible apply gr_set | with_reducible apply gr_drew | with_reducible apply gr_drewN | exact Nat.le_add_right _ _ | exact Nat.le_refl _ | (refine gr_then (by with_reducible assumption) ?_)⟩
  clear hD
  by_cases h2 : a = c
  · have h3 : ¬ b = d := fun h9 => h1 ⟨h2, h9⟩
    subst h2
    have e1 : (b == d) = false := beq_eq_false_iff_ne.2 h3
    have e2 : decide (b = d) = false := decide_eq_false h3
    clear h1
    go_enter Tryd.func59, Tryd.ntmps59; go_wp2_with fail
    go_at_call 80
    (with_reducible refine (HT.out _).mono ?_)
    rintro e w1 ⟨rfl, hb⟩
    go_wp2
    go_returns
    exact ⟨rfl, gr_then hb (by repeat' first | exact gr_refl _ | with_reducible assumption | with_reducible apply gr_alloc | with_reducible apply gr_set | with_reducible apply gr_drew | with_reducible apply gr_drewN | exact Nat.le_add_right _ _ | exact Nat.le_refl _ | (refine gr_then (by with_reducible assumption) ?_))⟩
  · have e1 : (a == c) = false := beq_eq_false_iff_ne.2 h2
    have e2 : decide (a = c) = false := decide_eq_false h2
    clear h1
    go_enter Tryd.func59, Tryd.ntmps59; go_wp2_with fail
    go_at_call 80
    (with_reducible refine (HT.out _).mono ?_)
    rintro e w1 ⟨rfl, hb⟩
    go_wp2
    go_returns
    exact ⟨rfl, gr_then hb (by repeat' first | exact gr_refl _ | with_reducible assumption | with_reducible apply gr_alloc | with_reducible apply gr_set | with_reducible apply gr_drew | with_reducible apply gr_drewN | exact Nat.le_add_right _ _ | exact Nat.le_refl _ | (refine gr_then (by with_reducible assumption) ?_))⟩
set_option maxHeartbeats 2000000 in
set_option maxRecDepth 20000 in
theorem prd_any (a b c d : Int) (g0 g1 k : Nat) (w : World) (hk : k ≤ 23) (hu : -400000 ≤ c - a ∧ c - a ≤ 400000) (hv : -400000 ≤ d - b ∧ d - b ≤ 400000) (hQ : Quar w) (h0 : Box2 w g0 35 (.int .i64 a) (.int .i64 b)) (h1 : Box2 w g1 35 (.int .i64 c) (.int .i64 d)) : Calls Tryd.prog 92 #[.int .i64 (k : Int), .pointer (some ⟨g1, 0, none⟩), .pointer (some ⟨g0, 0, none⟩)] w fun e w' => e = .returned (.int .i64 (prdD (c - a) (d - b) k)) ∧ Below w.heap.size w w' := by
  have H0 := Lib.hid h0
  have H1 := Lib.hid h1
  have HQ := Lib.hid hQ
  clear h0 h1 hQ
  have HPB := prd_bd hu hv k
  obtain ⟨x, hx⟩ : ∃ q, vX k = q := ⟨_, rfl⟩
  obtain ⟨y, hy⟩ : ∃ q, vY k = q := ⟨_, rfl⟩
  have HP := Lib.hid (show prdD (c - a) (d - b) k = x * (c - a) + y * (d - b) by rw [← hx, ← hy]; rfl)
  rw [hx, hy] at HPB
  obtain ⟨p1, p2, p3⟩ := HPB
  rw [HP.out] at p3 ⊢
  have HXX := Lib.hid hx
  have HYY := Lib.hid hy
  clear hx hy
  go_enter Tryd.func92, Tryd.ntmps92; go_wp2_with fail
  go_at_call 93
  (with_reducible refine (implVec_any k _ hk HQ.out).mono ?_)
  rw [HXX.out, HYY.out]
  rintro e w1 ⟨rfl, hb⟩
  have hb2 : Below w.heap.size w (w1.alloc (.cells #[.int .i64 x, .int .i64 y] 35)) := gr_alloc hb
  have HA1 := Lib.hid (H0.out.late hb2)
  have HC1 := Lib.hid (H1.out.late hb2)
  have HW := Lib.hid hb2
  clear hb hb2
  have a0 := HA1.out.c0
  have a1 := HA1.out.c1
  have c0 := HC1.out.c0
  have c1 := HC1.out.c1
  go_wp2
  go_returns
  exact ⟨rfl, HW.out⟩
def eqPC (a b c d : Int) : Int := if a = c ∧ b = d then 6 else 0
set_option maxHeartbeats 8000000 in
set_option maxRecDepth 20000 in
theorem dirTo_any (a b c d : Int) (w : World) (ha : okPl a b = true) (hc : okPl c d = true) (hQ : Quar w) : Calls Tryd.prog 81 #[.agg #[.int .i64 a, .int .i64 b], .agg #[.int .i64 c, .int .i64 d]] w fun e w' => e = .returned (.tuple #[.int .i64 ((dirN (c - a) (d - b) : Nat) : Int), .int .i64 (eqPC a b c d)]) ∧ Below w.heap.size w w' := by
  have hmf : ∀ (fn : Fn) (first cap : Array Value) (w : World), (Instr.makeFunc fn first cap).run Tryd.prog w = .ok (.func fn first cap) w := fun _ _ _ _ => rfl
  have b1 := okPl_t ha
  have b2 := okPl_t hc
  have hu : -400000 ≤ c - a ∧ c - a ≤ 400000 := by omega
  have hv : -400000 ≤ d - b ∧ d - b ≤ 400000 := by omega
  have HKA := Lib.hid ha
  have HKC := Lib.hid hc
  clear ha hc b1 b2
  obtain ⟨D, hD⟩ : ∃ q, dirN (c - a) (d - b) = q := ⟨_, rfl⟩
  rw [hD]
  have HD := Lib.hid hD
  clear hD
  by_cases he : a = c ∧ b = d
  · have HE := Lib.hid (show eqPC a b c d = 6 from if_pos he)
    have HD0 := Lib.hid (show D = 0 by rw [← HD.out, he.1, he.2, Int.sub_self, Int.sub_self]; exact dirN_zero)
    clear HD
    rw [HE.out, HD0.out]
    have e1 : (a == c) = true := by rw [he.1]; exact beq_self_eq_true c
    have e2 : decide (a = c) = true := decide_eq_true he.1
    have e3 : (b == d) = true := by rw [he.2]; exact beq_self_eq_true d
    have e4 : decide (b = d) = true := decide_eq_true he.2
    clear he hu hv HE HD0
    have HX0 := Lib.hid (show Box2 ((w.alloc (.cells #[.int .i64 a, .int .i64 b] 35)).alloc (.cells #[.int .i64 c, .int .i64 d] 35)) (w.heap.size) 35 (.int .i64 a) (.int .i64 b) by have h := (Box2.new (w) 35 (.int .i64 a) (.int .i64 b)).late (gr_alloc (o := .cells #[.int .i64 c, .int .i64 d] 35) (gr_refl _)); (try simp only [World.size_alloc] at h); exact h)
    have q0_0 := HX0.out.c0
    have q0_1 := HX0.out.c1
    have HX1 := Lib.hid (show Box2 ((w.alloc (.cells #[.int .i64 a, .int .i64 b] 35)).alloc (.cells #[.int .i64 c, .int .i64 d] 35)) (w.heap.size + 1) 35 (.int .i64 c) (.int .i64 d) by have h := Box2.new (w.alloc (.cells #[.int .i64 a, .int .i64 b] 35)) 35 (.int .i64 c) (.int .i64 d); (try simp only [World.size_alloc] at h); exact h)
    have q1_0 := HX1.out.c0
    have q1_1 := HX1.out.c1
    have HB := Lib.hid (show Below w.heap.size w ((w.alloc (.cells #[.int .i64 a, .int .i64 b] 35)).alloc (.cells #[.int .i64 c, .int .i64 d] 35)) by repeat' first | exact gr_refl _ | with_reducible assumption | with_reducible apply gr_alloc | with_reducible apply gr_set | with_reducible apply gr_drew | with_reducible apply gr_drewN | exact Nat.le_add_right _ _ | exact Nat.le_refl _ | (refine gr_then (by with_reducible assumption) ?_))
    have hz : w.heap.size + 2 ≤ ((w.alloc (.cells #[.int .i64 a, .int .i64 b] 35)).alloc (.cells #[.int .i64 c, .int .i64 d] 35)).heap.size := by simp
    have HQ := Lib.hid (hQ.late HB.out)
    clear hQ
    go_enter Tryd.func81, Tryd.ntmps81; go_wp2_with fail
    generalize (w.alloc (.cells #[.int .i64 a, .int .i64 b] 35)).alloc (.cells #[.int .i64 c, .int .i64 d] 35) = v0 at *
    go_at_call 39
    (with_reducible refine (validPl_is HKA.out _).mono ?_)
    rintro e u1 ⟨rfl, hb⟩
    have hy1 := hb.size
    replace q0_0 := keepc hb q0_0
    replace q0_1 := keepc hb q0_1
    replace q1_0 := keepc hb q1_0
    replace q1_1 := keepc hb q1_1
    replace HX0 := Lib.hid (HX0.out.late hb)
    replace HX1 := Lib.hid (HX1.out.late hb)
    replace HQ := Lib.hid (HQ.out.late hb)
    replace HB := Lib.hid (gr_then hb HB.out)
    clear hb
    go_wp2_with fail
    go_at_call 39
    (with_reducible refine (validPl_is HKC.out _).mono ?_)
    rintro e u2 ⟨rfl, hb⟩
    have hy2 := hb.size
    replace q0_0 := keepc hb q0_0
    replace q0_1 := keepc hb q0_1
    replace q1_0 := keepc hb q1_0
    replace q1_1 := keepc hb q1_1
    replace HX0 := Lib.hid (HX0.out.late hb)
    replace HX1 := Lib.hid (HX1.out.late hb)
    replace HQ := Lib.hid (HQ.out.late hb)
    replace HB := Lib.hid (gr_then hb HB.out)
    clear hb
    go_wp2
    go_returns
    exact ⟨rfl, HB.out⟩
  have HE := Lib.hid (show eqPC a b c d = 0 from if_neg he)
  rw [HE.out]
  obtain ⟨u, eu⟩ : ∃ q, c - a = q := ⟨_, rfl⟩
  obtain ⟨v, ev⟩ : ∃ q, d - b = q := ⟨_, rfl⟩
  have HF : Hid (∀ (k : Nat) (w' : World), k ≤ 23 → Quar w' → Box2 w' w.heap.size 35 (.int .i64 a) (.int .i64 b) → Box2 w' (w.heap.size + 1) 35 (.int .i64 c) (.int .i64 d) → Calls Tryd.prog 92 #[.int .i64 (k : Int), .pointer (some ⟨w.heap.size + 1, 0, none⟩), .pointer (some ⟨w.heap.size, 0, none⟩)] w' fun e w'' => e = .returned (.int .i64 (prdD u v k)) ∧ Below w'.heap.size w' w'') := fun k w' hk hq h0 h1 => by rw [← eu, ← ev]; exact prd_any a b c d _ _ k w' hk hu hv hq h0 h1
  have HBD : Hid (∀ k, -800000000 ≤ prdD u v k ∧ prdD u v k ≤ 800000000) := fun k => by rw [← eu, ← ev]; exact (prd_bd hu hv k).2.2
  rw [eu, ev] at HD
  clear eu ev hu hv HE
  by_cases h2 : a = c
  · have h3 : ¬ b = d := fun h9 => he ⟨h2, h9⟩
    have e1 : (b == d) = false := beq_eq_false_iff_ne.2 h3
    have e2 : decide (b = d) = false := decide_eq_false h3
    have e3 : (a == c) = true := by rw [h2]; exact beq_self_eq_true c
    have e4 : decide (a = c) = true := decide_eq_true h2
    clear he h3 h2
    have HX0 := Lib.hid (show Box2 ((w.alloc (.cells #[.int .i64 a, .int .i64 b] 35)).alloc (.cells #[.int .i64 c, .int .i64 d] 35)) (w.heap.size) 35 (.int .i64 a) (.int .i64 b) by have h := (Box2.new (w) 35 (.int .i64 a) (.int .i64 b)).late (gr_alloc (o := .cells #[.int .i64 c, .int .i64 d] 35) (gr_refl _)); (try simp only [World.size_alloc] at h); exact h)
    have q0_0 := HX0.out.c0
    have q0_1 := HX0.out.c1
    have HX1 := Lib.hid (show Box2 ((w.alloc (.cells #[.int .i64 a, .int .i64 b] 35)).alloc (.cells #[.int .i64 c, .int .i64 d] 35)) (w.heap.size + 1) 35 (.int .i64 c) (.int .i64 d) by have h := Box2.new (w.alloc (.cells #[.int .i64 a, .int .i64 b] 35)) 35 (.int .i64 c) (.int .i64 d); (try simp only [World.size_alloc] at h); exact h)
    have q1_0 := HX1.out.c0
    have q1_1 := HX1.out.c1
    have HB := Lib.hid (show Below w.heap.size w ((w.alloc (.cells #[.int .i64 a, .int .i64 b] 35)).alloc (.cells #[.int .i64 c, .int .i64 d] 35)) by repeat' first | exact gr_refl _ | with_reducible assumption | with_reducible apply gr_alloc | with_reducible apply gr_set | with_reducible apply gr_drew | with_reducible apply gr_drewN | exact Nat.le_add_right _ _ | exact Nat.le_refl _ | (refine gr_then (by with_reducible assumption) ?_))
    have hz : w.heap.size + 2 ≤ ((w.alloc (.cells #[.int .i64 a, .int .i64 b] 35)).alloc (.cells #[.int .i64 c, .int .i64 d] 35)).heap.size := by simp
    have HQ := Lib.hid (hQ.late HB.out)
    clear hQ
    go_enter Tryd.func81, Tryd.ntmps81; go_wp2_with fail
    generalize (w.alloc (.cells #[.int .i64 a, .int .i64 b] 35)).alloc (.cells #[.int .i64 c, .int .i64 d] 35) = v0 at *
    go_at_call 39
    (with_reducible refine (validPl_is HKA.out _).mono ?_)
    rintro e u1 ⟨rfl, hb⟩
    have hy1 := hb.size
    replace q0_0 := keepc hb q0_0
    replace q0_1 := keepc hb q0_1
    replace q1_0 := keepc hb q1_0
    replace q1_1 := keepc hb q1_1
    replace HX0 := Lib.hid (HX0.out.late hb)
    replace HX1 := Lib.hid (HX1.out.late hb)
    replace HQ := Lib.hid (HQ.out.late hb)
    replace HB := Lib.hid (gr_then hb HB.out)
    clear hb
    go_wp2_with fail
    go_at_call 39
    (with_reducible refine (validPl_is HKC.out _).mono ?_)
    rintro e u2 ⟨rfl, hb⟩
    have hy2 := hb.size
    replace q0_0 := keepc hb q0_0
    replace q0_1 := keepc hb q0_1
    replace q1_0 := keepc hb q1_0
    replace q1_1 := keepc hb q1_1
    replace HX0 := Lib.hid (HX0.out.late hb)
    replace HX1 := Lib.hid (HX1.out.late hb)
    replace HQ := Lib.hid (HQ.out.late hb)
    replace HB := Lib.hid (gr_then hb HB.out)
    clear hb
    go_wp2_with fail
    clear e1 e2 e3 e4
    clear q0_0 q0_1 q1_0 q1_1
    go_loopw [7, 23] (fun bv dv wr => ∃ k : Nat, k ≤ 24 ∧ dv = .int .i64 (k : Int) ∧ bv = .int .i64 ((bstD u v k : Nat) : Int) ∧ Hid (Box2 wr w.heap.size 35 (.int .i64 a) (.int .i64 b)) ∧ Hid (Box2 wr (w.heap.size + 1) 35 (.int .i64 c) (.int .i64 d)) ∧ Hid (Quar wr) ∧ Hid (Below w.heap.size w wr)) (fun _ dv _ => 24 - (intOf dv).toNat)
    case atStart => exact ⟨0, by omega, rfl, rfl, HX0.out, HX1.out, HQ.out, HB.out⟩
    case round =>
      obtain ⟨k, hk, rfl, rfl, HA, HC, HQ2, HW⟩ := hrel
      by_cases hlt : k < 24
      case neg =>
        have HE2 := Lib.hid (show bstD u v k = D by rw [show k = 24 by omega]; exact HD.out)
        have hd : decide ((k : Int) < 24) = false := decide_eq_false (by omega)
        go_wp2_with fail
        go_returns
        exact ⟨by rw [HE2.out]; rfl, HW.out⟩
      have hd : decide ((k : Int) < 24) = true := decide_eq_true (by omega)
      have hbk := bstD_le u v k hk
      obtain ⟨j, hj⟩ : ∃ q, bstD u v k = q := ⟨_, rfl⟩
      have HJ := Lib.hid hj
      rw [hj] at hbk ⊢
      clear hj
      obtain ⟨N1, e1⟩ : ∃ q, prdD u v k = q := ⟨_, rfl⟩
      obtain ⟨N2, e2⟩ : ∃ q, prdD u v j = q := ⟨_, rfl⟩
      have HN1 := Lib.hid e1
      have HN2 := Lib.hid e2
      have y1 := HBD.out k
      have y2 := HBD.out j
      rw [e1] at y1
      rw [e2] at y2
      clear e1 e2
      go_wp2_with fail
      go_at_call 92
      (with_reducible refine (HF.out k _ (by omega) HQ2.out HA.out HC.out).mono ?_)
      rw [HN1.out]
      rintro e x1 ⟨rfl, hb⟩
      have HA1 := Lib.hid (HA.out.late hb)
      have HC1 := Lib.hid (HC.out.late hb)
      have HQ3 := Lib.hid (HQ2.out.late hb)
      have HW1 := Lib.hid (gr_then hb HW.out)
      clear hb
      go_wp2_with fail
      go_at_call 92
      (with_reducible refine (HF.out j _ hbk HQ3.out HA1.out HC1.out).mono ?_)
      rw [HN2.out]
      rintro e x2 ⟨rfl, hb⟩
      have HA2 := Lib.hid (HA1.out.late hb)
      have HC2 := Lib.hid (HC1.out.late hb)
      have HQ4 := Lib.hid (HQ3.out.late hb)
      have HW2 := Lib.hid (gr_then hb HW1.out)
      clear hb
      by_cases hgt : N2 < N1
      · have hd2 := decide_eq_true hgt
        have HB1 := Lib.hid (show bstD u v (k + 1) = k from bstD_y (by rw [HJ.out, HN1.out, HN2.out]; exact hgt))
        go_wp2_with fail
        go_roundw
        case rel => exact ⟨k + 1, by omega, by go_num, by rw [HB1.out], HA2.out, HC2.out, HQ4.out, HW2.out⟩
        case measure => simp [intOf]; omega
      · have hd2 := decide_eq_false hgt
        have HB1 := Lib.hid (show bstD u v (k + 1) = j from (bstD_n (by rw [HJ.out, HN1.out, HN2.out]; exact hgt)).trans HJ.out)
        go_wp2_with fail
        go_roundw
        case rel => exact ⟨k + 1, by omega, by go_num, by rw [HB1.out], HA2.out, HC2.out, HQ4.out, HW2.out⟩
        case measure => simp [intOf]; omega
  · have e1 : (a == c) = false := beq_eq_false_iff_ne.2 h2
    have e2 : decide (a = c) = false := decide_eq_false h2
    clear he h2
    have HX0 := Lib.hid (show Box2 ((w.alloc (.cells #[.int .i64 a, .int .i64 b] 35)).alloc (.cells #[.int .i64 c, .int .i64 d] 35)) (w.heap.size) 35 (.int .i64 a) (.int .i64 b) by have h := (Box2.new (w) 35 (.int .i64 a) (.int .i64 b)).late (gr_alloc (o := .cells #[.int .i64 c, .int .i64 d] 35) (gr_refl _)); (try simp only [World.size_alloc] at h); exact h)
    have q0_0 := HX0.out.c0
    have q0_1 := HX0.out.c1
    have HX1 := Lib.hid (show Box2 ((w.alloc (.cells #[.int .i64 a, .int .i64 b] 35)).alloc (.cells #[.int .i64 c, .int .i64 d] 35)) (w.heap.size + 1) 35 (.int .i64 c) (.int .i64 d) by have h := Box2.new (w.alloc (.cells #[.int .i64 a, .int .i64 b] 35)) 35 (.int .i64 c) (.int .i64 d); (try simp only [World.size_alloc] at h); exact h)
    have q1_0 := HX1.out.c0
    have q1_1 := HX1.out.c1
    have HB := Lib.hid (show Below w.heap.size w ((w.alloc (.cells #[.int .i64 a, .int .i64 b] 35)).alloc (.cells #[.int .i64 c, .int .i64 d] 35)) by repeat' first | exact gr_refl _ | with_reducible assumption | with_reducible apply gr_alloc | with_reducible apply gr_set | with_reducible apply gr_drew | with_reducible apply gr_drewN | exact Nat.le_add_right _ _ | exact Nat.le_refl _ | (refine gr_then (by with_reducible assumption) ?_))
    have hz : w.heap.size + 2 ≤ ((w.alloc (.cells #[.int .i64 a, .int .i64 b] 35)).alloc (.cells #[.int .i64 c, .int .i64 d] 35)).heap.size := by simp
    have HQ := Lib.hid (hQ.late HB.out)
    clear hQ
    go_enter Tryd.func81, Tryd.ntmps81; go_wp2_with fail
    generalize (w.alloc (.cells #[.int .i64 a, .int .i64 b] 35)).alloc (.cells #[.int .i64 c, .int .i64 d] 35) = v0 at *
    go_at_call 39
    (with_reducible refine (validPl_is HKA.out _).mono ?_)
    rintro e u1 ⟨rfl, hb⟩
    have hy1 := hb.size
    replace q0_0 := keepc hb q0_0
    replace q0_1 := keepc hb q0_1
    replace q1_0 := keepc hb q1_0
    replace q1_1 := keepc hb q1_1
    replace HX0 := Lib.hid (HX0.out.late hb)
    replace HX1 := Lib.hid (HX1.out.late hb)
    replace HQ := Lib.hid (HQ.out.late hb)
    replace HB := Lib.hid (gr_then hb HB.out)
    clear hb
    go_wp2_with fail
    go_at_call 39
    (with_reducible refine (validPl_is HKC.out _).mono ?_)
    rintro e u2 ⟨rfl, hb⟩
    have hy2 := hb.size
    replace q0_0 := keepc hb q0_0
    replace q0_1 := keepc hb q0_1
    replace q1_0 := keepc hb q1_0
    replace q1_1 := keepc hb q1_1
    replace HX0 := Lib.hid (HX0.out.late hb)
    replace HX1 := Lib.hid (HX1.out.late hb)
    replace HQ := Lib.hid (HQ.out.late hb)
    replace HB := Lib.hid (gr_then hb HB.out)
    clear hb
    go_wp2_with fail
    clear e1 e2
    clear q0_0 q0_1 q1_0 q1_1
    go_loopw [7, 23] (fun bv dv wr => ∃ k : Nat, k ≤ 24 ∧ dv = .int .i64 (k : Int) ∧ bv = .int .i64 ((bstD u v k : Nat) : Int) ∧ Hid (Box2 wr w.heap.size 35 (.int .i64 a) (.int .i64 b)) ∧ Hid (Box2 wr (w.heap.size + 1) 35 (.int .i64 c) (.int .i64 d)) ∧ Hid (Quar wr) ∧ Hid (Below w.heap.size w wr)) (fun _ dv _ => 24 - (intOf dv).toNat)
    case atStart => exact ⟨0, by omega, rfl, rfl, HX0.out, HX1.out, HQ.out, HB.out⟩
    case round =>
      obtain ⟨k, hk, rfl, rfl, HA, HC, HQ2, HW⟩ := hrel
      by_cases hlt : k < 24
      case neg =>
        have HE2 := Lib.hid (show bstD u v k = D by rw [show k = 24 by omega]; exact HD.out)
        have hd : decide ((k : Int) < 24) = false := decide_eq_false (by omega)
        go_wp2_with fail
        go_returns
        exact ⟨by rw [HE2.out]; rfl, HW.out⟩
      have hd : decide ((k : Int) < 24) = true := decide_eq_true (by omega)
      have hbk := bstD_le u v k hk
      obtain ⟨j, hj⟩ : ∃ q, bstD u v k = q := ⟨_, rfl⟩
      have HJ := Lib.hid hj
      rw [hj] at hbk ⊢
      clear hj
      obtain ⟨N1, e1⟩ : ∃ q, prdD u v k = q := ⟨_, rfl⟩
      obtain ⟨N2, e2⟩ : ∃ q, prdD u v j = q := ⟨_, rfl⟩
      have HN1 := Lib.hid e1
      have HN2 := Lib.hid e2
      have y1 := HBD.out k
      have y2 := HBD.out j
      rw [e1] at y1
      rw [e2] at y2
      clear e1 e2
      go_wp2_with fail
      go_at_call 92
      (with_reducible refine (HF.out k _ (by omega) HQ2.out HA.out HC.out).mono ?_)
      rw [HN1.out]
      rintro e x1 ⟨rfl, hb⟩
      have HA1 := Lib.hid (HA.out.late hb)
      have HC1 := Lib.hid (HC.out.late hb)
      have HQ3 := Lib.hid (HQ2.out.late hb)
      have HW1 := Lib.hid (gr_then hb HW.out)
      clear hb
      go_wp2_with fail
      go_at_call 92
      (with_reducible refine (HF.out j _ hbk HQ3.out HA1.out HC1.out).mono ?_)
      rw [HN2.out]
      rintro e x2 ⟨rfl, hb⟩
      have HA2 := Lib.hid (HA1.out.late hb)
      have HC2 := Lib.hid (HC1.out.late hb)
      have HQ4 := Lib.hid (HQ3.out.late hb)
      have HW2 := Lib.hid (gr_then hb HW1.out)
      clear hb
      by_cases hgt : N2 < N1
      · have hd2 := decide_eq_true hgt
        have HB1 := Lib.hid (show bstD u v (k + 1) = k from bstD_y (by rw [HJ.out, HN1.out, HN2.out]; exact hgt))
        go_wp2_with fail
        go_roundw
        case rel => exact ⟨k + 1, by omega, by go_num, by rw [HB1.out], HA2.out, HC2.out, HQ4.out, HW2.out⟩
        case measure => simp [intOf]; omega
      · have hd2 := decide_eq_false hgt
        have HB1 := Lib.hid (show bstD u v (k + 1) = j from (bstD_n (by rw [HJ.out, HN1.out, HN2.out]; exact hgt)).trans HJ.out)
        go_wp2_with fail
        go_roundw
        case rel => exact ⟨k + 1, by omega, by go_num, by rw [HB1.out], HA2.out, HC2.out, HQ4.out, HW2.out⟩
        case measure => simp [intOf]; omega
end Go.Proofs.YtoglmeiffidcbaaDoor
