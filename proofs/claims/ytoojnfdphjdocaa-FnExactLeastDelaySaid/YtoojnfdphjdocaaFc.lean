/- The first conflict of two motions. -/
import Derived.Test.YtoojnfdphjdocaaCell
import Derived.Test.YtoojnfdphjdocaaMotF
import Derived.Test.YtoojnfdphjdocaaApp
import Derived.Deep.RegionHeld3
namespace Go.Proofs.Ytoojnfdphjdocaa
open Go.RowKit
/-- the direction after k steps, as a place in a table -/
def dN (s : Int) (xs : List Int) (k : Nat) : Nat := (dirAt s xs (min k xs.length)).toNat
theorem dN_le {s : Int} (hs : 0 ≤ s ∧ s ≤ 23) (xs : List Int) (k : Nat) : dN s xs k ≤ 23 := by have := dirAt_bd hs xs (min k xs.length); unfold dN; omega
theorem dN_cast {s : Int} (hs : 0 ≤ s ∧ s ≤ 23) (xs : List Int) (k : Nat) : dirAt s xs (min k xs.length) = (dN s xs k : Int) := by have := dirAt_bd hs xs (min k xs.length); unfold dN; omega
def pF (T : List (List Bool)) (s : Int) (xs : List Int) (t : Int) (ys : List Int) : Nat → Bool
  | 0 => cellT T (dN s xs 0) (dN t ys 0)
  | k + 1 => clB T (dN s xs k) (dN t ys k) (dN s xs (k + 1)) (dN t ys (k + 1))
/-- the first number up to n with P; -1 if there is none -/
def fcV (P : Nat → Bool) (n : Nat) : Int := match (List.range (n + 1)).find? P with | some k => (k : Int) | none => -1
theorem fcV_hit {P : Nat → Bool} {n k : Nat} (hk : k ≤ n) (h : P k = true) (hl : ∀ j, j < k → P j = false) : fcV P n = k := by
  have : (List.range (n + 1)).find? P = some k := by
    rw [List.find?_range_eq_some]
    exact ⟨h, by simp; omega, fun j hj => by simp [hl j hj]⟩
  unfold fcV
  rw [this]
theorem fcV_none {P : Nat → Bool} {n : Nat} (h : ∀ j, j ≤ n → P j = false) : fcV P n = -1 := by
  have : (List.range (n + 1)).find? P = none := by
    rw [List.find?_eq_none]
    intro j hj
    simp at hj
    simp [h j (by omega)]
  unfold fcV
  rw [this]
def fcC (T : List (List Bool)) (s : Int) (xs : List Int) (t : Int) (ys : List Int) : Int := if okT T = false then 8 else if (okM s xs && okM t ys) = false then 1 else 0
def fcN (T : List (List Bool)) (s : Int) (xs : List Int) (t : Int) (ys : List Int) : Int := if fcC T s xs t ys = 0 then fcV (pF T s xs t ys) (max xs.length ys.length) else 0
theorem fc_bad {T : List (List Bool)} {s : Int} {xs : List Int} {t : Int} {ys : List Int} {k : Int} (h : fcC T s xs t ys = k) (hk : ¬ k = 0) : fcN T s xs t ys = 0 := by unfold fcN; rw [h, if_neg hk]
theorem fc_good {T : List (List Bool)} {s : Int} {xs : List Int} {t : Int} {ys : List Int} (h : fcC T s xs t ys = 0) : fcN T s xs t ys = fcV (pF T s xs t ys) (max xs.length ys.length) := by unfold fcN; rw [h, if_pos rfl]
set_option maxHeartbeats 4000000 in
set_option maxRecDepth 20000 in
theorem l16Code_any (b1 b2 : Nat) (T : List (List Bool)) (A A1 A2 : Option Addr) (e0 c1 c2 : Nat) (s t : Int) (xs ys : List Int) (w : World) (hT : T.length ≤ 1048576) (hx : xs.length ≤ 1048576) (hy : ys.length ≤ 1048576) (h : TB .bool w w.heap.size A T) (p0 : w.cell? ⟨b1, 0, none⟩ = some (.int .i64 s)) (p1 : w.cell? ⟨b1, 1, none⟩ = some (.slice A1 xs.length c1)) (p2 : w.cell? ⟨b2, 0, none⟩ = some (.int .i64 t)) (p3 : w.cell? ⟨b2, 1, none⟩ = some (.slice A2 ys.length c2)) (h1 : SV (.int .i64) w w.heap.size A1 xs) (h2 : SV (.int .i64) w w.heap.size A2 ys) : Calls Try.prog 76 #[.slice A T.length e0, .pointer (some ⟨b1, 0, none⟩), .pointer (some ⟨b2, 0, none⟩)] w fun e w' => e = .returned (.int .i64 (fcC T s xs t ys)) ∧ w = w' := by
  have H := Lib.hid h
  have H1 := Lib.hid h1
  have H2 := Lib.hid h2
  clear h h1 h2
  cases k0 : okT T
  · have K0 := Lib.hid k0; rw [show fcC T s xs t ys = 8 by simp [fcC, k0]]; clear k0; go_enter Try.func76, Try.ntmps76; go_wp2_with (first | (go_at_call 89; (with_reducible refine (l15Ok_is _ _ T _ hT H.out K0.out).mono ?_); rintro e w1 ⟨rfl, rfl⟩)); go_ret; exact ⟨rfl, rfl⟩
  have K0 := Lib.hid k0
  cases k1 : okM s xs
  · have K1 := Lib.hid k1; rw [show fcC T s xs t ys = 1 by simp [fcC, k0, k1]]; clear k0 k1; go_enter Try.func76, Try.ntmps76; go_wp2_with (first | (go_at_call 89; (with_reducible refine (l15Ok_is _ _ T _ hT H.out K0.out).mono ?_); rintro e w1 ⟨rfl, rfl⟩) | (go_at_call 49; ((with_reducible refine (ok_is (K := fun w w' => w = w') K1.out (l16Ok_any b1 s _ _ xs _ hx p0 p1 H1.out)).mono ?_); rintro e w1 ⟨rfl, rfl⟩))); go_ret; exact ⟨rfl, rfl⟩
  have K1 := Lib.hid k1
  cases k2 : okM t ys
  · have K2 := Lib.hid k2; rw [show fcC T s xs t ys = 1 by simp [fcC, k0, k1, k2]]; clear k0 k1 k2; go_enter Try.func76, Try.ntmps76; go_wp2_with (first | (go_at_call 89; (with_reducible refine (l15Ok_is _ _ T _ hT H.out K0.out).mono ?_); rintro e w1 ⟨rfl, rfl⟩) | (go_at_call 49; first | ((with_reducible refine (ok_is (K := fun w w' => w = w') K1.out (l16Ok_any b1 s _ _ xs _ hx p0 p1 H1.out)).mono ?_); rintro e w1 ⟨rfl, rfl⟩) | ((with_reducible refine (ok_is (K := fun w w' => w = w') K2.out (l16Ok_any b2 t _ _ ys _ hy p2 p3 H2.out)).mono ?_); rintro e w1 ⟨rfl, rfl⟩))); go_ret; exact ⟨rfl, rfl⟩
  have K2 := Lib.hid k2
  rw [show fcC T s xs t ys = 0 by simp [fcC, k0, k1, k2]]; clear k0 k1 k2; go_enter Try.func76, Try.ntmps76; go_wp2_with (first | (go_at_call 89; (with_reducible refine (l15Ok_is _ _ T _ hT H.out K0.out).mono ?_); rintro e w1 ⟨rfl, rfl⟩) | (go_at_call 49; first | ((with_reducible refine (ok_is (K := fun w w' => w = w') K1.out (l16Ok_any b1 s _ _ xs _ hx p0 p1 H1.out)).mono ?_); rintro e w1 ⟨rfl, rfl⟩) | ((with_reducible refine (ok_is (K := fun w w' => w = w') K2.out (l16Ok_any b2 t _ _ ys _ hy p2 p3 H2.out)).mono ?_); rintro e w1 ⟨rfl, rfl⟩))); go_ret; exact ⟨rfl, rfl⟩
set_option maxHeartbeats 4000000 in
set_option maxRecDepth 20000 in
theorem motCode_any (T : List (List Bool)) (A A1 A2 : Option Addr) (e0 c1 c2 : Nat) (s t : Int) (xs ys : List Int) (w : World) (hz : Sizes T) (hx : xs.length ≤ 1048576) (hy : ys.length ≤ 1048576) (h : TB .bool w w.heap.size A T) (h1 : SV (.int .i64) w w.heap.size A1 xs) (h2 : SV (.int .i64) w w.heap.size A2 ys) : Calls Try.prog 79 #[.slice A T.length e0, .agg #[.int .i64 s, .slice A1 xs.length c1], .agg #[.int .i64 t, .slice A2 ys.length c2]] w fun e w' => e = .returned (.int .i64 (fcC T s xs t ys)) ∧ Below w.heap.size w w' := by
  have H := Lib.hid h
  have H1 := Lib.hid h1
  have H2 := Lib.hid h2
  have HZ := Lib.hid hz.2
  have hT := hz.1
  clear h h1 h2 hz
  have HX0 := Lib.hid (show Box2 ((w.alloc (.cells #[.int .i64 s, .slice A1 xs.length c1] 27)).alloc (.cells #[.int .i64 t, .slice A2 ys.length c2] 27)) (w.heap.size) 27 (.int .i64 s) (.slice A1 xs.length c1) by have h := (Box2.new (w) 27 (.int .i64 s) (.slice A1 xs.length c1)).late (gr_alloc (o := .cells #[.int .i64 t, .slice A2 ys.length c2] 27) (gr_refl _)); (try simp only [World.size_alloc] at h); exact h)
  have q0_0 := HX0.out.c0
  have q0_1 := HX0.out.c1
  have HX1 := Lib.hid (show Box2 ((w.alloc (.cells #[.int .i64 s, .slice A1 xs.length c1] 27)).alloc (.cells #[.int .i64 t, .slice A2 ys.length c2] 27)) (w.heap.size + 1) 27 (.int .i64 t) (.slice A2 ys.length c2) by have h := Box2.new (w.alloc (.cells #[.int .i64 s, .slice A1 xs.length c1] 27)) 27 (.int .i64 t) (.slice A2 ys.length c2); (try simp only [World.size_alloc] at h); exact h)
  have q1_0 := HX1.out.c0
  have q1_1 := HX1.out.c1
  have HB := Lib.hid (show Below w.heap.size w ((w.alloc (.cells #[.int .i64 s, .slice A1 xs.length c1] 27)).alloc (.cells #[.int .i64 t, .slice A2 ys.length c2] 27)) by repeat' first | exact gr_refl _ | with_reducible assumption | with_reducible apply gr_alloc | with_reducible apply gr_set | with_reducible apply gr_drew | with_reducible apply gr_drewN | exact Nat.le_add_right _ _ | exact Nat.le_refl _ | (refine gr_then (by with_reducible assumption) ?_))
  have hz : w.heap.size + 2 ≤ ((w.alloc (.cells #[.int .i64 s, .slice A1 xs.length c1] 27)).alloc (.cells #[.int .i64 t, .slice A2 ys.length c2] 27)).heap.size := by simp
  cases k0 : okT T
  · have K0 := Lib.hid k0
    rw [show fcC T s xs t ys = 8 by simp [fcC, k0]]
    clear k0
    go_enter Try.func79, Try.ntmps79; go_wp2_with fail
    generalize (w.alloc (.cells #[.int .i64 s, .slice A1 xs.length c1] 27)).alloc (.cells #[.int .i64 t, .slice A2 ys.length c2] 27) = v0 at *
    go_at_call 91
    (with_reducible refine (implVt_is _ _ T _ hT ((H.out.below HB.out).more HB.out.size) HZ.out K0.out).mono ?_)
    rintro e u0 ⟨rfl, rfl⟩
    go_wp2
    go_ret
    exact ⟨rfl, HB.out⟩
  have K0 := Lib.hid k0
  cases k1 : okM s xs
  · have K1 := Lib.hid k1
    rw [show fcC T s xs t ys = 1 by simp [fcC, k0, k1]]
    clear k0 k1
    go_enter Try.func79, Try.ntmps79; go_wp2_with fail
    generalize (w.alloc (.cells #[.int .i64 s, .slice A1 xs.length c1] 27)).alloc (.cells #[.int .i64 t, .slice A2 ys.length c2] 27) = v0 at *
    go_at_call 91
    (with_reducible refine (implVt_is _ _ T _ hT ((H.out.below HB.out).more HB.out.size) HZ.out K0.out).mono ?_)
    rintro e u0 ⟨rfl, rfl⟩
    go_wp2_with fail
    go_at_call 19
    (with_reducible refine (ok_is (K := fun w w' => Below w.heap.size w w') K1.out (implVm_any s _ _ xs _ hx ((H1.out.below HB.out).more HB.out.size))).mono ?_)
    rintro e u1 ⟨rfl, hb⟩
    have hy1 := hb.size
    replace q0_0 := keepc hb q0_0
    replace q0_1 := keepc hb q0_1
    replace q1_0 := keepc hb q1_0
    replace q1_1 := keepc hb q1_1
    replace HB := Lib.hid (gr_then hb HB.out)
    clear hb
    go_wp2
    go_ret
    exact ⟨rfl, HB.out⟩
  have K1 := Lib.hid k1
  cases k2 : okM t ys
  · have K2 := Lib.hid k2
    rw [show fcC T s xs t ys = 1 by simp [fcC, k0, k1, k2]]
    clear k0 k1 k2
    go_enter Try.func79, Try.ntmps79; go_wp2_with fail
    generalize (w.alloc (.cells #[.int .i64 s, .slice A1 xs.length c1] 27)).alloc (.cells #[.int .i64 t, .slice A2 ys.length c2] 27) = v0 at *
    go_at_call 91
    (with_reducible refine (implVt_is _ _ T _ hT ((H.out.below HB.out).more HB.out.size) HZ.out K0.out).mono ?_)
    rintro e u0 ⟨rfl, rfl⟩
    go_wp2_with fail
    go_at_call 19
    (with_reducible refine (ok_is (K := fun w w' => Below w.heap.size w w') K1.out (implVm_any s _ _ xs _ hx ((H1.out.below HB.out).more HB.out.size))).mono ?_)
    rintro e u1 ⟨rfl, hb⟩
    have hy1 := hb.size
    replace q0_0 := keepc hb q0_0
    replace q0_1 := keepc hb q0_1
    replace q1_0 := keepc hb q1_0
    replace q1_1 := keepc hb q1_1
    replace HB := Lib.hid (gr_then hb HB.out)
    clear hb
    go_wp2_with fail
    go_at_call 19
    (with_reducible refine (ok_is (K := fun w w' => Below w.heap.size w w') K2.out (implVm_any t _ _ ys _ hy ((H2.out.below HB.out).more HB.out.size))).mono ?_)
    rintro e u2 ⟨rfl, hb⟩
    have hy2 := hb.size
    replace q0_0 := keepc hb q0_0
    replace q0_1 := keepc hb q0_1
    replace q1_0 := keepc hb q1_0
    replace q1_1 := keepc hb q1_1
    replace HB := Lib.hid (gr_then hb HB.out)
    clear hb
    go_wp2
    go_ret
    exact ⟨rfl, HB.out⟩
  have K2 := Lib.hid k2
  rw [show fcC T s xs t ys = 0 by simp [fcC, k0, k1, k2]]
  clear k0 k1 k2
  go_enter Try.func79, Try.ntmps79; go_wp2_with fail
  generalize (w.alloc (.cells #[.int .i64 s, .slice A1 xs.length c1] 27)).alloc (.cells #[.int .i64 t, .slice A2 ys.length c2] 27) = v0 at *
  go_at_call 91
  (with_reducible refine (implVt_is _ _ T _ hT ((H.out.below HB.out).more HB.out.size) HZ.out K0.out).mono ?_)
  rintro e u0 ⟨rfl, rfl⟩
  go_wp2_with fail
  go_at_call 19
  (with_reducible refine (ok_is (K := fun w w' => Below w.heap.size w w') K1.out (implVm_any s _ _ xs _ hx ((H1.out.below HB.out).more HB.out.size))).mono ?_)
  rintro e u1 ⟨rfl, hb⟩
  have hy1 := hb.size
  replace q0_0 := keepc hb q0_0
  replace q0_1 := keepc hb q0_1
  replace q1_0 := keepc hb q1_0
  replace q1_1 := keepc hb q1_1
  replace HB := Lib.hid (gr_then hb HB.out)
  clear hb
  go_wp2_with fail
  go_at_call 19
  (with_reducible refine (ok_is (K := fun w w' => Below w.heap.size w w') K2.out (implVm_any t _ _ ys _ hy ((H2.out.below HB.out).more HB.out.size))).mono ?_)
  rintro e u2 ⟨rfl, hb⟩
  have hy2 := hb.size
  replace q0_0 := keepc hb q0_0
  replace q0_1 := keepc hb q0_1
  replace q1_0 := keepc hb q1_0
  replace q1_1 := keepc hb q1_1
  replace HB := Lib.hid (gr_then hb HB.out)
  clear hb
  go_wp2
  go_ret
  exact ⟨rfl, HB.out⟩
theorem dN_zero (a : Nat) (xs : List Int) : dN (a : Int) xs 0 = a := by unfold dN; simp [dirAt]
set_option maxHeartbeats 4000000 in
set_option maxRecDepth 20000 in
theorem l16First_any (b1 b2 a0 b0 : Nat) (T : List (List Bool)) (A A1 A2 : Option Addr) (e0 c1 c2 : Nat) (xs ys : List Int) (w : World) (hok : okT T = true) (hm1 : okM (a0 : Int) xs = true) (hm2 : okM (b0 : Int) ys = true) (h : TB .bool w w.heap.size A T) (p0 : w.cell? ⟨b1, 0, none⟩ = some (.int .i64 (a0 : Int))) (p1 : w.cell? ⟨b1, 1, none⟩ = some (.slice A1 xs.length c1)) (p2 : w.cell? ⟨b2, 0, none⟩ = some (.int .i64 (b0 : Int))) (p3 : w.cell? ⟨b2, 1, none⟩ = some (.slice A2 ys.length c2)) (h1 : SV (.int .i64) w w.heap.size A1 xs) (h2 : SV (.int .i64) w w.heap.size A2 ys) : Calls Try.prog 77 #[.slice A T.length e0, .pointer (some ⟨b1, 0, none⟩), .pointer (some ⟨b2, 0, none⟩)] w fun e w' => e = .returned (.int .i64 (fcV (pF T a0 xs b0 ys) (max xs.length ys.length))) ∧ ∃ q, w' = w.drewN q := by
  have ha := (okM_t hm1).1
  have hb := (okM_t hm2).1
  have hx := (okM_t hm1).2.1
  have hy := (okM_t hm2).2.1
  have z1 := dN_zero a0 xs
  have z2 := dN_zero b0 ys
  obtain ⟨P, hP⟩ : ∃ P, pF T a0 xs b0 ys = P := ⟨_, rfl⟩
  have HP := Lib.hid hP
  have HP0 := Lib.hid (show P 0 = cellT T a0 b0 by rw [← hP]; show cellT T (dN a0 xs 0) (dN b0 ys 0) = _; rw [z1, z2])
  have HPS : Hid (∀ k, P (k + 1) = clB T (dN a0 xs k) (dN b0 ys k) (dN a0 xs (k + 1)) (dN b0 ys (k + 1))) := fun k => by rw [← hP]; rfl
  rw [hP]
  clear hP
  have HA1 : Hid (∀ (k : Nat) (w1 : World), k ≤ 1048576 → Below w.heap.size w w1 → Calls Try.prog 54 #[.pointer (some ⟨b1, 0, none⟩), .int .i64 (k : Int)] w1 fun e w' => e = .returned (.int .i64 (dN a0 xs k : Int)) ∧ w1 = w') := fun k w1 hk hb1 => by have h3 := l16At_any b1 a0 k A1 c1 xs w1 hm1 (by constructor <;> omega) (keepc hb1 p0) (keepc hb1 p1) (h1.later hb1); rw [Int.toNat_natCast, dN_cast ha] at h3; exact h3
  have HA2 : Hid (∀ (k : Nat) (w1 : World), k ≤ 1048576 → Below w.heap.size w w1 → Calls Try.prog 54 #[.pointer (some ⟨b2, 0, none⟩), .int .i64 (k : Int)] w1 fun e w' => e = .returned (.int .i64 (dN b0 ys k : Int)) ∧ w1 = w') := fun k w1 hk hb1 => by have h3 := l16At_any b2 b0 k A2 c2 ys w1 hm2 (by constructor <;> omega) (keepc hb1 p2) (keepc hb1 p3) (h2.later hb1); rw [Int.toNat_natCast, dN_cast hb] at h3; exact h3
  have HDA := Lib.hid (dN_le ha xs)
  have HDB := Lib.hid (dN_le hb ys)
  obtain ⟨p, o, q, u, v, rfl, r0, g0⟩ := trow h hok (a := a0) (by omega)
  have d0 := g0 b0 (by omega)
  have H := Lib.hid h
  have HOK := Lib.hid hok
  have HT := (okT_t hok).1
  rw [HT]
  obtain ⟨N, hN⟩ : ∃ N, max xs.length ys.length = N := ⟨_, rfl⟩
  have hN2 : N ≤ 200 := by omega
  have HMX : Hid (∀ w : World, Calls Try.prog 90 #[.int .i64 (xs.length : Int), .int .i64 (ys.length : Int)] w fun e w' => e = .returned (.int .i64 (N : Int)) ∧ w = w') := fun w => by have h3 := max00_any (xs.length : Int) (ys.length : Int) w; rw [show maxI (xs.length : Int) (ys.length : Int) = (N : Int) by unfold maxI; split <;> omega] at h3; exact h3
  rw [hN]
  have Z1 := Lib.hid z1
  have Z2 := Lib.hid z2
  clear hN h h1 h2 hok hm1 hm2 g0 HT z1 z2
  have j0 : (0 : Int) ≤ (a0 : Int) := by omega
  have j1 : (a0 : Int) < 24 := by omega
  have j2 : (0 : Int) ≤ (b0 : Int) := by omega
  have j3 : (b0 : Int) < 24 := by omega
  cases k0 : cellT T a0 b0 <;> rw [k0] at d0 HP0
  case true =>
    clear k0
    go_enter Try.func77, Try.ntmps77
    go_wp2
    go_quiet (fail)
    go_wp2
    go_ret
    exact ⟨ret_int (fcV_hit (Nat.zero_le _) HP0.out (fun j hj => by omega)).symm, _, rfl⟩
  clear k0
  go_enter Try.func77, Try.ntmps77
  go_wp2
  go_quiet (fail)
  go_wp2
  go_loopw [7, 8, 9] (fun x y i wr => ∃ k m : Nat, Hid (k = m + 1) ∧ k ≤ m + 1 ∧ m + 1 ≤ k ∧ m ≤ N ∧ i = .int .i64 k ∧ x = .int .i64 (dN a0 xs m : Int) ∧ y = .int .i64 (dN b0 ys m : Int) ∧ Hid (∀ j, j < k → P j = false) ∧ ∃ q, wr = w.drewN q) (fun _ _ i _ => N + 1 - (intOf i).toNat)
  case atStart => exact ⟨1, 0, rfl, by omega, by omega, by omega, rfl, by rw [Z1.out], by rw [Z2.out], fun j hj => (by have hj0 : j = 0 := (by omega); subst hj0; exact HP0.out), _, rfl⟩
  case round =>
    obtain ⟨k, m, HK, hk1, hk2, hmN, rfl, rfl, rfl, HNO, qq, rfl⟩ := hrel
    have hX := HDA.out m
    have hY := HDB.out m
    have hC := HDA.out k
    have hD := HDB.out k
    have HPM := Lib.hid (HPS.out m)
    have hA1 := Lib.hid (fun w1 (hb1 : Below w.heap.size w w1) => HA1.out k w1 (by omega) hb1)
    have hA2 := Lib.hid (fun w1 (hb1 : Below w.heap.size w w1) => HA2.out k w1 (by omega) hb1)
    obtain ⟨X, eX⟩ : ∃ X, dN a0 xs m = X := ⟨_, rfl⟩
    obtain ⟨Y, eY⟩ : ∃ Y, dN b0 ys m = Y := ⟨_, rfl⟩
    obtain ⟨C, eC⟩ : ∃ C, dN a0 xs k = C := ⟨_, rfl⟩
    obtain ⟨D, eD⟩ : ∃ D, dN b0 ys k = D := ⟨_, rfl⟩
    have HPM2 := Lib.hid (show P k = clB T X Y C D by rw [HK.out, HPM.out, ← HK.out, eX, eY, eC, eD])
    rw [eX] at hX ⊢
    rw [eY] at hY ⊢
    rw [eC] at hC hA1
    rw [eD] at hD hA2
    have EC := Lib.hid eC
    have ED := Lib.hid eD
    clear eX eY eC eD HPM
    by_cases hlt : k ≤ N
    · obtain ⟨p1, o1, q1, u1, v1, ea, rc, gc⟩ := trow H.out HOK.out (a := C) hC
      simp only [Option.some.injEq, Addr.mk.injEq, and_true] at ea
      obtain ⟨rfl, rfl⟩ := ea
      obtain ⟨p2', o2', q2, u2, v2, ea, rx, gx⟩ := trow H.out HOK.out (a := X) hX
      simp only [Option.some.injEq, Addr.mk.injEq, and_true] at ea
      obtain ⟨rfl, rfl⟩ := ea
      have m1 := gc D hD
      have m2 := gx D hD
      have m3 := gc Y hY
      clear gc gx r0 d0
      have iX0 : (0 : Int) ≤ (X : Int) := by omega
      have iY0 : (0 : Int) ≤ (Y : Int) := by omega
      have iC0 : (0 : Int) ≤ (C : Int) := by omega
      have iD0 : (0 : Int) ≤ (D : Int) := by omega
      have iX1 : (X : Int) < 24 := by omega
      have iY1 : (Y : Int) < 24 := by omega
      have iC1 : (C : Int) < 24 := by omega
      have iD1 : (D : Int) < 24 := by omega
      cases e1 : cellT T C D <;> rw [e1] at m1
      case true =>
        have HF := Lib.hid (fcV_hit (P := P) (n := N) hlt (HPM2.out.trans (show clB T X Y C D = true by simp [clB, e1])) HNO.out)
        clear e1
        go_wp2
        go_quiet ((go_at_call 90; exact quiet_add_left (HMX.out _)))
        go_wp2_with (go_at_call 54; first | ((with_reducible refine (hA1.out _ (by repeat' first | exact gr_refl _ | with_reducible assumption | with_reducible apply gr_alloc | with_reducible apply gr_set | with_reducible apply gr_drew | with_reducible apply gr_drewN | exact Nat.le_add_right _ _ | exact Nat.le_refl _ | (refine gr_then (by with_reducible assumption) ?_))).mono ?_); rintro e w1 ⟨rfl, rfl⟩) | ((with_reducible refine (hA2.out _ (by repeat' first | exact gr_refl _ | with_reducible assumption | with_reducible apply gr_alloc | with_reducible apply gr_set | with_reducible apply gr_drew | with_reducible apply gr_drewN | exact Nat.le_add_right _ _ | exact Nat.le_refl _ | (refine gr_then (by with_reducible assumption) ?_))).mono ?_); rintro e w1 ⟨rfl, rfl⟩))
        go_ret
        exact ⟨ret_int HF.out.symm, _, rfl⟩
      cases e2 : cellT T X D <;> rw [e2] at m2
      case true =>
        have HF := Lib.hid (fcV_hit (P := P) (n := N) hlt (HPM2.out.trans (show clB T X Y C D = true by simp [clB, e1, e2])) HNO.out)
        clear e1 e2
        go_wp2
        go_quiet ((go_at_call 90; exact quiet_add_left (HMX.out _)))
        go_wp2_with (go_at_call 54; first | ((with_reducible refine (hA1.out _ (by repeat' first | exact gr_refl _ | with_reducible assumption | with_reducible apply gr_alloc | with_reducible apply gr_set | with_reducible apply gr_drew | with_reducible apply gr_drewN | exact Nat.le_add_right _ _ | exact Nat.le_refl _ | (refine gr_then (by with_reducible assumption) ?_))).mono ?_); rintro e w1 ⟨rfl, rfl⟩) | ((with_reducible refine (hA2.out _ (by repeat' first | exact gr_refl _ | with_reducible assumption | with_reducible apply gr_alloc | with_reducible apply gr_set | with_reducible apply gr_drew | with_reducible apply gr_drewN | exact Nat.le_add_right _ _ | exact Nat.le_refl _ | (refine gr_then (by with_reducible assumption) ?_))).mono ?_); rintro e w1 ⟨rfl, rfl⟩))
        go_ret
        exact ⟨ret_int HF.out.symm, _, rfl⟩
      cases e3 : cellT T C Y <;> rw [e3] at m3
      case true =>
        have HF := Lib.hid (fcV_hit (P := P) (n := N) hlt (HPM2.out.trans (show clB T X Y C D = true by simp [clB, e1, e2, e3])) HNO.out)
        clear e1 e2 e3
        go_wp2
        go_quiet ((go_at_call 90; exact quiet_add_left (HMX.out _)))
        go_wp2_with (go_at_call 54; first | ((with_reducible refine (hA1.out _ (by repeat' first | exact gr_refl _ | with_reducible assumption | with_reducible apply gr_alloc | with_reducible apply gr_set | with_reducible apply gr_drew | with_reducible apply gr_drewN | exact Nat.le_add_right _ _ | exact Nat.le_refl _ | (refine gr_then (by with_reducible assumption) ?_))).mono ?_); rintro e w1 ⟨rfl, rfl⟩) | ((with_reducible refine (hA2.out _ (by repeat' first | exact gr_refl _ | with_reducible assumption | with_reducible apply gr_alloc | with_reducible apply gr_set | with_reducible apply gr_drew | with_reducible apply gr_drewN | exact Nat.le_add_right _ _ | exact Nat.le_refl _ | (refine gr_then (by with_reducible assumption) ?_))).mono ?_); rintro e w1 ⟨rfl, rfl⟩))
        go_ret
        exact ⟨ret_int HF.out.symm, _, rfl⟩
      have HF := Lib.hid (HPM2.out.trans (show clB T X Y C D = false by simp [clB, e1, e2, e3]))
      clear e1 e2 e3
      go_wp2
      go_quiet ((go_at_call 90; exact quiet_add_left (HMX.out _)))
      go_wp2_with (go_at_call 54; first | ((with_reducible refine (hA1.out _ (by repeat' first | exact gr_refl _ | with_reducible assumption | with_reducible apply gr_alloc | with_reducible apply gr_set | with_reducible apply gr_drew | with_reducible apply gr_drewN | exact Nat.le_add_right _ _ | exact Nat.le_refl _ | (refine gr_then (by with_reducible assumption) ?_))).mono ?_); rintro e w1 ⟨rfl, rfl⟩) | ((with_reducible refine (hA2.out _ (by repeat' first | exact gr_refl _ | with_reducible assumption | with_reducible apply gr_alloc | with_reducible apply gr_set | with_reducible apply gr_drew | with_reducible apply gr_drewN | exact Nat.le_add_right _ _ | exact Nat.le_refl _ | (refine gr_then (by with_reducible assumption) ?_))).mono ?_); rintro e w1 ⟨rfl, rfl⟩))
      go_roundw
      case rel => exact ⟨k + 1, k, rfl, by omega, by omega, by omega, by go_num, by rw [EC.out], by rw [ED.out], fun j hj => by by_cases e : j = k; (subst e; exact HF.out); exact HNO.out j (by omega), _, rfl⟩
      case measure => simp [intOf]; omega
    · have hNO := Lib.hid (fcV_none (P := P) (n := N) (fun j hj => HNO.out j (by omega)))
      have hd := decide_eq_false hlt
      have hd2 : decide ((k : Int) ≤ (N : Int)) = false := decide_eq_false (by omega)
      go_wp2
      go_quiet ((go_at_call 90; exact quiet_add_left (HMX.out _)))
      go_wp2
      go_ret
      exact ⟨ret_int hNO.out.symm, by first | exact ⟨_, rfl⟩ | exact ⟨_, by simp only [World.drewN_drewN]; rfl⟩⟩
end Go.Proofs.Ytoojnfdphjdocaa
