/- FirstConflict: the program's search, and both functions. -/
import Derived.Test.YtoojnfdphjdocaaFc
namespace Go.Proofs.Ytoojnfdphjdocaa
open Go.RowKit
theorem TB.laterT {α : Type} {f : α → Value} {w w' : World} {A : Option Addr} {T : List (List α)} (h : TB f w w.heap.size A T) (hb : Below w.heap.size w w') : TB f w' w'.heap.size A T := (h.below hb).more hb.size
theorem fc_ok {T : List (List Bool)} {s : Int} {xs : List Int} {t : Int} {ys : List Int} (h : fcC T s xs t ys = 0) : okT T = true ∧ okM s xs = true ∧ okM t ys = true := by
  unfold fcC at h
  cases h1 : okT T <;> cases h2 : okM s xs <;> cases h3 : okM t ys <;> simp_all
theorem okM_nat {s : Int} {xs : List Int} (h : okM s xs = true) : ∃ a : Nat, s = (a : Int) := ⟨s.toNat, by have := (okM_t h).1; omega⟩
set_option maxHeartbeats 4000000 in
set_option maxRecDepth 20000 in
theorem firstC_any (a0 b0 : Nat) (T : List (List Bool)) (A A1 A2 : Option Addr) (e0 c1 c2 : Nat) (xs ys : List Int) (w : World) (hok : okT T = true) (hm1 : okM (a0 : Int) xs = true) (hm2 : okM (b0 : Int) ys = true) (h : TB .bool w w.heap.size A T) (h1 : SV (.int .i64) w w.heap.size A1 xs) (h2 : SV (.int .i64) w w.heap.size A2 ys) : Calls Try.prog 80 #[.slice A T.length e0, .agg #[.int .i64 (a0 : Int), .slice A1 xs.length c1], .agg #[.int .i64 (b0 : Int), .slice A2 ys.length c2]] w fun e w' => e = .returned (.int .i64 (fcV (pF T a0 xs b0 ys) (max xs.length ys.length))) ∧ Below w.heap.size w w' := by
  have ha := (okM_t hm1).1
  have hb := (okM_t hm2).1
  have hx := (okM_t hm1).2.1
  have hy := (okM_t hm2).2.1
  have z1 := dN_zero a0 xs
  have z2 := dN_zero b0 ys
  obtain ⟨P, hP⟩ : ∃ P, pF T a0 xs b0 ys = P := ⟨_, rfl⟩
  have HP0 := Lib.hid (show P 0 = cellT T a0 b0 by rw [← hP]; show cellT T (dN a0 xs 0) (dN b0 ys 0) = _; rw [z1, z2])
  have HPS : Hid (∀ k, P (k + 1) = clB T (dN a0 xs k) (dN b0 ys k) (dN a0 xs (k + 1)) (dN b0 ys (k + 1))) := fun k => by rw [← hP]; rfl
  rw [hP]
  clear hP
  obtain ⟨N, hN⟩ : ∃ N, max xs.length ys.length = N := ⟨_, rfl⟩
  have hN2 : N ≤ 200 := by omega
  have HN1 := Lib.hid hN
  rw [hN]
  clear hN
  have HT := Lib.hid (okT_t hok).1
  rw [HT.out]
  have HM1 := Lib.hid hm1
  have HM2 := Lib.hid hm2
  have HDA := Lib.hid (dN_le ha xs)
  have HDB := Lib.hid (dN_le hb ys)
  have hw0 : Below w.heap.size w ((w.alloc (.cells #[.int .i64 (a0 : Int), .slice A1 xs.length c1] 27)).alloc (.cells #[.int .i64 (b0 : Int), .slice A2 ys.length c2] 27)) := by repeat' first | exact gr_refl _ | with_reducible assumption | with_reducible apply gr_alloc | with_reducible apply gr_set | with_reducible apply gr_drew | with_reducible apply gr_drewN | exact Nat.le_add_right _ _ | exact Nat.le_refl _ | (refine gr_then (by with_reducible assumption) ?_)
  have H := Lib.hid (h.laterT hw0)
  have H1 := Lib.hid (h1.later hw0)
  have H2 := Lib.hid (h2.later hw0)
  have HOK := Lib.hid hok
  clear h h1 h2 hok hm1 hm2 hw0 z1 z2
  have HX0 := Lib.hid (show Box2 ((w.alloc (.cells #[.int .i64 (a0 : Int), .slice A1 xs.length c1] 27)).alloc (.cells #[.int .i64 (b0 : Int), .slice A2 ys.length c2] 27)) (w.heap.size) 27 (.int .i64 (a0 : Int)) (.slice A1 xs.length c1) by have h := (Box2.new (w) 27 (.int .i64 (a0 : Int)) (.slice A1 xs.length c1)).late (gr_alloc (o := .cells #[.int .i64 (b0 : Int), .slice A2 ys.length c2] 27) (gr_refl _)); (try simp only [World.size_alloc] at h); exact h)
  have q0_0 := HX0.out.c0
  have q0_1 := HX0.out.c1
  have HX1 := Lib.hid (show Box2 ((w.alloc (.cells #[.int .i64 (a0 : Int), .slice A1 xs.length c1] 27)).alloc (.cells #[.int .i64 (b0 : Int), .slice A2 ys.length c2] 27)) (w.heap.size + 1) 27 (.int .i64 (b0 : Int)) (.slice A2 ys.length c2) by have h := Box2.new (w.alloc (.cells #[.int .i64 (a0 : Int), .slice A1 xs.length c1] 27)) 27 (.int .i64 (b0 : Int)) (.slice A2 ys.length c2); (try simp only [World.size_alloc] at h); exact h)
  have q1_0 := HX1.out.c0
  have q1_1 := HX1.out.c1
  have HB := Lib.hid (show Below w.heap.size w ((w.alloc (.cells #[.int .i64 (a0 : Int), .slice A1 xs.length c1] 27)).alloc (.cells #[.int .i64 (b0 : Int), .slice A2 ys.length c2] 27)) by repeat' first | exact gr_refl _ | with_reducible assumption | with_reducible apply gr_alloc | with_reducible apply gr_set | with_reducible apply gr_drew | with_reducible apply gr_drewN | exact Nat.le_add_right _ _ | exact Nat.le_refl _ | (refine gr_then (by with_reducible assumption) ?_))
  have hz : w.heap.size + 2 ≤ ((w.alloc (.cells #[.int .i64 (a0 : Int), .slice A1 xs.length c1] 27)).alloc (.cells #[.int .i64 (b0 : Int), .slice A2 ys.length c2] 27)).heap.size := by simp
  go_enter Try.func80, Try.ntmps80; go_wp2_with fail
  generalize (w.alloc (.cells #[.int .i64 (a0 : Int), .slice A1 xs.length c1] 27)).alloc (.cells #[.int .i64 (b0 : Int), .slice A2 ys.length c2] 27) = v0 at *
  go_region_held3 (fun w' => w'.cell? ⟨w.heap.size, 0, none⟩ = some (.int .i64 (a0 : Int)) ∧ w'.cell? ⟨w.heap.size, 1, none⟩ = some (.slice A1 xs.length c1) ∧ w'.cell? ⟨w.heap.size + 1, 0, none⟩ = some (.int .i64 (b0 : Int)) ∧ w'.cell? ⟨w.heap.size + 1, 1, none⟩ = some (.slice A2 ys.length c2)) ((first | exact ⟨q0_0, q0_1, q1_0, q1_1⟩ | exact ⟨keepc HA.out q0_0, keepc HA.out q0_1, keepc HA.out q1_0, keepc HA.out q1_1⟩)) ((go_at_call 56; first | ((with_reducible refine (track_any (a0 : Int) A1 _ xs _ HM1.out (H1.out.later (gr_drew (gr_refl v0)))).mono ?_); rintro e u1 ⟨g1, z1, rfl, hv1, hb1⟩; have HA := Lib.hid (gr_then hb1 (gr_drew (gr_refl v0)))) | ((with_reducible refine (track_any (b0 : Int) A2 _ ys _ HM2.out (H2.out.later HA.out)).mono ?_); rintro e u2 ⟨g2, z2, rfl, hv2, hb2⟩; have HV1 := Lib.hid (hv1.later hb2); have HV2 := Lib.hid hv2; have HA := Lib.hid (gr_then hb2 HA.out))))
  have hzu := HA.out.size
  replace H := Lib.hid (H.out.laterT HA.out)
  replace HB := Lib.hid (gr_then HA.out HB.out)
  clear q0_0 q0_1 q1_0 q1_1 HX0 HX1 H1 H2 HA hv1 hv2 hb1 hb2
  obtain ⟨bb1, off1, ea, _, cx⟩ := HV1.out.at_ (trk_at (s := (a0 : Int)) (xs := xs) (k := 0) (Nat.zero_le _))
  simp only [Option.some.injEq, Addr.mk.injEq, and_true] at ea
  obtain ⟨rfl, rfl⟩ := ea
  rw [show dirAt (a0 : Int) xs 0 = (a0 : Int) by simp [dirAt]] at cx
  obtain ⟨bb2, off2, ea, _, cy⟩ := HV2.out.at_ (trk_at (s := (b0 : Int)) (xs := ys) (k := 0) (Nat.zero_le _))
  simp only [Option.some.injEq, Addr.mk.injEq, and_true] at ea
  obtain ⟨rfl, rfl⟩ := ea
  rw [show dirAt (b0 : Int) ys 0 = (b0 : Int) by simp [dirAt]] at cy
  simp only [Nat.add_zero] at cx cy
  have HA1 : Hid (∀ (k : Nat) (w1 : World), k ≤ 1048576 → Below u2.heap.size u2 w1 → Calls Try.prog 55 #[.slice (some ⟨g1, 0, none⟩) (xs.length + 1) z1, .int .i64 (k : Int)] w1 fun e w' => e = .returned (.int .i64 (dN a0 xs k : Int)) ∧ w1 = w') := fun k w1 hk hbb => by have h3 := at_any (a0 : Int) _ z1 k xs w1 hx (by constructor <;> omega) (HV1.out.later hbb); rw [Int.toNat_natCast, dN_cast ha] at h3; exact h3
  have HA2 : Hid (∀ (k : Nat) (w1 : World), k ≤ 1048576 → Below u2.heap.size u2 w1 → Calls Try.prog 55 #[.slice (some ⟨g2, 0, none⟩) (ys.length + 1) z2, .int .i64 (k : Int)] w1 fun e w' => e = .returned (.int .i64 (dN b0 ys k : Int)) ∧ w1 = w') := fun k w1 hk hbb => by have h3 := at_any (b0 : Int) _ z2 k ys w1 hy (by constructor <;> omega) (HV2.out.later hbb); rw [Int.toNat_natCast, dN_cast hb] at h3; exact h3
  clear HV1 HV2
  have HCLA : Hid (∀ (X Y C D : Nat) (w1 : World), X ≤ 23 → Y ≤ 23 → C ≤ 23 → D ≤ 23 → Below u2.heap.size u2 w1 → Calls Try.prog 92 #[.slice A T.length e0, .int .i64 (X : Int), .int .i64 (Y : Int), .int .i64 (C : Int), .int .i64 (D : Int)] w1 fun e w' => e = .returned (.bool (clB T X Y C D)) ∧ w1 = w') := fun X Y C D w1 hX hY hC hD hb => clashes_any A e0 T w1 HOK.out (H.out.laterT hb) X Y C D hX hY hC hD
  obtain ⟨p, o, q, u, v, rfl, r0, g0⟩ := trow H.out HOK.out (a := a0) (by omega)
  have d0 := g0 b0 (by omega)
  rw [HT.out] at HCLA
  clear g0 HOK H
  have j0 : (0 : Int) ≤ (a0 : Int) := by omega
  have j1 : (a0 : Int) < 24 := by omega
  have j2 : (0 : Int) ≤ (b0 : Int) := by omega
  have j3 : (b0 : Int) < 24 := by omega
  cases k0 : cellT T a0 b0 <;> rw [k0] at d0 HP0
  case true =>
    clear k0
    go_wp2
    go_quiet (fail)
    go_wp2
    go_ret
    exact ⟨ret_int (fcV_hit (Nat.zero_le _) HP0.out (fun j hj => by omega)).symm, by have := HB.out; repeat' first | exact gr_refl _ | with_reducible assumption | with_reducible apply gr_alloc | with_reducible apply gr_set | with_reducible apply gr_drew | with_reducible apply gr_drewN | exact Nat.le_add_right _ _ | exact Nat.le_refl _ | (refine gr_then (by with_reducible assumption) ?_)⟩
  clear k0
  go_wp2
  go_quiet (fail)
  go_wp2
  clear r0 d0 cx cy
  go_loopw [9] (fun i wr => ∃ k m : Nat, Hid (k = m + 1) ∧ k ≤ m + 1 ∧ m + 1 ≤ k ∧ m ≤ N ∧ i = .int .i64 (k : Int) ∧ Hid (∀ j, j < k → P j = false) ∧ ∃ q, wr = u2.drewN q) (fun i _ => N + 1 - (intOf i).toNat)
  case atStart => exact ⟨1, 0, rfl, by omega, by omega, by omega, rfl, fun j hj => (by have hj0 : j = 0 := (by omega); subst hj0; exact HP0.out), _, rfl⟩
  case round =>
    obtain ⟨k, m, HK, hk1, hk2, hmN, rfl, HNO, qq, rfl⟩ := hrel
    have hkm : (k : Int) - 1 = (m : Int) := by omega
    have hX := HDA.out m
    have hY := HDB.out m
    have hC := HDA.out k
    have hD := HDB.out k
    have HPM := Lib.hid (HPS.out m)
    have hxm := Lib.hid (fun w1 (hb1 : Below u2.heap.size u2 w1) => HA1.out m w1 (by omega) hb1)
    have hym := Lib.hid (fun w1 (hb1 : Below u2.heap.size u2 w1) => HA2.out m w1 (by omega) hb1)
    have hxk := Lib.hid (fun w1 (hb1 : Below u2.heap.size u2 w1) => HA1.out k w1 (by omega) hb1)
    have hyk := Lib.hid (fun w1 (hb1 : Below u2.heap.size u2 w1) => HA2.out k w1 (by omega) hb1)
    obtain ⟨X, eX⟩ : ∃ X, dN a0 xs m = X := ⟨_, rfl⟩
    obtain ⟨Y, eY⟩ : ∃ Y, dN b0 ys m = Y := ⟨_, rfl⟩
    obtain ⟨C, eC⟩ : ∃ C, dN a0 xs k = C := ⟨_, rfl⟩
    obtain ⟨D, eD⟩ : ∃ D, dN b0 ys k = D := ⟨_, rfl⟩
    have HPM2 := Lib.hid (show P k = clB T X Y C D by rw [HK.out, HPM.out, ← HK.out, eX, eY, eC, eD])
    rw [eX] at hX hxm
    rw [eY] at hY hym
    rw [eC] at hC hxk
    rw [eD] at hD hyk
    clear eX eY eC eD HPM
    have hcl := Lib.hid (fun w1 (hb1 : Below u2.heap.size u2 w1) => HCLA.out X Y C D w1 hX hY hC hD hb1)
    have hlx := HN1.out
    have hmx : (if xs.length < ys.length then (ys.length : Int) + 1 else (xs.length : Int) + 1) = (N : Int) + 1 := by split <;> omega
    by_cases hlt : k ≤ N
    · have hd := decide_eq_true (show (k : Int) < (N : Int) + 1 by omega)
      clear hlx
      cases e1 : clB T X Y C D <;> rw [e1] at hcl
      case true =>
        have HF := Lib.hid (fcV_hit (P := P) (n := N) hlt (HPM2.out.trans e1) HNO.out)
        clear e1
        go_wp2_with (first | (go_at_call 55; first | ((with_reducible refine (hxm.out _ (by repeat' first | exact gr_refl _ | with_reducible assumption | with_reducible apply gr_alloc | with_reducible apply gr_set | with_reducible apply gr_drew | with_reducible apply gr_drewN | exact Nat.le_add_right _ _ | exact Nat.le_refl _ | (refine gr_then (by with_reducible assumption) ?_))).mono ?_); rintro e w1 ⟨rfl, rfl⟩) | ((with_reducible refine (hym.out _ (by repeat' first | exact gr_refl _ | with_reducible assumption | with_reducible apply gr_alloc | with_reducible apply gr_set | with_reducible apply gr_drew | with_reducible apply gr_drewN | exact Nat.le_add_right _ _ | exact Nat.le_refl _ | (refine gr_then (by with_reducible assumption) ?_))).mono ?_); rintro e w1 ⟨rfl, rfl⟩) | ((with_reducible refine (hxk.out _ (by repeat' first | exact gr_refl _ | with_reducible assumption | with_reducible apply gr_alloc | with_reducible apply gr_set | with_reducible apply gr_drew | with_reducible apply gr_drewN | exact Nat.le_add_right _ _ | exact Nat.le_refl _ | (refine gr_then (by with_reducible assumption) ?_))).mono ?_); rintro e w1 ⟨rfl, rfl⟩) | ((with_reducible refine (hyk.out _ (by repeat' first | exact gr_refl _ | with_reducible assumption | with_reducible apply gr_alloc | with_reducible apply gr_set | with_reducible apply gr_drew | with_reducible apply gr_drewN | exact Nat.le_add_right _ _ | exact Nat.le_refl _ | (refine gr_then (by with_reducible assumption) ?_))).mono ?_); rintro e w1 ⟨rfl, rfl⟩)) | (go_at_call 92; (with_reducible refine (hcl.out _ (by repeat' first | exact gr_refl _ | with_reducible assumption | with_reducible apply gr_alloc | with_reducible apply gr_set | with_reducible apply gr_drew | with_reducible apply gr_drewN | exact Nat.le_add_right _ _ | exact Nat.le_refl _ | (refine gr_then (by with_reducible assumption) ?_))).mono ?_); rintro e w1 ⟨rfl, rfl⟩))
        go_ret
        exact ⟨ret_int HF.out.symm, by have := HB.out; repeat' first | exact gr_refl _ | with_reducible assumption | with_reducible apply gr_alloc | with_reducible apply gr_set | with_reducible apply gr_drew | with_reducible apply gr_drewN | exact Nat.le_add_right _ _ | exact Nat.le_refl _ | (refine gr_then (by with_reducible assumption) ?_)⟩
      have HF := Lib.hid (HPM2.out.trans e1)
      clear e1
      go_wp2_with (first | (go_at_call 55; first | ((with_reducible refine (hxm.out _ (by repeat' first | exact gr_refl _ | with_reducible assumption | with_reducible apply gr_alloc | with_reducible apply gr_set | with_reducible apply gr_drew | with_reducible apply gr_drewN | exact Nat.le_add_right _ _ | exact Nat.le_refl _ | (refine gr_then (by with_reducible assumption) ?_))).mono ?_); rintro e w1 ⟨rfl, rfl⟩) | ((with_reducible refine (hym.out _ (by repeat' first | exact gr_refl _ | with_reducible assumption | with_reducible apply gr_alloc | with_reducible apply gr_set | with_reducible apply gr_drew | with_reducible apply gr_drewN | exact Nat.le_add_right _ _ | exact Nat.le_refl _ | (refine gr_then (by with_reducible assumption) ?_))).mono ?_); rintro e w1 ⟨rfl, rfl⟩) | ((with_reducible refine (hxk.out _ (by repeat' first | exact gr_refl _ | with_reducible assumption | with_reducible apply gr_alloc | with_reducible apply gr_set | with_reducible apply gr_drew | with_reducible apply gr_drewN | exact Nat.le_add_right _ _ | exact Nat.le_refl _ | (refine gr_then (by with_reducible assumption) ?_))).mono ?_); rintro e w1 ⟨rfl, rfl⟩) | ((with_reducible refine (hyk.out _ (by repeat' first | exact gr_refl _ | with_reducible assumption | with_reducible apply gr_alloc | with_reducible apply gr_set | with_reducible apply gr_drew | with_reducible apply gr_drewN | exact Nat.le_add_right _ _ | exact Nat.le_refl _ | (refine gr_then (by with_reducible assumption) ?_))).mono ?_); rintro e w1 ⟨rfl, rfl⟩)) | (go_at_call 92; (with_reducible refine (hcl.out _ (by repeat' first | exact gr_refl _ | with_reducible assumption | with_reducible apply gr_alloc | with_reducible apply gr_set | with_reducible apply gr_drew | with_reducible apply gr_drewN | exact Nat.le_add_right _ _ | exact Nat.le_refl _ | (refine gr_then (by with_reducible assumption) ?_))).mono ?_); rintro e w1 ⟨rfl, rfl⟩))
      go_roundw
      case rel => exact ⟨k + 1, k, rfl, by omega, by omega, by omega, by go_num, fun j hj => by by_cases e : j = k; (subst e; exact HF.out); exact HNO.out j (by omega), _, rfl⟩
      case measure => simp [intOf]; omega
    · have hNO := Lib.hid (fcV_none (P := P) (n := N) (fun j hj => HNO.out j (by omega)))
      have hd := decide_eq_false (show ¬ (k : Int) < (N : Int) + 1 by omega)
      clear hlx
      go_wp2
      go_ret
      exact ⟨ret_int hNO.out.symm, by have := HB.out; repeat' first | exact gr_refl _ | with_reducible assumption | with_reducible apply gr_alloc | with_reducible apply gr_set | with_reducible apply gr_drew | with_reducible apply gr_drewN | exact Nat.le_add_right _ _ | exact Nat.le_refl _ | (refine gr_then (by with_reducible assumption) ?_)⟩
set_option maxHeartbeats 4000000 in
set_option maxRecDepth 20000 in
theorem specFc_any (T : List (List Bool)) (A A1 A2 : Option Addr) (e0 c1 c2 : Nat) (s t : Int) (xs ys : List Int) (w : World) (hz : Sizes T) (hx : xs.length ≤ 1048576) (hy : ys.length ≤ 1048576) (h : TB .bool w w.heap.size A T) (h1 : SV (.int .i64) w w.heap.size A1 xs) (h2 : SV (.int .i64) w w.heap.size A2 ys) : Calls Try.prog 39 #[.slice A T.length e0, .agg #[.int .i64 s, .slice A1 xs.length c1], .agg #[.int .i64 t, .slice A2 ys.length c2]] w (fun e w' => e = .returned (.tuple #[.int .i64 (fcN T s xs t ys), .int .i64 (fcC T s xs t ys)]) ∧ Below w.heap.size w w') := by
  by_cases hc0 : fcC T s xs t ys = 0
  case neg =>
    rw [fc_bad rfl hc0]
    obtain ⟨k, hk⟩ : ∃ k, fcC T s xs t ys = k := ⟨_, rfl⟩
    have HK := Lib.hid hk
    have hne : (k != 0) = true := by rw [bne_iff_ne, ← hk]; exact hc0
    rw [hk]
    clear hk hc0
    have hw0 : Below w.heap.size w ((w.alloc (.cells #[.int .i64 s, .slice A1 xs.length c1] 27)).alloc (.cells #[.int .i64 t, .slice A2 ys.length c2] 27)) := by repeat' first | exact gr_refl _ | with_reducible assumption | with_reducible apply gr_alloc | with_reducible apply gr_set | with_reducible apply gr_drew | with_reducible apply gr_drewN | exact Nat.le_add_right _ _ | exact Nat.le_refl _ | (refine gr_then (by with_reducible assumption) ?_)
    have H := Lib.hid (h.laterT hw0)
    have H1 := Lib.hid (h1.later hw0)
    have H2 := Lib.hid (h2.later hw0)
    have HZ := Lib.hid hz
    have hT1 := hz.1
    clear h h1 h2 hw0 hz
    have HX0 := Lib.hid (show Box2 ((w.alloc (.cells #[.int .i64 s, .slice A1 xs.length c1] 27)).alloc (.cells #[.int .i64 t, .slice A2 ys.length c2] 27)) (w.heap.size) 27 (.int .i64 s) (.slice A1 xs.length c1) by have h := (Box2.new (w) 27 (.int .i64 s) (.slice A1 xs.length c1)).late (gr_alloc (o := .cells #[.int .i64 t, .slice A2 ys.length c2] 27) (gr_refl _)); (try simp only [World.size_alloc] at h); exact h)
    have q0_0 := HX0.out.c0
    have q0_1 := HX0.out.c1
    have HX1 := Lib.hid (show Box2 ((w.alloc (.cells #[.int .i64 s, .slice A1 xs.length c1] 27)).alloc (.cells #[.int .i64 t, .slice A2 ys.length c2] 27)) (w.heap.size + 1) 27 (.int .i64 t) (.slice A2 ys.length c2) by have h := Box2.new (w.alloc (.cells #[.int .i64 s, .slice A1 xs.length c1] 27)) 27 (.int .i64 t) (.slice A2 ys.length c2); (try simp only [World.size_alloc] at h); exact h)
    have q1_0 := HX1.out.c0
    have q1_1 := HX1.out.c1
    have HB := Lib.hid (show Below w.heap.size w ((w.alloc (.cells #[.int .i64 s, .slice A1 xs.length c1] 27)).alloc (.cells #[.int .i64 t, .slice A2 ys.length c2] 27)) by repeat' first | exact gr_refl _ | with_reducible assumption | with_reducible apply gr_alloc | with_reducible apply gr_set | with_reducible apply gr_drew | with_reducible apply gr_drewN | exact Nat.le_add_right _ _ | exact Nat.le_refl _ | (refine gr_then (by with_reducible assumption) ?_))
    have hz : w.heap.size + 2 ≤ ((w.alloc (.cells #[.int .i64 s, .slice A1 xs.length c1] 27)).alloc (.cells #[.int .i64 t, .slice A2 ys.length c2] 27)).heap.size := by simp
    go_enter Try.func39, Try.ntmps39; go_wp2_with fail
    generalize (w.alloc (.cells #[.int .i64 s, .slice A1 xs.length c1] 27)).alloc (.cells #[.int .i64 t, .slice A2 ys.length c2] 27) = v0 at *
    go_at_call 76
    (with_reducible refine (l16Code_any _ _ T _ _ _ _ _ _ s t xs ys _ hT1 hx hy H.out q0_0 q0_1 q1_0 q1_1 H1.out H2.out).mono ?_)
    rintro e u1 ⟨rfl, rfl⟩
    rw [HK.out]
    go_wp2
    go_returns
    exact ⟨rfl, HB.out⟩
  obtain ⟨k0, k1, k2⟩ := fc_ok hc0
  obtain ⟨a0, rfl⟩ := okM_nat k1
  obtain ⟨b0, rfl⟩ := okM_nat k2
  rw [fc_good hc0, hc0]
  have HK := Lib.hid hc0
  have HM0 := Lib.hid k0
  have HM1 := Lib.hid k1
  have HM2 := Lib.hid k2
  clear hc0 k0 k1 k2
  have hw0 : Below w.heap.size w ((w.alloc (.cells #[.int .i64 (a0 : Int), .slice A1 xs.length c1] 27)).alloc (.cells #[.int .i64 (b0 : Int), .slice A2 ys.length c2] 27)) := by repeat' first | exact gr_refl _ | with_reducible assumption | with_reducible apply gr_alloc | with_reducible apply gr_set | with_reducible apply gr_drew | with_reducible apply gr_drewN | exact Nat.le_add_right _ _ | exact Nat.le_refl _ | (refine gr_then (by with_reducible assumption) ?_)
  have H := Lib.hid (h.laterT hw0)
  have H1 := Lib.hid (h1.later hw0)
  have H2 := Lib.hid (h2.later hw0)
  have HZ := Lib.hid hz
  have hT1 := hz.1
  clear h h1 h2 hw0 hz
  have HX0 := Lib.hid (show Box2 ((w.alloc (.cells #[.int .i64 (a0 : Int), .slice A1 xs.length c1] 27)).alloc (.cells #[.int .i64 (b0 : Int), .slice A2 ys.length c2] 27)) (w.heap.size) 27 (.int .i64 (a0 : Int)) (.slice A1 xs.length c1) by have h := (Box2.new (w) 27 (.int .i64 (a0 : Int)) (.slice A1 xs.length c1)).late (gr_alloc (o := .cells #[.int .i64 (b0 : Int), .slice A2 ys.length c2] 27) (gr_refl _)); (try simp only [World.size_alloc] at h); exact h)
  have q0_0 := HX0.out.c0
  have q0_1 := HX0.out.c1
  have HX1 := Lib.hid (show Box2 ((w.alloc (.cells #[.int .i64 (a0 : Int), .slice A1 xs.length c1] 27)).alloc (.cells #[.int .i64 (b0 : Int), .slice A2 ys.length c2] 27)) (w.heap.size + 1) 27 (.int .i64 (b0 : Int)) (.slice A2 ys.length c2) by have h := Box2.new (w.alloc (.cells #[.int .i64 (a0 : Int), .slice A1 xs.length c1] 27)) 27 (.int .i64 (b0 : Int)) (.slice A2 ys.length c2); (try simp only [World.size_alloc] at h); exact h)
  have q1_0 := HX1.out.c0
  have q1_1 := HX1.out.c1
  have HB := Lib.hid (show Below w.heap.size w ((w.alloc (.cells #[.int .i64 (a0 : Int), .slice A1 xs.length c1] 27)).alloc (.cells #[.int .i64 (b0 : Int), .slice A2 ys.length c2] 27)) by repeat' first | exact gr_refl _ | with_reducible assumption | with_reducible apply gr_alloc | with_reducible apply gr_set | with_reducible apply gr_drew | with_reducible apply gr_drewN | exact Nat.le_add_right _ _ | exact Nat.le_refl _ | (refine gr_then (by with_reducible assumption) ?_))
  have hz : w.heap.size + 2 ≤ ((w.alloc (.cells #[.int .i64 (a0 : Int), .slice A1 xs.length c1] 27)).alloc (.cells #[.int .i64 (b0 : Int), .slice A2 ys.length c2] 27)).heap.size := by simp
  go_enter Try.func39, Try.ntmps39; go_wp2_with fail
  generalize (w.alloc (.cells #[.int .i64 (a0 : Int), .slice A1 xs.length c1] 27)).alloc (.cells #[.int .i64 (b0 : Int), .slice A2 ys.length c2] 27) = v0 at *
  go_at_call 76
  (with_reducible refine (l16Code_any _ _ T _ _ _ _ _ _ (a0 : Int) (b0 : Int) xs ys _ hT1 hx hy H.out q0_0 q0_1 q1_0 q1_1 H1.out H2.out).mono ?_)
  rintro e u1 ⟨rfl, rfl⟩
  rw [HK.out]
  go_wp2_with fail
  go_at_call 77
  (with_reducible refine (l16First_any _ _ a0 b0 T _ _ _ _ _ _ xs ys _ HM0.out HM1.out HM2.out H.out q0_0 q0_1 q1_0 q1_1 H1.out H2.out).mono ?_)
  rintro e u2 ⟨rfl, hq⟩
  have hb : Below v0.heap.size v0 u2 := by obtain ⟨q, rfl⟩ := hq; exact gr_drewN (gr_refl _)
  replace HB := Lib.hid (gr_then hb HB.out)
  clear hb hq
  go_wp2
  go_returns
  exact ⟨rfl, HB.out⟩
set_option maxHeartbeats 4000000 in
set_option maxRecDepth 20000 in
theorem implFc_any (T : List (List Bool)) (A A1 A2 : Option Addr) (e0 c1 c2 : Nat) (s t : Int) (xs ys : List Int) (w : World) (hz : Sizes T) (hx : xs.length ≤ 1048576) (hy : ys.length ≤ 1048576) (h : TB .bool w w.heap.size A T) (h1 : SV (.int .i64) w w.heap.size A1 xs) (h2 : SV (.int .i64) w w.heap.size A2 ys) : Calls Try.prog 41 #[.slice A T.length e0, .agg #[.int .i64 s, .slice A1 xs.length c1], .agg #[.int .i64 t, .slice A2 ys.length c2]] w (fun e w' => e = .returned (.tuple #[.int .i64 (fcN T s xs t ys), .int .i64 (fcC T s xs t ys)]) ∧ Below w.heap.size w w') := by
  by_cases hc0 : fcC T s xs t ys = 0
  case neg =>
    rw [fc_bad rfl hc0]
    obtain ⟨k, hk⟩ : ∃ k, fcC T s xs t ys = k := ⟨_, rfl⟩
    have HK := Lib.hid hk
    have hne : (k != 0) = true := by rw [bne_iff_ne, ← hk]; exact hc0
    rw [hk]
    clear hk hc0
    have hw0 : Below w.heap.size w ((w.alloc (.cells #[.int .i64 s, .slice A1 xs.length c1] 27)).alloc (.cells #[.int .i64 t, .slice A2 ys.length c2] 27)) := by repeat' first | exact gr_refl _ | with_reducible assumption | with_reducible apply gr_alloc | with_reducible apply gr_set | with_reducible apply gr_drew | with_reducible apply gr_drewN | exact Nat.le_add_right _ _ | exact Nat.le_refl _ | (refine gr_then (by with_reducible assumption) ?_)
    have H := Lib.hid (h.laterT hw0)
    have H1 := Lib.hid (h1.later hw0)
    have H2 := Lib.hid (h2.later hw0)
    have HZ := Lib.hid hz
    have hT1 := hz.1
    clear h h1 h2 hw0 hz
    have HX0 := Lib.hid (show Box2 ((w.alloc (.cells #[.int .i64 s, .slice A1 xs.length c1] 27)).alloc (.cells #[.int .i64 t, .slice A2 ys.length c2] 27)) (w.heap.size) 27 (.int .i64 s) (.slice A1 xs.length c1) by have h := (Box2.new (w) 27 (.int .i64 s) (.slice A1 xs.length c1)).late (gr_alloc (o := .cells #[.int .i64 t, .slice A2 ys.length c2] 27) (gr_refl _)); (try simp only [World.size_alloc] at h); exact h)
    have q0_0 := HX0.out.c0
    have q0_1 := HX0.out.c1
    have HX1 := Lib.hid (show Box2 ((w.alloc (.cells #[.int .i64 s, .slice A1 xs.length c1] 27)).alloc (.cells #[.int .i64 t, .slice A2 ys.length c2] 27)) (w.heap.size + 1) 27 (.int .i64 t) (.slice A2 ys.length c2) by have h := Box2.new (w.alloc (.cells #[.int .i64 s, .slice A1 xs.length c1] 27)) 27 (.int .i64 t) (.slice A2 ys.length c2); (try simp only [World.size_alloc] at h); exact h)
    have q1_0 := HX1.out.c0
    have q1_1 := HX1.out.c1
    have HB := Lib.hid (show Below w.heap.size w ((w.alloc (.cells #[.int .i64 s, .slice A1 xs.length c1] 27)).alloc (.cells #[.int .i64 t, .slice A2 ys.length c2] 27)) by repeat' first | exact gr_refl _ | with_reducible assumption | with_reducible apply gr_alloc | with_reducible apply gr_set | with_reducible apply gr_drew | with_reducible apply gr_drewN | exact Nat.le_add_right _ _ | exact Nat.le_refl _ | (refine gr_then (by with_reducible assumption) ?_))
    have hz : w.heap.size + 2 ≤ ((w.alloc (.cells #[.int .i64 s, .slice A1 xs.length c1] 27)).alloc (.cells #[.int .i64 t, .slice A2 ys.length c2] 27)).heap.size := by simp
    go_enter Try.func41, Try.ntmps41; go_wp2_with fail
    generalize (w.alloc (.cells #[.int .i64 s, .slice A1 xs.length c1] 27)).alloc (.cells #[.int .i64 t, .slice A2 ys.length c2] 27) = v0 at *
    go_at_call 79
    (with_reducible refine (motCode_any T _ _ _ _ _ _ s t xs ys _ HZ.out hx hy H.out H1.out H2.out).mono ?_)
    rintro e u1 ⟨rfl, hb⟩
    replace q0_0 := keepc hb q0_0
    replace q0_1 := keepc hb q0_1
    replace q1_0 := keepc hb q1_0
    replace q1_1 := keepc hb q1_1
    replace H := Lib.hid (H.out.laterT hb)
    replace H1 := Lib.hid (H1.out.later hb)
    replace H2 := Lib.hid (H2.out.later hb)
    replace HB := Lib.hid (gr_then hb HB.out)
    clear hb
    rw [HK.out]
    go_wp2
    go_returns
    exact ⟨rfl, HB.out⟩
  obtain ⟨k0, k1, k2⟩ := fc_ok hc0
  obtain ⟨a0, rfl⟩ := okM_nat k1
  obtain ⟨b0, rfl⟩ := okM_nat k2
  rw [fc_good hc0, hc0]
  have HK := Lib.hid hc0
  have HM0 := Lib.hid k0
  have HM1 := Lib.hid k1
  have HM2 := Lib.hid k2
  clear hc0 k0 k1 k2
  have hw0 : Below w.heap.size w ((w.alloc (.cells #[.int .i64 (a0 : Int), .slice A1 xs.length c1] 27)).alloc (.cells #[.int .i64 (b0 : Int), .slice A2 ys.length c2] 27)) := by repeat' first | exact gr_refl _ | with_reducible assumption | with_reducible apply gr_alloc | with_reducible apply gr_set | with_reducible apply gr_drew | with_reducible apply gr_drewN | exact Nat.le_add_right _ _ | exact Nat.le_refl _ | (refine gr_then (by with_reducible assumption) ?_)
  have H := Lib.hid (h.laterT hw0)
  have H1 := Lib.hid (h1.later hw0)
  have H2 := Lib.hid (h2.later hw0)
  have HZ := Lib.hid hz
  have hT1 := hz.1
  clear h h1 h2 hw0 hz
  have HX0 := Lib.hid (show Box2 ((w.alloc (.cells #[.int .i64 (a0 : Int), .slice A1 xs.length c1] 27)).alloc (.cells #[.int .i64 (b0 : Int), .slice A2 ys.length c2] 27)) (w.heap.size) 27 (.int .i64 (a0 : Int)) (.slice A1 xs.length c1) by have h := (Box2.new (w) 27 (.int .i64 (a0 : Int)) (.slice A1 xs.length c1)).late (gr_alloc (o := .cells #[.int .i64 (b0 : Int), .slice A2 ys.length c2] 27) (gr_refl _)); (try simp only [World.size_alloc] at h); exact h)
  have q0_0 := HX0.out.c0
  have q0_1 := HX0.out.c1
  have HX1 := Lib.hid (show Box2 ((w.alloc (.cells #[.int .i64 (a0 : Int), .slice A1 xs.length c1] 27)).alloc (.cells #[.int .i64 (b0 : Int), .slice A2 ys.length c2] 27)) (w.heap.size + 1) 27 (.int .i64 (b0 : Int)) (.slice A2 ys.length c2) by have h := Box2.new (w.alloc (.cells #[.int .i64 (a0 : Int), .slice A1 xs.length c1] 27)) 27 (.int .i64 (b0 : Int)) (.slice A2 ys.length c2); (try simp only [World.size_alloc] at h); exact h)
  have q1_0 := HX1.out.c0
  have q1_1 := HX1.out.c1
  have HB := Lib.hid (show Below w.heap.size w ((w.alloc (.cells #[.int .i64 (a0 : Int), .slice A1 xs.length c1] 27)).alloc (.cells #[.int .i64 (b0 : Int), .slice A2 ys.length c2] 27)) by repeat' first | exact gr_refl _ | with_reducible assumption | with_reducible apply gr_alloc | with_reducible apply gr_set | with_reducible apply gr_drew | with_reducible apply gr_drewN | exact Nat.le_add_right _ _ | exact Nat.le_refl _ | (refine gr_then (by with_reducible assumption) ?_))
  have hz : w.heap.size + 2 ≤ ((w.alloc (.cells #[.int .i64 (a0 : Int), .slice A1 xs.length c1] 27)).alloc (.cells #[.int .i64 (b0 : Int), .slice A2 ys.length c2] 27)).heap.size := by simp
  go_enter Try.func41, Try.ntmps41; go_wp2_with fail
  generalize (w.alloc (.cells #[.int .i64 (a0 : Int), .slice A1 xs.length c1] 27)).alloc (.cells #[.int .i64 (b0 : Int), .slice A2 ys.length c2] 27) = v0 at *
  go_at_call 79
  (with_reducible refine (motCode_any T _ _ _ _ _ _ (a0 : Int) (b0 : Int) xs ys _ HZ.out hx hy H.out H1.out H2.out).mono ?_)
  rintro e u1 ⟨rfl, hb⟩
  replace q0_0 := keepc hb q0_0
  replace q0_1 := keepc hb q0_1
  replace q1_0 := keepc hb q1_0
  replace q1_1 := keepc hb q1_1
  replace H := Lib.hid (H.out.laterT hb)
  replace H1 := Lib.hid (H1.out.later hb)
  replace H2 := Lib.hid (H2.out.later hb)
  replace HB := Lib.hid (gr_then hb HB.out)
  clear hb
  rw [HK.out]
  go_wp2_with fail
  go_at_call 80
  (with_reducible refine (firstC_any a0 b0 T _ _ _ _ _ _ xs ys _ HM0.out HM1.out HM2.out H.out H1.out H2.out).mono ?_)
  rintro e u2 ⟨rfl, hb⟩
  replace HB := Lib.hid (gr_then hb HB.out)
  clear hb
  go_wp2
  go_returns
  exact ⟨rfl, HB.out⟩
end Go.Proofs.Ytoojnfdphjdocaa
