/- RouteMotions, the program. -/
import Derived.Test.YtoojnfdphjdocaaRouteL
import Derived.Deep.RegionLaw
namespace Go.Proofs.Ytoojnfdphjdocaa
open Go.RowKit Go.Deep
set_option maxHeartbeats 4000000 in
set_option maxRecDepth 20000 in
theorem implSt_any (A : Option Addr) (c : Nat) (xs : List Int) (w : World) (hn : xs.length ≤ 1048576) (h : SV (.int .i64) w w.heap.size A xs) {r : Bool} (hr : stOk xs = r) : Calls Try.prog 71 #[.slice A xs.length c] w fun e w' => e = .returned (.bool r) ∧ w = w' := by
  subst hr
  by_cases hl : xs.length = 2
  case neg =>
    have hb : ((xs.length : Int) == 2) = false := by rw [beq_eq_false_iff_ne]; omega
    rw [show stOk xs = false by simp [stOk, hl]]
    clear hl
    go_enter Try.func71, Try.ntmps71; go_wp2; go_ret; exact ⟨rfl, rfl⟩
  match xs, hl with
  | [x, y], _ =>
    obtain ⟨p, o, rfl, hB, hc⟩ := h (by simp)
    have c0 : w.cell? ⟨p, o, none⟩ = some (.int .i64 x) := hc 0 x rfl
    have c1 := hc 1 y rfl
    clear hc h hn
    rw [show stOk [x, y] = (inI x 0 23 && inI y 0 23) by simp [stOk]]
    show Calls Try.prog 71 #[.slice (some ⟨p, o, none⟩) 2 c] w _
    cases k0 : inI x 0 23
    · have D0 := Lib.hid k0
      clear k0
      go_enter Try.func71, Try.ntmps71; go_wp2_with (go_at_call 50; (with_reducible refine (dir_is0 D0.out (isDir_any _ _)).mono ?_); rintro e w1 ⟨rfl, rfl⟩); go_ret; exact ⟨rfl, rfl⟩
    have D0 := Lib.hid k0
    clear k0
    cases k1 : inI y 0 23
    · have D1 := Lib.hid k1
      clear k1
      go_enter Try.func71, Try.ntmps71; go_wp2_with (first | (go_at_call 50; (with_reducible refine (dir_is0 D0.out (isDir_any _ _)).mono ?_); rintro e w1 ⟨rfl, rfl⟩) | (go_at_call 50; (with_reducible refine (dir_is0 D1.out (isDir_any _ _)).mono ?_); rintro e w1 ⟨rfl, rfl⟩)); go_ret; exact ⟨rfl, rfl⟩
    · have D1 := Lib.hid k1
      clear k1
      go_enter Try.func71, Try.ntmps71; go_wp2_with (first | (go_at_call 50; (with_reducible refine (dir_is0 D0.out (isDir_any _ _)).mono ?_); rintro e w1 ⟨rfl, rfl⟩) | (go_at_call 50; (with_reducible refine (dir_is0 D1.out (isDir_any _ _)).mono ?_); rintro e w1 ⟨rfl, rfl⟩)); go_ret; exact ⟨rfl, rfl⟩
theorem isTurn_is {n : Int} {r : Bool} (h : inI n (-1) 1 = r) (w : World) : Calls Try.prog 53 #[.int .i64 n] w fun e w' => e = .returned (.bool r) ∧ w = w' := by
  have J := Lib.hid h
  clear h
  go_enter Try.func53, Try.ntmps53; go_wp2_with (go_at_call 59; (with_reducible refine (in_is0 J.out (within_any _ _ _ _)).mono ?_); rintro e w1 ⟨rfl, rfl⟩); go_ret; exact ⟨rfl, rfl⟩
set_option maxHeartbeats 8000000 in
set_option maxRecDepth 20000 in
theorem implRm_any (A : Option Addr) (e0 : Nat) (T : List (List Int)) (w : World) (hz' : Sizes T) (hn : T.length ≤ 1048576) (h : TB (.int .i64) w w.heap.size A T) : Calls Try.prog 33 #[.slice A T.length e0] w (RetM2 (rmS T 0) (rmX T 0) (rmS T 1) (rmX T 1) (rmC T) 2 w) := by
  have HZ := Lib.hid hz'
  have HTT := Lib.hid h
  obtain ⟨i0, hi, hz0, hz1, hz2⟩ := info_parts infoInt
  have hw0 : Below w.heap.size w ((w.alloc (.cells #[.int .i64 0, .slice none 0 0] 27)).alloc (.cells #[.int .i64 0, .slice none 0 0] 27)) := by repeat' first | exact gr_refl _ | with_reducible assumption | with_reducible apply gr_alloc | with_reducible apply gr_set | with_reducible apply gr_drew | with_reducible apply gr_drewN | exact Nat.le_add_right _ _ | exact Nat.le_refl _ | (refine gr_then (by with_reducible assumption) ?_)
  have H := Lib.hid ((h.below hw0).more hw0.size)
  clear h hw0
  have HX0 := Lib.hid (show Box2 ((w.alloc (.cells #[.int .i64 0, .slice none 0 0] 27)).alloc (.cells #[.int .i64 0, .slice none 0 0] 27)) (w.heap.size) 27 (.int .i64 0) (.slice none 0 0) by have h := (Box2.new (w) 27 (.int .i64 0) (.slice none 0 0)).late (gr_alloc (o := .cells #[.int .i64 0, .slice none 0 0] 27) (gr_refl _)); (try simp only [World.size_alloc] at h); exact h)
  have q0_0 := HX0.out.c0
  have q0_1 := HX0.out.c1
  have HX1 := Lib.hid (show Box2 ((w.alloc (.cells #[.int .i64 0, .slice none 0 0] 27)).alloc (.cells #[.int .i64 0, .slice none 0 0] 27)) (w.heap.size + 1) 27 (.int .i64 0) (.slice none 0 0) by have h := Box2.new (w.alloc (.cells #[.int .i64 0, .slice none 0 0] 27)) 27 (.int .i64 0) (.slice none 0 0); (try simp only [World.size_alloc] at h); exact h)
  have q1_0 := HX1.out.c0
  have q1_1 := HX1.out.c1
  have HB := Lib.hid (show Below w.heap.size w ((w.alloc (.cells #[.int .i64 0, .slice none 0 0] 27)).alloc (.cells #[.int .i64 0, .slice none 0 0] 27)) by repeat' first | exact gr_refl _ | with_reducible assumption | with_reducible apply gr_alloc | with_reducible apply gr_set | with_reducible apply gr_drew | with_reducible apply gr_drewN | exact Nat.le_add_right _ _ | exact Nat.le_refl _ | (refine gr_then (by with_reducible assumption) ?_))
  have hz : w.heap.size + 2 ≤ ((w.alloc (.cells #[.int .i64 0, .slice none 0 0] 27)).alloc (.cells #[.int .i64 0, .slice none 0 0] 27)).heap.size := by simp
  have f0_0 := HX0.out.f0 0
  have f0_1 := HX0.out.f0 1
  have f1_0 := HX1.out.f0 0
  have f1_1 := HX1.out.f0 1
  obtain ⟨S0, hS0⟩ : ∃ S0, rmS T 0 = S0 := ⟨_, rfl⟩
  obtain ⟨S1, hS1⟩ : ∃ S1, rmS T 1 = S1 := ⟨_, rfl⟩
  obtain ⟨X0, hX0⟩ : ∃ X0, rmX T 0 = X0 := ⟨_, rfl⟩
  obtain ⟨X1, hX1⟩ : ∃ X1, rmX T 1 = X1 := ⟨_, rfl⟩
  obtain ⟨C, hC⟩ : ∃ C, rmC T = C := ⟨_, rfl⟩
  obtain ⟨n, hn'⟩ : ∃ n, T.length = n := ⟨_, rfl⟩
  have HBAD : Hid (∀ k, rmC T = k → ¬ k = 0 → S0 = 0 ∧ S1 = 0 ∧ X0 = [] ∧ X1 = [] ∧ C = k) := fun k h1 h2 => by subst hS0; subst hS1; subst hX0; subst hX1; subst hC; exact ⟨(rm_of h1 h2).1 0, (rm_of h1 h2).1 1, (rm_of h1 h2).2 0, (rm_of h1 h2).2 1, h1⟩
  have HGOOD : Hid (rmC T = 0 → S0 = cellI T 0 0 ∧ S1 = cellI T 0 1 ∧ X0 = rmXk T 0 n ∧ X1 = rmXk T 1 n ∧ C = 0) := fun h1 => by subst hS0; subst hS1; subst hX0; subst hX1; subst hC; subst hn'; exact ⟨(rm_good h1).1 0, (rm_good h1).1 1, (rm_good h1).2 0, (rm_good h1).2 1, h1⟩
  have HN := Lib.hid hn'
  rw [hS0, hS1, hX0, hX1, hC]
  rw [hn'] at hn ⊢
  clear hS0 hS1 hX0 hX1 hC hn'
  by_cases hl : inI (n : Int) 1 201 = true
  case neg =>
    have hl := (Bool.not_eq_true _).mp hl
    have hcd : rmC T = 2 := rm_len (by rw [HN.out]; exact hl)
    obtain ⟨rfl, rfl, rfl, rfl, rfl⟩ := HBAD.out 2 hcd (by decide)
    have J := Lib.hid hl
    clear hl hcd
    go_enter Try.func33, Try.ntmps33; go_wp2_with fail
    generalize (w.alloc (.cells #[.int .i64 0, .slice none 0 0] 27)).alloc (.cells #[.int .i64 0, .slice none 0 0] 27) = v0 at *
    go_wp2_with (go_at_call 59; (with_reducible refine (in_is0 J.out (within_any _ _ _ _)).mono ?_); rintro e w1 ⟨rfl, rfl⟩)
    refine bodyPost_ret (v := .tuple #[.agg #[.int .i64 0, .slice none 0 0], .agg #[.int .i64 0, .slice none 0 0], .int .i64 2]) (by simp [results, Try.results33, go_sem, *]) rfl ⟨none, 0, none, 0, w.heap.size, w.heap.size + 1, rfl, RS.nil, RS.nil, by omega, ?_, ?_, ?_⟩
    · constructor <;> (try simp) <;> omega
    · constructor <;> (try simp) <;> omega
    · have := HB.out
      repeat' first | exact gr_refl _ | with_reducible assumption | with_reducible apply gr_alloc | with_reducible apply gr_drew | with_reducible apply gr_drewN | (refine gr_set (by dsimp only; omega) ?_)
  have hl2 := inI_t hl
  have HL : Hid (inI (T.length : Int) 1 201 = true) := by rw [HN.out]; exact hl
  have J := Lib.hid hl
  have hn201 : n ≤ 201 := by omega
  have hn1 : 1 ≤ n := by omega
  clear hl hl2
  have hzw := HB.out.size
  go_enter Try.func33, Try.ntmps33; go_wp2_with fail
  generalize (w.alloc (.cells #[.int .i64 0, .slice none 0 0] 27)).alloc (.cells #[.int .i64 0, .slice none 0 0] 27) = v0 at *
  go_wp2_with (go_at_call 59; (with_reducible refine (in_is0 J.out (within_any _ _ _ _)).mono ?_); rintro e w1 ⟨rfl, rfl⟩)
  have HT0 := Lib.hid (show Two w v0.heap.size w.heap.size (w.heap.size + 1) v0.heap.size (v0.heap.size + 1) 2 27 ((v0.alloc (.cells #[.int .i64 0, .slice none 0 0] 27)).alloc (.cells #[.int .i64 0, .slice none 0 0] 27)) 0 none 0 0 [] 0 none 0 0 [] from by
    have e1 : Below v0.heap.size v0 ((v0.alloc (.cells #[.int .i64 0, .slice none 0 0] 27)).alloc (.cells #[.int .i64 0, .slice none 0 0] 27)) := gr_alloc (gr_alloc (gr_refl v0))
    refine { ll := (by simp only [World.size_alloc]; omega), l0 := Nat.le_refl _, l1 := by omega, lr0 := by omega, lr1 := by omega, lm1 := by omega, lm2 := by omega, mm := by omega, len1 := rfl, len2 := rfl, r1 := RS.nil, r2 := RS.nil, o1 := (fun g e => by cases e), o2 := (fun g e => by cases e), oo := (fun g k e _ => by cases e), b1 := ?_, b2 := ?_, z0 := HX0.out.late e1, z1 := HX1.out.late e1, bw := gr_then e1 HB.out }
    · exact (Box2.new v0 27 _ _).late (gr_alloc (gr_refl _))
    · have h := Box2.new (v0.alloc (.cells #[.int .i64 0, .slice none 0 0] 27)) 27 (.int .i64 0) (.slice none 0 0); rw [World.size_alloc] at h; exact h)
  go_loopw [19] (fun i wr => ∃ (k N q1 q2 : Nat) (A1 A2 : Option Addr), k ≤ n ∧ i = .int .i64 (k : Int) ∧ (k = 0 ∧ N = 0 ∨ k = N + 1) ∧ Hid (∀ j, j < k → rmF T j = 0) ∧ Two w v0.heap.size w.heap.size (w.heap.size + 1) v0.heap.size (v0.heap.size + 1) 2 27 wr (if k = 0 then 0 else cellI T 0 0) A1 N q1 (rmXk T 0 k) (if k = 0 then 0 else cellI T 0 1) A2 N q2 (rmXk T 1 k)) (fun i _ => n - (intOf i).toNat)
  case atStart => exact ⟨0, 0, 0, 0, _, _, by omega, by simp, .inl ⟨rfl, rfl⟩, fun j hj => by omega, HT0.out⟩
  case round =>
    obtain ⟨k, N, q1, q2, A1, A2, hk, rfl, hkN, HNO, htw⟩ := hrel
    have HTW := Lib.hid htw
    have hbw := htw.bw
    have g0 := htw.z0.c0
    have g1 := htw.z0.c1
    have g2 := htw.z0.f0 0
    have g3 := htw.z0.f0 1
    have g4 := htw.z1.c0
    have g5 := htw.z1.c1
    have g6 := htw.z1.f0 0
    have g7 := htw.z1.f0 1
    have p0 := htw.b1.c0
    have p1 := htw.b1.c1
    have p2 := htw.b2.c0
    have p3 := htw.b2.c1
    have p4 := htw.b1.f0 0
    have p5 := htw.b2.f0 0
    have hll := htw.ll
    have hm1l := htw.b1.lt
    have hm2l := htw.b2.lt
    have hszw := hbw.size
    have HBW := Lib.hid hbw
    have HTB := Lib.hid (HTT.out.below hbw)
    clear htw hbw
    by_cases hlt : k < n
    case neg =>
      obtain rfl : k = n := by omega
      have hcd : rmC T = 0 := rm_none HL.out (by rw [HN.out]; exact HNO.out)
      obtain ⟨rfl, rfl, rfl, rfl, rfl⟩ := HGOOD.out hcd
      have hk0 : ¬ k = 0 := by omega
      have HTW2 := HTW.out
      rw [if_neg hk0] at HTW2 p0
      simp only [if_neg hk0] at HTW2 p0 p2
      replace HTW := Lib.hid HTW2
      clear HTW2 hcd hk0
      obtain ⟨p, q, h1, h2, h3, h4, h5, h6⟩ := HTW.out.ret (by omega) (.int .i64 (cellI T 0 0)) (.slice A1 N q1) (.int .i64 (cellI T 0 1)) (.slice A2 N q2)
      have HR9 := Lib.hid (And.intro h1 (And.intro h2 (And.intro h3 (And.intro h4 (And.intro h5 h6)))))
      clear h1 h2 h3 h4 h5 h6 hk
      go_wp2
      go_region
      all_goals
        go_wp2
        refine bodyPost_ret (v := .tuple #[.agg #[.int .i64 (cellI T 0 0), .slice A1 N q1], .agg #[.int .i64 (cellI T 0 1), .slice A2 N q2], .int .i64 0]) (by simp [results, Try.results33, go_sem, *]) rfl ?_
        obtain ⟨h1, h2, h3, h4, h5, h6⟩ := HR9.out
        exact ⟨A1, q1, A2, q2, p, q, by rw [HTW.out.len1, HTW.out.len2], h1.late (gr_drew (gr_refl _)), h2.late (gr_drew (gr_refl _)), h3, h4, h5, h6.drew⟩
    obtain ⟨xs, hx⟩ := at_of_lt (xs := T) (k := k) (by rw [HN.out]; exact hlt)
    have HX := Lib.hid hx
    obtain ⟨pp, po, A', c', ea, hpB, hc, hsv⟩ := HTB.out.row hx
    subst ea
    have HSV := Lib.hid hsv
    have hxl := HZ.out.2 k xs hx
    clear hsv hx
    by_cases hst : stOk xs = true
    case neg =>
      have hst := (Bool.not_eq_true _).mp hst
      have hcd : rmC T = 1 := rm_hit HL.out (by rw [HN.out]; exact hlt) HNO.out (rmF_bad HX.out hst) (by decide)
      obtain ⟨rfl, rfl, rfl, rfl, rfl⟩ := HBAD.out 1 hcd (by decide)
      have HST := Lib.hid hst
      clear hst hcd
      go_wp2_with (go_at_call 71; (with_reducible refine (implSt_any _ _ xs _ hxl (HSV.out.more hszw) HST.out).mono ?_); rintro e w1 ⟨rfl, rfl⟩)
      refine bodyPost_ret (v := .tuple #[.agg #[.int .i64 0, .slice none 0 0], .agg #[.int .i64 0, .slice none 0 0], .int .i64 1]) (by simp [results, Try.results33, go_sem, *]) rfl ⟨none, 0, none, 0, w.heap.size, w.heap.size + 1, rfl, RS.nil, RS.nil, by omega, ?_, ?_, ?_⟩
      · constructor <;> (try simp) <;> omega
      · constructor <;> (try simp) <;> omega
      · have := HBW.out
        repeat' first | exact gr_refl _ | with_reducible assumption | with_reducible apply gr_alloc | with_reducible apply gr_drew | with_reducible apply gr_drewN | (refine gr_set (by dsimp only; omega) ?_)
    have HST := Lib.hid hst
    obtain ⟨a1, b1, qb1, qo1, ha1, hb1, rfl, rfl, hqB1, ca1, cb1⟩ := stOk_t hst HSV.out
    have hc1 : wr.cell? ⟨pp, po + k, none⟩ = some (.slice (some ⟨qb1, qo1, none⟩) 2 c') := hc
    have HCE1 := Lib.hid (cell_of HX.out)
    clear hst hc
    have HSX : Hid (Calls Try.prog 71 #[.slice (some ⟨qb1, qo1, none⟩) 2 c'] wr fun e w' => e = .returned (.bool true) ∧ wr = w') := implSt_any _ c' [(a1 : Int), (b1 : Int)] wr hxl (HSV.out.more hszw) HST.out
    by_cases hk0 : k = 0
    case pos =>
      subst hk0
      obtain rfl : N = 0 := by omega
      clear hkN
      have HTW3 := HTW.out
      rw [if_pos rfl, if_pos rfl] at HTW3
      replace HTW3 := Lib.hid (HTW3.start (a1 : Int) (b1 : Int))
      rw [if_pos rfl] at p0 p2
      rw [Nat.add_zero] at hc1
      rw [show ((0 : Nat) : Int) = 0 from rfl]
      have p6 := setfar (p := ⟨v0.heap.size, 0, none⟩) (u := .int .i64 (a1 : Int)) p2 (by simp only; omega)
      have d1 := setfar (p := ⟨v0.heap.size, 0, none⟩) (u := .int .i64 (a1 : Int)) hc1 (by simp only; omega)
      have d2 := setfar (p := ⟨v0.heap.size, 0, none⟩) (u := .int .i64 (a1 : Int)) cb1 (by simp only; omega)
      have d3 : ¬ pp = v0.heap.size := by omega
      have d4 : ¬ qb1 = v0.heap.size := by omega
      have pn : (0 : Int) < (n : Int) := by omega
      have pn2 : 0 < n := by omega
      go_wp2_with (go_at_call 71; (with_reducible refine HSX.out.mono ?_); rintro e w1 ⟨rfl, rfl⟩)
      go_region
      all_goals go_wp2
      all_goals
        go_roundw
        case rel => exact ⟨1, 0, q1, q2, A1, A2, by omega, by first | rfl | go_num, .inr rfl, fun j hj => by obtain rfl : j = 0 := (by omega); exact rmF_first HX.out HST.out, by rw [if_neg (by decide), if_neg (by decide), HCE1.out.1, HCE1.out.2]; first | exact HTW3.out | exact HTW3.out.late (gr_drew (gr_refl _))⟩
        case measure => simp [intOf]; omega
    have hkk : k = N + 1 := by omega
    have hkk1 : N + 1 ≤ k := by omega
    have hkk2 : k ≤ N + 1 := by omega
    clear hkk hkN
    have HTW2 := HTW.out
    simp only [if_neg hk0] at HTW2 p0 p2
    replace HTW := Lib.hid HTW2
    clear HTW2 hk0
    obtain ⟨ys, hy⟩ := at_of_lt (xs := T) (k := N) (by rw [HN.out]; omega)
    have HY := Lib.hid hy
    have hst2 := rmF_st hy (HNO.out N (by omega))
    obtain ⟨pp2, po2, A2', c2', ea2, hpB2, hc2', hsv2⟩ := HTB.out.row hy
    simp only [Option.some.injEq, Addr.mk.injEq, and_true] at ea2
    obtain ⟨rfl, rfl⟩ := ea2
    have HSV2 := Lib.hid hsv2
    clear hsv2 hy
    obtain ⟨a2, b2, qb2, qo2, ha2, hb2, rfl, rfl, hqB2, ca2, cb2⟩ := stOk_t hst2 HSV2.out
    have hc2 : wr.cell? ⟨pp, po + N, none⟩ = some (.slice (some ⟨qb2, qo2, none⟩) 2 c2') := hc2'
    have HCE2 := Lib.hid (cell_of HY.out)
    clear hst2 hc2'
    obtain ⟨X, hX⟩ : ∃ X, turnI (a2 : Int) (a1 : Int) = X := ⟨_, rfl⟩
    obtain ⟨Y, hY⟩ : ∃ Y, turnI (b2 : Int) (b1 : Int) = Y := ⟨_, rfl⟩
    have hXb := hX ▸ turnI_bd (a2 : Int) (a1 : Int)
    have hYb := hY ▸ turnI_bd (b2 : Int) (b1 : Int)
    have HT1 : Hid (∀ w : World, Calls Try.prog 72 #[.int .i64 (a2 : Int), .int .i64 (a1 : Int)] w fun e w' => e = .returned (.int .i64 X) ∧ w = w') := fun w => by have h := turnBetween_any (a2 : Int) (a1 : Int) w (by omega) (by omega); rw [hX] at h; exact h
    have HT2 : Hid (∀ w : World, Calls Try.prog 72 #[.int .i64 (b2 : Int), .int .i64 (b1 : Int)] w fun e w' => e = .returned (.int .i64 Y) ∧ w = w') := fun w => by have h := turnBetween_any (b2 : Int) (b1 : Int) w (by omega) (by omega); rw [hY] at h; exact h
    have HTX := Lib.hid (show tnI T k 0 = X by unfold tnI; rw [show k - 1 = N by omega, HCE1.out.1, HCE2.out.1]; exact hX)
    have HTY := Lib.hid (show tnI T k 1 = Y by unfold tnI; rw [show k - 1 = N by omega, HCE1.out.2, HCE2.out.2]; exact hY)
    have HRS := Lib.hid (show rmStep T k = (inI X (-1) 1 && inI Y (-1) 1) by unfold rmStep; rw [HTX.out, HTY.out])
    clear hX hY
    have hkb : ((k : Int) == 0) = false := by rw [beq_eq_false_iff_ne]; omega
    have hw1 : IntKind.i64.wrap ((k : Int) - 1) = (N : Int) := by rw [IntWalk.i64_in _ (by omega)]; omega
    have hw2 : (0 : Int) ≤ (N : Int) := by omega
    have hw3 : (N : Int) < (n : Int) := by omega
    have hw4 : N < n := by omega
    have hw5 : (0 : Int) ≤ (k : Int) := by omega
    have hw6 : (k : Int) < (n : Int) := by omega
    cases k1 : inI X (-1) 1
    · have hcd : rmC T = 6 := rm_hit HL.out (by rw [HN.out]; exact hlt) HNO.out ((rmF_step HX.out HST.out (by omega) (show rmStep T k = false by rw [HRS.out]; simp [*])).trans (if_neg (by decide))) (by decide)
      obtain ⟨rfl, rfl, rfl, rfl, rfl⟩ := HBAD.out 6 hcd (by decide)
      have I1 := Lib.hid k1
      clear k1 hcd
      go_wp2_with (go_at_call 71; (with_reducible refine HSX.out.mono ?_); rintro e w1 ⟨rfl, rfl⟩)
      go_quiet ((go_at_call 72; first | (with_reducible refine quiet_left (HT1.out _)) | (with_reducible refine quiet_left (HT2.out _))))
      obtain ⟨na, rfl⟩ : ∃ m, m = nq := ⟨_, rfl⟩
      go_wp2_with (go_at_call 53; (with_reducible refine (isTurn_is I1.out _).mono ?_); rintro e w1 ⟨rfl, rfl⟩)
      refine bodyPost_ret (v := .tuple #[.agg #[.int .i64 0, .slice none 0 0], .agg #[.int .i64 0, .slice none 0 0], .int .i64 6]) (by simp [results, Try.results33, go_sem, *]) rfl ⟨none, 0, none, 0, w.heap.size, w.heap.size + 1, rfl, RS.nil, RS.nil, by omega, ?_, ?_, ?_⟩
      · constructor <;> (try simp) <;> omega
      · constructor <;> (try simp) <;> omega
      · have := HBW.out
        repeat' first | exact gr_refl _ | with_reducible assumption | with_reducible apply gr_alloc | with_reducible apply gr_drew | with_reducible apply gr_drewN | (refine gr_set (by dsimp only; omega) ?_)
    cases k2 : inI Y (-1) 1
    · have hcd : rmC T = 6 := rm_hit HL.out (by rw [HN.out]; exact hlt) HNO.out ((rmF_step HX.out HST.out (by omega) (show rmStep T k = false by rw [HRS.out]; simp [*])).trans (if_neg (by decide))) (by decide)
      obtain ⟨rfl, rfl, rfl, rfl, rfl⟩ := HBAD.out 6 hcd (by decide)
      have I1 := Lib.hid k1
      have I2 := Lib.hid k2
      clear k1 k2 hcd
      go_wp2_with (go_at_call 71; (with_reducible refine HSX.out.mono ?_); rintro e w1 ⟨rfl, rfl⟩)
      go_quiet ((go_at_call 72; first | (with_reducible refine quiet_left (HT1.out _)) | (with_reducible refine quiet_left (HT2.out _))))
      obtain ⟨na, rfl⟩ : ∃ m, m = nq := ⟨_, rfl⟩
      go_wp2_with (first | (go_at_call 53; (with_reducible refine (isTurn_is I1.out _).mono ?_); rintro e w1 ⟨rfl, rfl⟩) | (go_at_call 53; (with_reducible refine (isTurn_is I2.out _).mono ?_); rintro e w1 ⟨rfl, rfl⟩))
      refine bodyPost_ret (v := .tuple #[.agg #[.int .i64 0, .slice none 0 0], .agg #[.int .i64 0, .slice none 0 0], .int .i64 6]) (by simp [results, Try.results33, go_sem, *]) rfl ⟨none, 0, none, 0, w.heap.size, w.heap.size + 1, rfl, RS.nil, RS.nil, by omega, ?_, ?_, ?_⟩
      · constructor <;> (try simp) <;> omega
      · constructor <;> (try simp) <;> omega
      · have := HBW.out
        repeat' first | exact gr_refl _ | with_reducible assumption | with_reducible apply gr_alloc | with_reducible apply gr_drew | with_reducible apply gr_drewN | (refine gr_set (by dsimp only; omega) ?_)
    have HF0 := Lib.hid (show rmF T k = 0 from (rmF_step HX.out HST.out (by omega) (show rmStep T k = true by rw [HRS.out, k1, k2]; rfl)).trans (if_pos rfl))
    have I1 := Lib.hid k1
    have I2 := Lib.hid k2
    clear k1 k2
    obtain ⟨x0, hx0⟩ : ∃ x, rmXk T 0 k = x := ⟨_, rfl⟩
    obtain ⟨x1, hx1⟩ : ∃ x, rmXk T 1 k = x := ⟨_, rfl⟩
    have HX0k := Lib.hid hx0
    have HX1k := Lib.hid hx1
    rw [hx0, hx1] at HTW
    clear hx0 hx1
    obtain ⟨s0, hs0⟩ : ∃ s, cellI T 0 0 = s := ⟨_, rfl⟩
    obtain ⟨s1, hs1⟩ : ∃ s, cellI T 0 1 = s := ⟨_, rfl⟩
    have HS0 := Lib.hid hs0
    have HS1 := Lib.hid hs1
    rw [hs0] at p0 HTW
    rw [hs1] at p2 HTW
    clear hs0 hs1
    go_wp2_with (go_at_call 71; (with_reducible refine HSX.out.mono ?_); rintro e w1 ⟨rfl, rfl⟩)
    go_quiet ((go_at_call 72; first | (with_reducible refine quiet_left (HT1.out _)) | (with_reducible refine quiet_left (HT2.out _))))
    obtain ⟨na, rfl⟩ : ∃ m, m = nq := ⟨_, rfl⟩
    have HTZ := Lib.hid (show Two w v0.heap.size w.heap.size (w.heap.size + 1) v0.heap.size (v0.heap.size + 1) 2 27 (wr.drewN na) s0 A1 N q1 x0 s1 A2 N q2 x1 from HTW.out.late (gr_drewN (gr_refl wr)))
    go_wp2_with (first | (go_at_call 53; (with_reducible refine (isTurn_is I1.out _).mono ?_); rintro e w1 ⟨rfl, rfl⟩) | (go_at_call 53; (with_reducible refine (isTurn_is I2.out _).mono ?_); rintro e w1 ⟨rfl, rfl⟩) | (at_builtin; refine wpList_app (by rfl) _ _ 22 (by rfl) (v0.heap.size) 2 i0 (.int .i64 0) 8 Try.underlying22 hi hz0 hz1 hz2 (by rfl) (Value.int .i64) (fun _ => rfl) A1 (N) (q1) (x0) _ (by rfl) HTZ.out.len1 (HTZ.out.r1.late (gr_alloc (gr_refl (wr.drewN na)))) (some ⟨wr.heap.size, 0, none⟩) 1 1 [X] _ (by rfl) (by rfl) (SV.of_new (wr.drewN na)) (fun h => by cases h) (by unfold maxLen; omega) (by omega) (by simp only [World.size_alloc]; exact Nat.le_succ_of_le hll) ?_; intro A3 c3 w2 hr2 hgrow hblk; obtain ⟨⟨u0, u1, u2⟩, htw2⟩ := HTZ.out.app hr2 hgrow hblk; have u3 := htw2.b2.c1; have u4 := htw2.b2.f0 1; have HS3 := Lib.hid (show (w2.setCell ⟨v0.heap.size, 1, none⟩ (.slice A3 (N + 1) c3)).heap.size = w2.heap.size by simp [World.setCell]); have HT3 := Lib.hid htw2; clear hr2 hgrow hblk htw2) | (at_builtin; refine wpList_app (by rfl) _ _ 22 (by rfl) (v0.heap.size) 2 i0 (.int .i64 0) 8 Try.underlying22 hi hz0 hz1 hz2 (by rfl) (Value.int .i64) (fun _ => rfl) A2 (N) (q2) (x1) _ (by rfl) HT3.out.swap.len1 (HT3.out.swap.r1.late (gr_alloc (gr_refl (w2.setCell ⟨v0.heap.size, 1, none⟩ (.slice A3 (N + 1) c3))))) (some ⟨w2.heap.size, 0, none⟩) 1 1 [Y] _ (by rfl) (by rfl) (SV.new_at HS3.out) (fun h => by cases h) (by unfold maxLen; omega) (by omega) (by simp only [World.size_alloc]; exact Nat.le_succ_of_le HT3.out.ll) ?_; intro A4 c4 w4 hr2 hgrow hblk; obtain ⟨⟨u5, u6, u7⟩, htw2⟩ := HT3.out.swap.app hr2 hgrow hblk; have HT4 := Lib.hid htw2; clear hr2 hgrow hblk htw2))
    go_roundw
    case rel => exact ⟨k + 1, N + 1, c3, c4, A3, A4, by omega, by go_num, .inr (by omega), fun j hj => by by_cases e : j = k; (subst e; exact HF0.out); exact HNO.out j (by omega), by rw [if_neg (by omega), if_neg (by omega), rmXk_succ T 0 (by omega), rmXk_succ T 1 (by omega), HX0k.out, HX1k.out, HTX.out, HTY.out, HS0.out, HS1.out]; exact HT4.out.swap⟩
    case measure => simp [intOf]; omega
end Go.Proofs.Ytoojnfdphjdocaa
