/- LeastDelay, both sides. -/
import Derived.Test.YtoojnfdphjdocaaFcB
import Derived.Test.YtoojnfdphjdocaaMotJ
namespace Go.Proofs.Ytoojnfdphjdocaa
open Go.RowKit
def fcA (T : List (List Bool)) (s : Int) (xs : List Int) (t : Int) (ys : List Int) : Int := fcV (pF T s xs t ys) (max xs.length ys.length)
/-- the other motion, k steps later, is free of conflicts -/
def ldP (T : List (List Bool)) (s : Int) (xs : List Int) (t : Int) (ys : List Int) (k : Nat) : Bool := decide (fcA T s xs t (List.replicate k 0 ++ ys) < 0)
def ldM (xs ys : List Int) : Nat := min xs.length (200 - ys.length)
def ldV (T : List (List Bool)) (s : Int) (xs : List Int) (t : Int) (ys : List Int) : Int := fcV (ldP T s xs t ys) (ldM xs ys)
def ldN (T : List (List Bool)) (s : Int) (xs : List Int) (t : Int) (ys : List Int) : Int := if fcC T s xs t ys = 0 then (if ldV T s xs t ys < 0 then 0 else ldV T s xs t ys) else 0
def ldC (T : List (List Bool)) (s : Int) (xs : List Int) (t : Int) (ys : List Int) : Int := if fcC T s xs t ys = 0 then (if ldV T s xs t ys < 0 then 3 else 0) else fcC T s xs t ys
theorem ld_bad {T : List (List Bool)} {s : Int} {xs : List Int} {t : Int} {ys : List Int} (h : ¬ fcC T s xs t ys = 0) : ldN T s xs t ys = 0 ∧ ldC T s xs t ys = fcC T s xs t ys := by
  unfold ldN ldC; rw [if_neg h, if_neg h]; exact ⟨rfl, rfl⟩
theorem ld_hit {T : List (List Bool)} {s : Int} {xs : List Int} {t : Int} {ys : List Int} (h : fcC T s xs t ys = 0) {k : Nat} (hk : k ≤ ldM xs ys) (hp : ldP T s xs t ys k = true) (hl : ∀ j, j < k → ldP T s xs t ys j = false) : ldN T s xs t ys = k ∧ ldC T s xs t ys = 0 := by
  have hv : ldV T s xs t ys = k := fcV_hit hk hp hl
  unfold ldN ldC; rw [if_pos h, if_pos h, hv, if_neg (by omega), if_neg (by omega)]; exact ⟨rfl, rfl⟩
theorem ld_none {T : List (List Bool)} {s : Int} {xs : List Int} {t : Int} {ys : List Int} (h : fcC T s xs t ys = 0) (hl : ∀ j, j ≤ ldM xs ys → ldP T s xs t ys j = false) : ldN T s xs t ys = 0 ∧ ldC T s xs t ys = 3 := by
  have hv : ldV T s xs t ys = -1 := fcV_none hl
  unfold ldN ldC; rw [if_pos h, if_pos h, hv, if_pos (by omega), if_pos (by omega)]; exact ⟨rfl, rfl⟩
theorem okM_later {s : Int} {ys : List Int} {k : Nat} (h : okM s ys = true) (hk : k + ys.length ≤ 200) : okM s (List.replicate k 0 ++ ys) = true := by
  unfold okM allTurn at h ⊢
  simp only [Bool.and_eq_true, decide_eq_true_eq] at h ⊢
  refine ⟨⟨h.1.1, by simp; omega⟩, ?_⟩
  rw [List.all_append, h.2, Bool.and_true, List.all_eq_true]
  intro x hx
  rw [List.eq_of_mem_replicate hx]
  decide
set_option maxHeartbeats 8000000 in
set_option maxRecDepth 20000 in
theorem specLd_any (T : List (List Bool)) (A A1 A2 : Option Addr) (e0 c1 c2 : Nat) (s t : Int) (xs ys : List Int) (w : World) (hz : Sizes T) (hx : xs.length ≤ 1048576) (hy : ys.length ≤ 1048576) (g : A2 = none → c2 = 0) (h : TB .bool w w.heap.size A T) (h1 : SV (.int .i64) w w.heap.size A1 xs) (h2 : SV (.int .i64) w w.heap.size A2 ys) : Calls Try.prog 43 #[.slice A T.length e0, .agg #[.int .i64 s, .slice A1 xs.length c1], .agg #[.int .i64 t, .slice A2 ys.length c2]] w (fun e w' => e = .returned (.tuple #[.int .i64 (ldN T s xs t ys), .int .i64 (ldC T s xs t ys)]) ∧ Below w.heap.size w w') := by
  by_cases hc0 : fcC T s xs t ys = 0
  case neg =>
    rw [(ld_bad hc0).1, (ld_bad hc0).2]
    obtain ⟨k, hk⟩ : ∃ k, fcC T s xs t ys = k := ⟨_, rfl⟩
    have HK := Lib.hid hk
    have hne : (k != 0) = true := by rw [bne_iff_ne, ← hk]; exact hc0
    rw [hk]
    clear hk hc0
    have hw0 : Below w.heap.size w ((w.alloc (.cells #[.int .i64 s, .slice A1 xs.length c1] 27)).alloc (.cells #[.int .i64 t, .slice A2 ys.length c2] 27)) := by repeat' first | exact gr_refl _ | with_reducible assumption | with_reducible apply gr_alloc | with_reducible apply gr_set | with_reducible apply gr_drew | with_reducible apply gr_drewN | exact Nat.le_add_right _ _ | exact Nat.le_refl _ | (refine gr_then (by with_reducible assumption) ?_)
    have H := Lib.hid (h.laterT hw0)
    have H1 := Lib.hid (h1.later hw0)
    have H2 := Lib.hid (h2.later hw0)
    have HZ := Lib.hid hz
    have hT1 := hz.1
    have HG := Lib.hid g
    clear h h1 h2 hw0 hz g
    have HX0 := Lib.hid (show Box2 ((w.alloc (.cells #[.int .i64 s, .slice A1 xs.length c1] 27)).alloc (.cells #[.int .i64 t, .slice A2 ys.length c2] 27)) (w.heap.size) 27 (.int .i64 s) (.slice A1 xs.length c1) by have h := (Box2.new (w) 27 (.int .i64 s) (.slice A1 xs.length c1)).late (gr_alloc (o := .cells #[.int .i64 t, .slice A2 ys.length c2] 27) (gr_refl _)); (try simp only [World.size_alloc] at h); exact h)
    have q0_0 := HX0.out.c0
    have q0_1 := HX0.out.c1
    have HX1 := Lib.hid (show Box2 ((w.alloc (.cells #[.int .i64 s, .slice A1 xs.length c1] 27)).alloc (.cells #[.int .i64 t, .slice A2 ys.length c2] 27)) (w.heap.size + 1) 27 (.int .i64 t) (.slice A2 ys.length c2) by have h := Box2.new (w.alloc (.cells #[.int .i64 s, .slice A1 xs.length c1] 27)) 27 (.int .i64 t) (.slice A2 ys.length c2); (try simp only [World.size_alloc] at h); exact h)
    have q1_0 := HX1.out.c0
    have q1_1 := HX1.out.c1
    have HB := Lib.hid (show Below w.heap.size w ((w.alloc (.cells #[.int .i64 s, .slice A1 xs.length c1] 27)).alloc (.cells #[.int .i64 t, .slice A2 ys.length c2] 27)) by repeat' first | exact gr_refl _ | with_reducible assumption | with_reducible apply gr_alloc | with_reducible apply gr_set | with_reducible apply gr_drew | with_reducible apply gr_drewN | exact Nat.le_add_right _ _ | exact Nat.le_refl _ | (refine gr_then (by with_reducible assumption) ?_))
    have hz : w.heap.size + 2 ≤ ((w.alloc (.cells #[.int .i64 s, .slice A1 xs.length c1] 27)).alloc (.cells #[.int .i64 t, .slice A2 ys.length c2] 27)).heap.size := by simp
    go_enter Try.func43, Try.ntmps43; go_wp2_with fail
    generalize (w.alloc (.cells #[.int .i64 s, .slice A1 xs.length c1] 27)).alloc (.cells #[.int .i64 t, .slice A2 ys.length c2] 27) = v0 at *
    go_at_call 76
    (with_reducible refine (l16Code_any _ _ T _ _ _ _ _ _ s t xs ys _ hT1 hx hy H.out q0_0 q0_1 q1_0 q1_1 H1.out H2.out).mono ?_)
    rintro e u1 ⟨rfl, rfl⟩
    rw [HK.out]
    go_wp2
    go_returns
    exact ⟨rfl, HB.out⟩
  obtain ⟨k0, k1, k2⟩ := fc_ok hc0
  obtain ⟨a0, rfl⟩ := okM_nat k1
  obtain ⟨b0, rfl⟩ := okM_nat k2
  have HK := Lib.hid hc0
  have HM0 := Lib.hid k0
  have HM1 := Lib.hid k1
  have HM2 := Lib.hid k2
  have hx2 := (okM_t k1).2.1
  have hy2 := (okM_t k2).2.1
  obtain ⟨M, hM⟩ : ∃ M, ldM xs ys = M := ⟨_, rfl⟩
  have hM1 : M ≤ xs.length ∧ M + ys.length ≤ 200 := by unfold ldM at hM; omega
  have hM2 : ∀ k, k ≤ xs.length → k + ys.length ≤ 200 → k ≤ M := by unfold ldM at hM; intro k; omega
  obtain ⟨P, hP⟩ : ∃ P, ldP T a0 xs b0 ys = P := ⟨_, rfl⟩
  obtain ⟨R, hR⟩ : ∃ R, ldN T a0 xs b0 ys = R := ⟨_, rfl⟩
  obtain ⟨L, hL⟩ : ∃ L, ldC T a0 xs b0 ys = L := ⟨_, rfl⟩
  have HH : Hid (∀ k : Nat, k ≤ M → P k = true → (∀ j, j < k → P j = false) → R = (k : Int) ∧ L = 0) := fun k h1 h2 h3 => by subst hP; subst hR; subst hL; subst hM; exact ld_hit HK.out h1 h2 h3
  have HN : Hid ((∀ j, j ≤ M → P j = false) → R = 0 ∧ L = 3) := fun h3 => by subst hP; subst hR; subst hL; subst hM; exact ld_none HK.out h3
  have HP : Hid (∀ k, P k = decide (fcA T a0 xs b0 (List.replicate k 0 ++ ys) < 0)) := fun k => by rw [← hP]; rfl
  rw [hR, hL]
  have HM3 := Lib.hid hM2
  clear hc0 k0 k1 k2 hM hP hR hL hM2
  have hw0 : Below w.heap.size w ((w.alloc (.cells #[.int .i64 (a0 : Int), .slice A1 xs.length c1] 27)).alloc (.cells #[.int .i64 (b0 : Int), .slice A2 ys.length c2] 27)) := by repeat' first | exact gr_refl _ | with_reducible assumption | with_reducible apply gr_alloc | with_reducible apply gr_set | with_reducible apply gr_drew | with_reducible apply gr_drewN | exact Nat.le_add_right _ _ | exact Nat.le_refl _ | (refine gr_then (by with_reducible assumption) ?_)
  have H := Lib.hid (h.laterT hw0)
  have H1 := Lib.hid (h1.later hw0)
  have H2 := Lib.hid (h2.later hw0)
  have HZ := Lib.hid hz
  have hT1 := hz.1
  have HG := Lib.hid g
  clear h h1 h2 hw0 hz g
  have HX0 := Lib.hid (show Box2 ((w.alloc (.cells #[.int .i64 (a0 : Int), .slice A1 xs.length c1] 27)).alloc (.cells #[.int .i64 (b0 : Int), .slice A2 ys.length c2] 27)) (w.heap.size) 27 (.int .i64 (a0 : Int)) (.slice A1 xs.length c1) by have h := (Box2.new (w) 27 (.int .i64 (a0 : Int)) (.slice A1 xs.length c1)).late (gr_alloc (o := .cells #[.int .i64 (b0 : Int), .slice A2 ys.length c2] 27) (gr_refl _)); (try simp only [World.size_alloc] at h); exact h)
  have q0_0 := HX0.out.c0
  have q0_1 := HX0.out.c1
  have HX1 := Lib.hid (show Box2 ((w.alloc (.cells #[.int .i64 (a0 : Int), .slice A1 xs.length c1] 27)).alloc (.cells #[.int .i64 (b0 : Int), .slice A2 ys.length c2] 27)) (w.heap.size + 1) 27 (.int .i64 (b0 : Int)) (.slice A2 ys.length c2) by have h := Box2.new (w.alloc (.cells #[.int .i64 (a0 : Int), .slice A1 xs.length c1] 27)) 27 (.int .i64 (b0 : Int)) (.slice A2 ys.length c2); (try simp only [World.size_alloc] at h); exact h)
  have q1_0 := HX1.out.c0
  have q1_1 := HX1.out.c1
  have HB := Lib.hid (show Below w.heap.size w ((w.alloc (.cells #[.int .i64 (a0 : Int), .slice A1 xs.length c1] 27)).alloc (.cells #[.int .i64 (b0 : Int), .slice A2 ys.length c2] 27)) by repeat' first | exact gr_refl _ | with_reducible assumption | with_reducible apply gr_alloc | with_reducible apply gr_set | with_reducible apply gr_drew | with_reducible apply gr_drewN | exact Nat.le_add_right _ _ | exact Nat.le_refl _ | (refine gr_then (by with_reducible assumption) ?_))
  have hz : w.heap.size + 2 ≤ ((w.alloc (.cells #[.int .i64 (a0 : Int), .slice A1 xs.length c1] 27)).alloc (.cells #[.int .i64 (b0 : Int), .slice A2 ys.length c2] 27)).heap.size := by simp
  have HLA : Hid (∀ (k : Nat) (w1 : World), k ≤ 200 → w1.cell? ⟨w.heap.size + 1, 0, none⟩ = some (.int .i64 (b0 : Int)) → w1.cell? ⟨w.heap.size + 1, 1, none⟩ = some (.slice A2 ys.length c2) → SV (.int .i64) w1 w1.heap.size A2 ys → Calls Try.prog 67 #[.pointer (some ⟨w.heap.size + 1, 0, none⟩), .int .i64 (k : Int)] w1 (RetM1 b0 (List.replicate k 0 ++ ys) 2 w1)) := fun k w1 hk h1 h2 h3 => later_any _ b0 A2 c2 ys k w1 hy2 hk HG.out h1 h2 h3
  go_enter Try.func43, Try.ntmps43; go_wp2_with fail
  generalize (w.alloc (.cells #[.int .i64 (a0 : Int), .slice A1 xs.length c1] 27)).alloc (.cells #[.int .i64 (b0 : Int), .slice A2 ys.length c2] 27) = v0 at *
  go_at_call 76
  (with_reducible refine (l16Code_any _ _ T _ _ _ _ _ _ (a0 : Int) (b0 : Int) xs ys _ hT1 hx hy H.out q0_0 q0_1 q1_0 q1_1 H1.out H2.out).mono ?_)
  rintro e u1 ⟨rfl, rfl⟩
  rw [HK.out]
  go_wp2
  skip
  go_loopw [9] (fun i wr => ∃ k : Nat, k ≤ M + 1 ∧ i = .int .i64 (k : Int) ∧ Hid (∀ j, j < k → P j = false) ∧ Below v0.heap.size v0 wr) (fun i _ => M + 1 - (intOf i).toNat)
  case atStart => exact ⟨0, by omega, rfl, fun j hj => by omega, gr_refl _⟩
  case round =>
    obtain ⟨k, hk, rfl, HNO, hb⟩ := hrel
    replace q0_0 := keepc hb q0_0
    replace q0_1 := keepc hb q0_1
    replace q1_0 := keepc hb q1_0
    replace q1_1 := keepc hb q1_1
    replace H := Lib.hid (H.out.laterT hb)
    replace H1 := Lib.hid (H1.out.later hb)
    replace H2 := Lib.hid (H2.out.later hb)
    replace HB := Lib.hid (gr_then hb HB.out)
    have hb0 := hb
    clear hb
    skip
    by_cases hlt : k ≤ M
    · have hd1 := decide_eq_true (show (k : Int) ≤ (xs.length : Int) by omega)
      have hd2 := decide_eq_true (show (k : Int) + (ys.length : Int) ≤ 200 by omega)
      have hk2 : k + ys.length ≤ 200 := by omega
      obtain ⟨zs, hzs⟩ : ∃ zs, List.replicate k 0 ++ ys = zs := ⟨_, rfl⟩
      have HMZ := Lib.hid (okM_later HM2.out hk2)
      have HPK := Lib.hid (HP.out k)
      have HZS := Lib.hid hzs
      rw [hzs] at HMZ HPK
      clear hzs
      obtain ⟨V, hV⟩ : ∃ V, fcA T a0 xs b0 zs = V := ⟨_, rfl⟩
      have HVV := Lib.hid hV
      rw [hV] at HPK
      clear hV
      have hzl := (okM_t HMZ.out).2.1
      have HB0 := Lib.hid hb0
      by_cases hv : V < 0
      · have hh := Lib.hid (HH.out k hlt (by rw [HPK.out]; exact decide_eq_true hv) HNO.out)
        have hd3 := decide_eq_true hv
        go_wp2_with fail
        go_at_call 67
        (with_reducible refine (HLA.out k _ (by omega) q1_0 q1_1 H2.out).mono ?_)
        rw [HZS.out]
        rintro e u2 ⟨A3, c3, rfl, hr, hb⟩
        have HR3 := Lib.hid hr
        replace q0_0 := keepc hb q0_0
        replace q0_1 := keepc hb q0_1
        replace q1_0 := keepc hb q1_0
        replace q1_1 := keepc hb q1_1
        replace H := Lib.hid (H.out.laterT hb)
        replace H1 := Lib.hid (H1.out.later hb)
        replace H2 := Lib.hid (H2.out.later hb)
        replace HB := Lib.hid (gr_then hb HB.out); replace HB0 := Lib.hid (gr_then hb HB0.out)
        clear hr hb
        go_wp2_with fail
        have HX3 := Lib.hid (Box2.new u2 27 (.int .i64 (b0 : Int)) (.slice A3 zs.length c3))
        have hb : Below u2.heap.size u2 (u2.alloc (.cells #[.int .i64 (b0 : Int), .slice A3 zs.length c3] 27)) := gr_alloc (gr_refl _)
        replace q0_0 := keepc hb q0_0
        replace q0_1 := keepc hb q0_1
        replace q1_0 := keepc hb q1_0
        replace q1_1 := keepc hb q1_1
        replace H := Lib.hid (H.out.laterT hb)
        replace H1 := Lib.hid (H1.out.later hb)
        replace H2 := Lib.hid (H2.out.later hb)
        replace HB := Lib.hid (gr_then hb HB.out); replace HB0 := Lib.hid (gr_then hb HB0.out)
        replace HR3 := Lib.hid (HR3.out.late hb)
        clear hb
        generalize u2.alloc (.cells #[.int .i64 (b0 : Int), .slice A3 zs.length c3] 27) = u3 at *
        skip
        go_at_call 77
        (with_reducible refine (l16First_any _ _ a0 b0 T _ _ _ _ _ _ xs zs _ HM0.out HM1.out HMZ.out H.out q0_0 q0_1 HX3.out.c0 HX3.out.c1 H1.out HR3.out.sv).mono ?_)
        rintro e u4 ⟨rfl, hq⟩
        have hb : Below u3.heap.size u3 u4 := by obtain ⟨q, rfl⟩ := hq; exact gr_drewN (gr_refl _)
        replace q0_0 := keepc hb q0_0
        replace q0_1 := keepc hb q0_1
        replace q1_0 := keepc hb q1_0
        replace q1_1 := keepc hb q1_1
        replace H := Lib.hid (H.out.laterT hb)
        replace H1 := Lib.hid (H1.out.later hb)
        replace H2 := Lib.hid (H2.out.later hb)
        replace HB := Lib.hid (gr_then hb HB.out); replace HB0 := Lib.hid (gr_then hb HB0.out)
        clear hb hq
        rw [show fcV (pF T a0 xs b0 zs) (max xs.length zs.length) = V from HVV.out]
        go_wp2
        go_returns
        exact ⟨by rw [hh.out.1, hh.out.2]; rfl, HB.out⟩
      · have hh := Lib.hid (show P k = false by rw [HPK.out]; exact decide_eq_false hv)
        have hd3 := decide_eq_false hv
        go_wp2_with fail
        go_at_call 67
        (with_reducible refine (HLA.out k _ (by omega) q1_0 q1_1 H2.out).mono ?_)
        rw [HZS.out]
        rintro e u2 ⟨A3, c3, rfl, hr, hb⟩
        have HR3 := Lib.hid hr
        replace q0_0 := keepc hb q0_0
        replace q0_1 := keepc hb q0_1
        replace q1_0 := keepc hb q1_0
        replace q1_1 := keepc hb q1_1
        replace H := Lib.hid (H.out.laterT hb)
        replace H1 := Lib.hid (H1.out.later hb)
        replace H2 := Lib.hid (H2.out.later hb)
        replace HB := Lib.hid (gr_then hb HB.out); replace HB0 := Lib.hid (gr_then hb HB0.out)
        clear hr hb
        go_wp2_with fail
        have HX3 := Lib.hid (Box2.new u2 27 (.int .i64 (b0 : Int)) (.slice A3 zs.length c3))
        have hb : Below u2.heap.size u2 (u2.alloc (.cells #[.int .i64 (b0 : Int), .slice A3 zs.length c3] 27)) := gr_alloc (gr_refl _)
        replace q0_0 := keepc hb q0_0
        replace q0_1 := keepc hb q0_1
        replace q1_0 := keepc hb q1_0
        replace q1_1 := keepc hb q1_1
        replace H := Lib.hid (H.out.laterT hb)
        replace H1 := Lib.hid (H1.out.later hb)
        replace H2 := Lib.hid (H2.out.later hb)
        replace HB := Lib.hid (gr_then hb HB.out); replace HB0 := Lib.hid (gr_then hb HB0.out)
        replace HR3 := Lib.hid (HR3.out.late hb)
        clear hb
        generalize u2.alloc (.cells #[.int .i64 (b0 : Int), .slice A3 zs.length c3] 27) = u3 at *
        skip
        go_at_call 77
        (with_reducible refine (l16First_any _ _ a0 b0 T _ _ _ _ _ _ xs zs _ HM0.out HM1.out HMZ.out H.out q0_0 q0_1 HX3.out.c0 HX3.out.c1 H1.out HR3.out.sv).mono ?_)
        rintro e u4 ⟨rfl, hq⟩
        have hb : Below u3.heap.size u3 u4 := by obtain ⟨q, rfl⟩ := hq; exact gr_drewN (gr_refl _)
        replace q0_0 := keepc hb q0_0
        replace q0_1 := keepc hb q0_1
        replace q1_0 := keepc hb q1_0
        replace q1_1 := keepc hb q1_1
        replace H := Lib.hid (H.out.laterT hb)
        replace H1 := Lib.hid (H1.out.later hb)
        replace H2 := Lib.hid (H2.out.later hb)
        replace HB := Lib.hid (gr_then hb HB.out); replace HB0 := Lib.hid (gr_then hb HB0.out)
        clear hb hq
        rw [show fcV (pF T a0 xs b0 zs) (max xs.length zs.length) = V from HVV.out]
        go_wp2
        go_roundw
        case rel => exact ⟨k + 1, by omega, by go_num, fun j hj => by by_cases e : j = k; (subst e; exact hh.out); exact HNO.out j (by omega), HB0.out⟩
        case measure => simp [intOf]; omega
    · have hno := Lib.hid (HN.out (fun j hj => HNO.out j (by omega)))
      by_cases h5 : k ≤ xs.length
      · have hd1 := decide_eq_true (show (k : Int) ≤ (xs.length : Int) by omega)
        have h6 : ¬ (k + ys.length ≤ 200) := fun h7 => hlt (HM3.out k h5 h7)
        have hd2 := decide_eq_false (show ¬ ((k : Int) + (ys.length : Int) ≤ 200) by omega)
        clear h6
        go_wp2
        go_returns
        exact ⟨by rw [hno.out.1, hno.out.2]; rfl, HB.out⟩
      · have hd1 := decide_eq_false (show ¬ ((k : Int) ≤ (xs.length : Int)) by omega)
        go_wp2
        go_returns
        exact ⟨by rw [hno.out.1, hno.out.2]; rfl, HB.out⟩
set_option maxHeartbeats 8000000 in
set_option maxRecDepth 20000 in
theorem implLd_any (T : List (List Bool)) (A A1 A2 : Option Addr) (e0 c1 c2 : Nat) (s t : Int) (xs ys : List Int) (w : World) (hz : Sizes T) (hx : xs.length ≤ 1048576) (hy : ys.length ≤ 1048576) (g : A2 = none → c2 = 0) (h : TB .bool w w.heap.size A T) (h1 : SV (.int .i64) w w.heap.size A1 xs) (h2 : SV (.int .i64) w w.heap.size A2 ys) : Calls Try.prog 44 #[.slice A T.length e0, .agg #[.int .i64 s, .slice A1 xs.length c1], .agg #[.int .i64 t, .slice A2 ys.length c2]] w (fun e w' => e = .returned (.tuple #[.int .i64 (ldN T s xs t ys), .int .i64 (ldC T s xs t ys)]) ∧ Below w.heap.size w w') := by
  by_cases hc0 : fcC T s xs t ys = 0
  case neg =>
    rw [(ld_bad hc0).1, (ld_bad hc0).2]
    obtain ⟨k, hk⟩ : ∃ k, fcC T s xs t ys = k := ⟨_, rfl⟩
    have HK := Lib.hid hk
    have hne : (k != 0) = true := by rw [bne_iff_ne, ← hk]; exact hc0
    rw [hk]
    clear hk hc0
    have hw0 : Below w.heap.size w ((w.alloc (.cells #[.int .i64 s, .slice A1 xs.length c1] 27)).alloc (.cells #[.int .i64 t, .slice A2 ys.length c2] 27)) := by repeat' first | exact gr_refl _ | with_reducible assumption | with_reducible apply gr_alloc | with_reducible apply gr_set | with_reducible apply gr_drew | with_reducible apply gr_drewN | exact Nat.le_add_right _ _ | exact Nat.le_refl _ | (refine gr_then (by with_reducible assumption) ?_)
    have H := Lib.hid (h.laterT hw0)
    have H1 := Lib.hid (h1.later hw0)
    have H2 := Lib.hid (h2.later hw0)
    have HZ := Lib.hid hz
    have hT1 := hz.1
    have HG := Lib.hid g
    clear h h1 h2 hw0 hz g
    have HX0 := Lib.hid (show Box2 ((w.alloc (.cells #[.int .i64 s, .slice A1 xs.length c1] 27)).alloc (.cells #[.int .i64 t, .slice A2 ys.length c2] 27)) (w.heap.size) 27 (.int .i64 s) (.slice A1 xs.length c1) by have h := (Box2.new (w) 27 (.int .i64 s) (.slice A1 xs.length c1)).late (gr_alloc (o := .cells #[.int .i64 t, .slice A2 ys.length c2] 27) (gr_refl _)); (try simp only [World.size_alloc] at h); exact h)
    have q0_0 := HX0.out.c0
    have q0_1 := HX0.out.c1
    have HX1 := Lib.hid (show Box2 ((w.alloc (.cells #[.int .i64 s, .slice A1 xs.length c1] 27)).alloc (.cells #[.int .i64 t, .slice A2 ys.length c2] 27)) (w.heap.size + 1) 27 (.int .i64 t) (.slice A2 ys.length c2) by have h := Box2.new (w.alloc (.cells #[.int .i64 s, .slice A1 xs.length c1] 27)) 27 (.int .i64 t) (.slice A2 ys.length c2); (try simp only [World.size_alloc] at h); exact h)
    have q1_0 := HX1.out.c0
    have q1_1 := HX1.out.c1
    have HB := Lib.hid (show Below w.heap.size w ((w.alloc (.cells #[.int .i64 s, .slice A1 xs.length c1] 27)).alloc (.cells #[.int .i64 t, .slice A2 ys.length c2] 27)) by repeat' first | exact gr_refl _ | with_reducible assumption | with_reducible apply gr_alloc | with_reducible apply gr_set | with_reducible apply gr_drew | with_reducible apply gr_drewN | exact Nat.le_add_right _ _ | exact Nat.le_refl _ | (refine gr_then (by with_reducible assumption) ?_))
    have hz : w.heap.size + 2 ≤ ((w.alloc (.cells #[.int .i64 s, .slice A1 xs.length c1] 27)).alloc (.cells #[.int .i64 t, .slice A2 ys.length c2] 27)).heap.size := by simp
    go_enter Try.func44, Try.ntmps44; go_wp2_with fail
    generalize (w.alloc (.cells #[.int .i64 s, .slice A1 xs.length c1] 27)).alloc (.cells #[.int .i64 t, .slice A2 ys.length c2] 27) = v0 at *
    go_at_call 79
    (with_reducible refine (motCode_any T _ _ _ _ _ _ s t xs ys _ HZ.out hx hy H.out H1.out H2.out).mono ?_)
    rintro e u1 ⟨rfl, hb⟩
    replace q0_0 := keepc hb q0_0
    replace q0_1 := keepc hb q0_1
    replace q1_0 := keepc hb q1_0
    replace q1_1 := keepc hb q1_1
    replace H := Lib.hid (H.out.laterT hb)
    replace H1 := Lib.hid (H1.out.later hb)
    replace H2 := Lib.hid (H2.out.later hb)
    replace HB := Lib.hid (gr_then hb HB.out)
    have hb0 := hb
    clear hb
    rw [HK.out]
    go_wp2
    go_returns
    exact ⟨rfl, HB.out⟩
  obtain ⟨k0, k1, k2⟩ := fc_ok hc0
  obtain ⟨a0, rfl⟩ := okM_nat k1
  obtain ⟨b0, rfl⟩ := okM_nat k2
  have HK := Lib.hid hc0
  have HM0 := Lib.hid k0
  have HM1 := Lib.hid k1
  have HM2 := Lib.hid k2
  have hx2 := (okM_t k1).2.1
  have hy2 := (okM_t k2).2.1
  obtain ⟨M, hM⟩ : ∃ M, ldM xs ys = M := ⟨_, rfl⟩
  have hM1 : M ≤ xs.length ∧ M + ys.length ≤ 200 := by unfold ldM at hM; omega
  have hM2 : ∀ k, k ≤ xs.length → k + ys.length ≤ 200 → k ≤ M := by unfold ldM at hM; intro k; omega
  obtain ⟨P, hP⟩ : ∃ P, ldP T a0 xs b0 ys = P := ⟨_, rfl⟩
  obtain ⟨R, hR⟩ : ∃ R, ldN T a0 xs b0 ys = R := ⟨_, rfl⟩
  obtain ⟨L, hL⟩ : ∃ L, ldC T a0 xs b0 ys = L := ⟨_, rfl⟩
  have HH : Hid (∀ k : Nat, k ≤ M → P k = true → (∀ j, j < k → P j = false) → R = (k : Int) ∧ L = 0) := fun k h1 h2 h3 => by subst hP; subst hR; subst hL; subst hM; exact ld_hit HK.out h1 h2 h3
  have HN : Hid ((∀ j, j ≤ M → P j = false) → R = 0 ∧ L = 3) := fun h3 => by subst hP; subst hR; subst hL; subst hM; exact ld_none HK.out h3
  have HP : Hid (∀ k, P k = decide (fcA T a0 xs b0 (List.replicate k 0 ++ ys) < 0)) := fun k => by rw [← hP]; rfl
  rw [hR, hL]
  have HM3 := Lib.hid hM2
  clear hc0 k0 k1 k2 hM hP hR hL hM2
  have hw0 : Below w.heap.size w ((w.alloc (.cells #[.int .i64 (a0 : Int), .slice A1 xs.length c1] 27)).alloc (.cells #[.int .i64 (b0 : Int), .slice A2 ys.length c2] 27)) := by repeat' first | exact gr_refl _ | with_reducible assumption | with_reducible apply gr_alloc | with_reducible apply gr_set | with_reducible apply gr_drew | with_reducible apply gr_drewN | exact Nat.le_add_right _ _ | exact Nat.le_refl _ | (refine gr_then (by with_reducible assumption) ?_)
  have H := Lib.hid (h.laterT hw0)
  have H1 := Lib.hid (h1.later hw0)
  have H2 := Lib.hid (h2.later hw0)
  have HZ := Lib.hid hz
  have hT1 := hz.1
  have HG := Lib.hid g
  clear h h1 h2 hw0 hz g
  have HX0 := Lib.hid (show Box2 ((w.alloc (.cells #[.int .i64 (a0 : Int), .slice A1 xs.length c1] 27)).alloc (.cells #[.int .i64 (b0 : Int), .slice A2 ys.length c2] 27)) (w.heap.size) 27 (.int .i64 (a0 : Int)) (.slice A1 xs.length c1) by have h := (Box2.new (w) 27 (.int .i64 (a0 : Int)) (.slice A1 xs.length c1)).late (gr_alloc (o := .cells #[.int .i64 (b0 : Int), .slice A2 ys.length c2] 27) (gr_refl _)); (try simp only [World.size_alloc] at h); exact h)
  have q0_0 := HX0.out.c0
  have q0_1 := HX0.out.c1
  have HX1 := Lib.hid (show Box2 ((w.alloc (.cells #[.int .i64 (a0 : Int), .slice A1 xs.length c1] 27)).alloc (.cells #[.int .i64 (b0 : Int), .slice A2 ys.length c2] 27)) (w.heap.size + 1) 27 (.int .i64 (b0 : Int)) (.slice A2 ys.length c2) by have h := Box2.new (w.alloc (.cells #[.int .i64 (a0 : Int), .slice A1 xs.length c1] 27)) 27 (.int .i64 (b0 : Int)) (.slice A2 ys.length c2); (try simp only [World.size_alloc] at h); exact h)
  have q1_0 := HX1.out.c0
  have q1_1 := HX1.out.c1
  have HB := Lib.hid (show Below w.heap.size w ((w.alloc (.cells #[.int .i64 (a0 : Int), .slice A1 xs.length c1] 27)).alloc (.cells #[.int .i64 (b0 : Int), .slice A2 ys.length c2] 27)) by repeat' first | exact gr_refl _ | with_reducible assumption | with_reducible apply gr_alloc | with_reducible apply gr_set | with_reducible apply gr_drew | with_reducible apply gr_drewN | exact Nat.le_add_right _ _ | exact Nat.le_refl _ | (refine gr_then (by with_reducible assumption) ?_))
  have hz : w.heap.size + 2 ≤ ((w.alloc (.cells #[.int .i64 (a0 : Int), .slice A1 xs.length c1] 27)).alloc (.cells #[.int .i64 (b0 : Int), .slice A2 ys.length c2] 27)).heap.size := by simp
  have HLA : Hid (∀ (k : Nat) (w1 : World), k ≤ 200 → SV (.int .i64) w1 w1.heap.size A2 ys → Calls Try.prog 68 #[.agg #[.int .i64 (b0 : Int), .slice A2 ys.length c2], .int .i64 (k : Int)] w1 (RetM1 b0 (List.replicate k 0 ++ ys) 2 w1)) := fun k w1 hk h3 => delayed_any b0 A2 c2 ys k w1 hy2 hk HG.out h3
  go_enter Try.func44, Try.ntmps44; go_wp2_with fail
  generalize (w.alloc (.cells #[.int .i64 (a0 : Int), .slice A1 xs.length c1] 27)).alloc (.cells #[.int .i64 (b0 : Int), .slice A2 ys.length c2] 27) = v0 at *
  go_at_call 79
  (with_reducible refine (motCode_any T _ _ _ _ _ _ (a0 : Int) (b0 : Int) xs ys _ HZ.out hx hy H.out H1.out H2.out).mono ?_)
  rintro e u1 ⟨rfl, hb⟩
  replace q0_0 := keepc hb q0_0
  replace q0_1 := keepc hb q0_1
  replace q1_0 := keepc hb q1_0
  replace q1_1 := keepc hb q1_1
  replace H := Lib.hid (H.out.laterT hb)
  replace H1 := Lib.hid (H1.out.later hb)
  replace H2 := Lib.hid (H2.out.later hb)
  replace HB := Lib.hid (gr_then hb HB.out)
  clear hb
  rw [HK.out]
  go_wp2
  skip
  go_loopw [9] (fun i wr => ∃ k : Nat, k ≤ M + 1 ∧ i = .int .i64 (k : Int) ∧ Hid (∀ j, j < k → P j = false) ∧ Below u1.heap.size u1 wr) (fun i _ => M + 1 - (intOf i).toNat)
  case atStart => exact ⟨0, by omega, rfl, fun j hj => by omega, gr_refl _⟩
  case round =>
    obtain ⟨k, hk, rfl, HNO, hb⟩ := hrel
    replace q0_0 := keepc hb q0_0
    replace q0_1 := keepc hb q0_1
    replace q1_0 := keepc hb q1_0
    replace q1_1 := keepc hb q1_1
    replace H := Lib.hid (H.out.laterT hb)
    replace H1 := Lib.hid (H1.out.later hb)
    replace H2 := Lib.hid (H2.out.later hb)
    replace HB := Lib.hid (gr_then hb HB.out)
    have hb0 := hb
    clear hb
    skip
    by_cases hlt : k ≤ M
    · have hd1 := decide_eq_true (show (k : Int) ≤ (xs.length : Int) by omega)
      have hd2 := decide_eq_true (show (k : Int) + (ys.length : Int) ≤ 200 by omega)
      have hk2 : k + ys.length ≤ 200 := by omega
      obtain ⟨zs, hzs⟩ : ∃ zs, List.replicate k 0 ++ ys = zs := ⟨_, rfl⟩
      have HMZ := Lib.hid (okM_later HM2.out hk2)
      have HPK := Lib.hid (HP.out k)
      have HZS := Lib.hid hzs
      rw [hzs] at HMZ HPK
      clear hzs
      obtain ⟨V, hV⟩ : ∃ V, fcA T a0 xs b0 zs = V := ⟨_, rfl⟩
      have HVV := Lib.hid hV
      rw [hV] at HPK
      clear hV
      have hzl := (okM_t HMZ.out).2.1
      have HB0 := Lib.hid hb0
      by_cases hv : V < 0
      · have hh := Lib.hid (HH.out k hlt (by rw [HPK.out]; exact decide_eq_true hv) HNO.out)
        have hd3 := decide_eq_true hv
        have HLZ := Lib.hid (fun w1 h3 => HLA.out k w1 (by omega) h3)
        rw [HZS.out] at HLZ
        have HFZ : Hid (∀ (w1 : World) (A3 : Option Addr) (c3 : Nat), Below wr.heap.size wr w1 → SV (.int .i64) w1 w1.heap.size A3 zs → Calls Try.prog 80 #[.slice A T.length e0, .agg #[.int .i64 (a0 : Int), .slice A1 xs.length c1], .agg #[.int .i64 (b0 : Int), .slice A3 zs.length c3]] w1 fun e w' => e = .returned (.int .i64 V) ∧ Below w1.heap.size w1 w') := fun w1 A3 c3 hb hs => by have h9 := firstC_any a0 b0 T A A1 A3 e0 c1 c3 xs zs w1 HM0.out HM1.out HMZ.out (H.out.laterT hb) (H1.out.later hb) hs; rw [show fcV (pF T a0 xs b0 zs) (max xs.length zs.length) = V from HVV.out] at h9; exact h9
        have hA : Below wr.heap.size wr wr := gr_refl _
        go_wp2
        go_region_held3 (fun w' => w'.cell? ⟨w.heap.size, 0, none⟩ = some (.int .i64 (a0 : Int)) ∧ w'.cell? ⟨w.heap.size, 1, none⟩ = some (.slice A1 xs.length c1) ∧ w'.cell? ⟨w.heap.size + 1, 0, none⟩ = some (.int .i64 (b0 : Int)) ∧ w'.cell? ⟨w.heap.size + 1, 1, none⟩ = some (.slice A2 ys.length c2)) ((exact ⟨keepc (by repeat' first | exact gr_refl _ | with_reducible assumption | with_reducible apply gr_alloc | with_reducible apply gr_set | with_reducible apply gr_drew | with_reducible apply gr_drewN | exact Nat.le_add_right _ _ | exact Nat.le_refl _ | (dsimp only; omega) | (refine gr_then (by with_reducible assumption) ?_)) q0_0, keepc (by repeat' first | exact gr_refl _ | with_reducible assumption | with_reducible apply gr_alloc | with_reducible apply gr_set | with_reducible apply gr_drew | with_reducible apply gr_drewN | exact Nat.le_add_right _ _ | exact Nat.le_refl _ | (dsimp only; omega) | (refine gr_then (by with_reducible assumption) ?_)) q0_1, keepc (by repeat' first | exact gr_refl _ | with_reducible assumption | with_reducible apply gr_alloc | with_reducible apply gr_set | with_reducible apply gr_drew | with_reducible apply gr_drewN | exact Nat.le_add_right _ _ | exact Nat.le_refl _ | (dsimp only; omega) | (refine gr_then (by with_reducible assumption) ?_)) q1_0, keepc (by repeat' first | exact gr_refl _ | with_reducible assumption | with_reducible apply gr_alloc | with_reducible apply gr_set | with_reducible apply gr_drew | with_reducible apply gr_drewN | exact Nat.le_add_right _ _ | exact Nat.le_refl _ | (dsimp only; omega) | (refine gr_then (by with_reducible assumption) ?_)) q1_1⟩)) ((first | (go_at_call 68; (with_reducible refine (HLZ.out _ (H2.out.later (by repeat' first | exact gr_refl _ | with_reducible assumption | with_reducible apply gr_alloc | with_reducible apply gr_set | with_reducible apply gr_drew | with_reducible apply gr_drewN | exact Nat.le_add_right _ _ | exact Nat.le_refl _ | (refine gr_then (by with_reducible assumption) ?_)))).mono ?_); rintro e u2 ⟨A3, c3, rfl, hr, hb⟩; have HR3 := Lib.hid hr; replace hA : Below wr.heap.size wr u2 := gr_then hb (by repeat' first | exact gr_refl _ | with_reducible assumption | with_reducible apply gr_alloc | with_reducible apply gr_set | with_reducible apply gr_drew | with_reducible apply gr_drewN | exact Nat.le_add_right _ _ | exact Nat.le_refl _ | (refine gr_then (by with_reducible assumption) ?_)); clear hr hb) | (go_at_call 80; (with_reducible refine (HFZ.out _ _ _ (by repeat' first | exact gr_refl _ | with_reducible assumption | with_reducible apply gr_alloc | with_reducible apply gr_set | with_reducible apply gr_drew | with_reducible apply gr_drewN | exact Nat.le_add_right _ _ | exact Nat.le_refl _ | (refine gr_then (by with_reducible assumption) ?_)) (HR3.out.sv)).mono ?_); rintro e u3 ⟨rfl, hb⟩; replace hA : Below wr.heap.size wr u3 := gr_then hb (by repeat' first | exact gr_refl _ | with_reducible assumption | with_reducible apply gr_alloc | with_reducible apply gr_set | with_reducible apply gr_drew | with_reducible apply gr_drewN | exact Nat.le_add_right _ _ | exact Nat.le_refl _ | (refine gr_then (by with_reducible assumption) ?_)); clear hb)))
        replace HB := Lib.hid (gr_then hA HB.out)
        replace HB0 := Lib.hid (gr_then hA HB0.out)
        go_wp2
        go_returns
        exact ⟨by rw [hh.out.1, hh.out.2]; rfl, HB.out⟩
      · have hh := Lib.hid (show P k = false by rw [HPK.out]; exact decide_eq_false hv)
        have hd3 := decide_eq_false hv
        have HLZ := Lib.hid (fun w1 h3 => HLA.out k w1 (by omega) h3)
        rw [HZS.out] at HLZ
        have HFZ : Hid (∀ (w1 : World) (A3 : Option Addr) (c3 : Nat), Below wr.heap.size wr w1 → SV (.int .i64) w1 w1.heap.size A3 zs → Calls Try.prog 80 #[.slice A T.length e0, .agg #[.int .i64 (a0 : Int), .slice A1 xs.length c1], .agg #[.int .i64 (b0 : Int), .slice A3 zs.length c3]] w1 fun e w' => e = .returned (.int .i64 V) ∧ Below w1.heap.size w1 w') := fun w1 A3 c3 hb hs => by have h9 := firstC_any a0 b0 T A A1 A3 e0 c1 c3 xs zs w1 HM0.out HM1.out HMZ.out (H.out.laterT hb) (H1.out.later hb) hs; rw [show fcV (pF T a0 xs b0 zs) (max xs.length zs.length) = V from HVV.out] at h9; exact h9
        have hA : Below wr.heap.size wr wr := gr_refl _
        go_wp2
        go_region_held3 (fun w' => w'.cell? ⟨w.heap.size, 0, none⟩ = some (.int .i64 (a0 : Int)) ∧ w'.cell? ⟨w.heap.size, 1, none⟩ = some (.slice A1 xs.length c1) ∧ w'.cell? ⟨w.heap.size + 1, 0, none⟩ = some (.int .i64 (b0 : Int)) ∧ w'.cell? ⟨w.heap.size + 1, 1, none⟩ = some (.slice A2 ys.length c2)) ((exact ⟨keepc (by repeat' first | exact gr_refl _ | with_reducible assumption | with_reducible apply gr_alloc | with_reducible apply gr_set | with_reducible apply gr_drew | with_reducible apply gr_drewN | exact Nat.le_add_right _ _ | exact Nat.le_refl _ | (dsimp only; omega) | (refine gr_then (by with_reducible assumption) ?_)) q0_0, keepc (by repeat' first | exact gr_refl _ | with_reducible assumption | with_reducible apply gr_alloc | with_reducible apply gr_set | with_reducible apply gr_drew | with_reducible apply gr_drewN | exact Nat.le_add_right _ _ | exact Nat.le_refl _ | (dsimp only; omega) | (refine gr_then (by with_reducible assumption) ?_)) q0_1, keepc (by repeat' first | exact gr_refl _ | with_reducible assumption | with_reducible apply gr_alloc | with_reducible apply gr_set | with_reducible apply gr_drew | with_reducible apply gr_drewN | exact Nat.le_add_right _ _ | exact Nat.le_refl _ | (dsimp only; omega) | (refine gr_then (by with_reducible assumption) ?_)) q1_0, keepc (by repeat' first | exact gr_refl _ | with_reducible assumption | with_reducible apply gr_alloc | with_reducible apply gr_set | with_reducible apply gr_drew | with_reducible apply gr_drewN | exact Nat.le_add_right _ _ | exact Nat.le_refl _ | (dsimp only; omega) | (refine gr_then (by with_reducible assumption) ?_)) q1_1⟩)) ((first | (go_at_call 68; (with_reducible refine (HLZ.out _ (H2.out.later (by repeat' first | exact gr_refl _ | with_reducible assumption | with_reducible apply gr_alloc | with_reducible apply gr_set | with_reducible apply gr_drew | with_reducible apply gr_drewN | exact Nat.le_add_right _ _ | exact Nat.le_refl _ | (refine gr_then (by with_reducible assumption) ?_)))).mono ?_); rintro e u2 ⟨A3, c3, rfl, hr, hb⟩; have HR3 := Lib.hid hr; replace hA : Below wr.heap.size wr u2 := gr_then hb (by repeat' first | exact gr_refl _ | with_reducible assumption | with_reducible apply gr_alloc | with_reducible apply gr_set | with_reducible apply gr_drew | with_reducible apply gr_drewN | exact Nat.le_add_right _ _ | exact Nat.le_refl _ | (refine gr_then (by with_reducible assumption) ?_)); clear hr hb) | (go_at_call 80; (with_reducible refine (HFZ.out _ _ _ (by repeat' first | exact gr_refl _ | with_reducible assumption | with_reducible apply gr_alloc | with_reducible apply gr_set | with_reducible apply gr_drew | with_reducible apply gr_drewN | exact Nat.le_add_right _ _ | exact Nat.le_refl _ | (refine gr_then (by with_reducible assumption) ?_)) (HR3.out.sv)).mono ?_); rintro e u3 ⟨rfl, hb⟩; replace hA : Below wr.heap.size wr u3 := gr_then hb (by repeat' first | exact gr_refl _ | with_reducible assumption | with_reducible apply gr_alloc | with_reducible apply gr_set | with_reducible apply gr_drew | with_reducible apply gr_drewN | exact Nat.le_add_right _ _ | exact Nat.le_refl _ | (refine gr_then (by with_reducible assumption) ?_)); clear hb)))
        replace HB := Lib.hid (gr_then hA HB.out)
        replace HB0 := Lib.hid (gr_then hA HB0.out)
        go_wp2
        go_roundw
        case rel => exact ⟨k + 1, by omega, by go_num, fun j hj => by by_cases e : j = k; (subst e; exact hh.out); exact HNO.out j (by omega), HB0.out⟩
        case measure => simp [intOf]; omega
    · have hno := Lib.hid (HN.out (fun j hj => HNO.out j (by omega)))
      by_cases h5 : k ≤ xs.length
      · have hd1 := decide_eq_true (show (k : Int) ≤ (xs.length : Int) by omega)
        have h6 : ¬ (k + ys.length ≤ 200) := fun h7 => hlt (HM3.out k h5 h7)
        have hd2 := decide_eq_false (show ¬ ((k : Int) + (ys.length : Int) ≤ 200) by omega)
        clear h6
        go_wp2
        go_returns
        exact ⟨by rw [hno.out.1, hno.out.2]; rfl, HB.out⟩
      · have hd1 := decide_eq_false (show ¬ ((k : Int) ≤ (xs.length : Int)) by omega)
        go_wp2
        go_returns
        exact ⟨by rw [hno.out.1, hno.out.2]; rfl, HB.out⟩
end Go.Proofs.Ytoojnfdphjdocaa
