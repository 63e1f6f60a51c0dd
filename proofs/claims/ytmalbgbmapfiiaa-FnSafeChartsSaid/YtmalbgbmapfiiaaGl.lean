/- The greatest load of a base, both sides. -/
import Derived.Test.YtmalbgbmapfiiaaStC
namespace Go.Proofs.Ytmalbgbmapfiiaa
open Go.RowKit Go.Deep
theorem C7.drew {w : World} {b : Nat} {x0 x1 x2 x3 x4 x5 x6 : Int} (h : C7 w b x0 x1 x2 x3 x4 x5 x6) : C7 w.drew b x0 x1 x2 x3 x4 x5 x6 := h
/-- the greatest of 50 (m - 1), 50 (m - 2), .., 0 that serves; -1 if none does -/
def glF (p : Int → Bool) : Nat → Int
  | 0 => -1
  | m + 1 => if p (50 * (m : Int)) = true then 50 * (m : Int) else glF p m
theorem glF_hit {p : Int → Bool} {m : Nat} {G : Int} (h : glF p (m + 1) = G) (hp : p (50 * (m : Int)) = true) : G = 50 * (m : Int) := by rw [← h]; exact if_pos hp
theorem glF_miss {p : Int → Bool} {m : Nat} {G : Int} (h : glF p (m + 1) = G) (hp : p (50 * (m : Int)) = false) : glF p m = G := by rw [← h]; exact (if_neg (by rw [hp]; decide)).symm
theorem glF_bd (p : Int → Bool) : ∀ m : Nat, (glF p m = -1 ∨ (p (glF p m) = true ∧ 0 ≤ glF p m)) ∧ glF p m < 50 * (m : Int) + 1
  | 0 => ⟨.inl rfl, by simp [glF]⟩
  | m + 1 => by
    have h := glF_bd p m
    unfold glF
    split
    · rename_i hp; exact ⟨.inr ⟨hp, by omega⟩, by omega⟩
    · exact ⟨h.1, by omega⟩
theorem ret_intB {a b : Int} {c d : Bool} (h : a = b) (g : c = d) : Ending.returned (.tuple #[.int .i64 a, .bool c]) = .returned (.tuple #[.int .i64 b, .bool d]) := by rw [h, g]
def glE (k G : Int) : Int := if k = 0 then (if G < 0 then 3 else 0) else k
theorem glE_n {k G K : Int} (h : k = K) (hk : ¬ K = 0) : glE k G = K := by subst h; exact if_neg hk
theorem glE_3 {k G : Int} (h : k = 0) (hm : G < 0) : glE k G = 3 := by subst h; exact (if_pos rfl).trans (if_pos hm)
theorem glE_y {k G : Int} (h : k = 0) (hm : ¬ G < 0) : glE k G = 0 := by subst h; exact (if_pos rfl).trans (if_neg hm)
set_option maxHeartbeats 4000000 in
set_option maxRecDepth 20000 in
theorem load06_any (b : Nat) (x0 x1 x2 x3 x4 x5 x6 : Int) (r pc : Int) (w : World) (h : C7 w b x0 x1 x2 x3 x4 x5 x6) (hok : okB x0 x1 x2 x3 x4 x5 x6 = true) (hr : 0 ≤ r ∧ r ≤ 1000) (hp : 100 ≤ pc ∧ pc ≤ 1000) : Calls Try.prog 24 #[.pointer (some ⟨b, 0, none⟩), .int .i64 r, .int .i64 pc] w fun e w' => e = .returned (.int .i64 (glF (fun ld => stB x0 (totB x1 x2 x3 x5 ld) (momB x3 x4 x5 x6 ld r) pc) 1001)) ∧ ∃ q, w' = w.drewN q := by
  obtain ⟨P, hP⟩ : ∃ P : Int → Bool, (fun ld => stB x0 (totB x1 x2 x3 x5 ld) (momB x3 x4 x5 x6 ld r) pc) = P := ⟨_, rfl⟩
  rw [hP]
  have HS : Hid (∀ (ld : Int) (w' : World), 0 ≤ ld ∧ ld ≤ 50000 → C7 w' b x0 x1 x2 x3 x4 x5 x6 → Calls Try.prog 26 #[.pointer (some ⟨b, 0, none⟩), .int .i64 ld, .int .i64 r, .int .i64 pc] w' fun e w'' => e = .returned (.bool (P ld)) ∧ ∃ q, w'' = w'.drewN q) := fun ld w' hl h' => by have h9 := st06_any b x0 x1 x2 x3 x4 x5 x6 ld r pc w' h' hok hl hr hp; rw [← hP]; exact h9
  have HC := Lib.hid h
  clear hP hok h
  obtain ⟨G, hG⟩ : ∃ G, glF P 1001 = G := ⟨_, rfl⟩
  rw [hG]
  have HG := Lib.hid hG
  clear hG
  go_enter Try.func24, Try.ntmps24; go_wp2
  go_loopw [7] (fun lv wr => ∃ m : Nat, m ≤ 1001 ∧ lv = .int .i64 (50 * (m : Int) - 50) ∧ Hid (glF P m = G) ∧ ∃ q, wr = w.drewN q) (fun lv _ => ((intOf lv + 50) / 50).toNat)
  case atStart => exact ⟨1001, by omega, by simp, HG.out, 0, rfl⟩
  case round =>
    obtain ⟨m, hm, rfl, HI, q, rfl⟩ := hrel
    rcases m with _ | m
    · have hI : G = -1 := HI.out.symm
      have HH := Lib.hid hI
      clear hI
      go_wp2
      go_returns
      exact ⟨ret_int HH.out.symm, q, rfl⟩
    · have e1 : 50 * (((m + 1 : Nat)) : Int) - 50 = 50 * (m : Int) := by omega
      rw [e1]
      have hd : decide (0 ≤ 50 * (m : Int)) = true := decide_eq_true (by omega)
      obtain ⟨s, hs⟩ : ∃ s, P (50 * (m : Int)) = s := ⟨_, rfl⟩
      have HQ := Lib.hid hs
      clear hs
      go_wp2_with fail
      go_at_call 26
      (with_reducible refine (HS.out _ _ (by omega) (HC.out.drewN (n := q))).mono ?_)
      rintro e y ⟨rfl, q2, rfl⟩
      rw [HQ.out]
      cases s
      · have HI2 := Lib.hid (glF_miss HI.out HQ.out)
        go_wp2
        go_roundw
        case rel => exact ⟨m, by omega, by go_num, HI2.out, _, rfl⟩
        case measure => simp [intOf]; omega
      · have HI2 := Lib.hid (glF_hit HI.out HQ.out)
        go_wp2
        go_returns
        exact ⟨ret_int HI2.out.symm, _, rfl⟩
def glN (G : Int) : Int := if G < 0 then 0 else G
set_option maxHeartbeats 4000000 in
set_option maxRecDepth 20000 in
theorem greatest_any (x0 x1 x2 x3 x4 x5 x6 : Int) (r pc : Int) (w : World) (hok : okB x0 x1 x2 x3 x4 x5 x6 = true) (hr : 0 ≤ r ∧ r ≤ 1000) (hp : 100 ≤ pc ∧ pc ≤ 1000) : Calls Try.prog 19 #[.agg #[.int .i64 x0, .int .i64 x1, .int .i64 x2, .int .i64 x3, .int .i64 x4, .int .i64 x5, .int .i64 x6], .int .i64 r, .int .i64 pc] w fun e w' => e = .returned (.tuple #[.int .i64 (glN (glF (fun ld => stB x0 (totB x1 x2 x3 x5 ld) (momB x3 x4 x5 x6 ld r) pc) 1001)), .bool (decide (0 ≤ glF (fun ld => stB x0 (totB x1 x2 x3 x5 ld) (momB x3 x4 x5 x6 ld r) pc) 1001))]) ∧ Below w.heap.size w w' := by
  obtain ⟨P, hP⟩ : ∃ P : Int → Bool, (fun ld => stB x0 (totB x1 x2 x3 x5 ld) (momB x3 x4 x5 x6 ld r) pc) = P := ⟨_, rfl⟩
  rw [hP]
  have HS : Hid (∀ (ld : Int) (w' : World), 0 ≤ ld ∧ ld ≤ 50000 → Calls Try.prog 20 #[.agg #[.int .i64 x0, .int .i64 x1, .int .i64 x2, .int .i64 x3, .int .i64 x4, .int .i64 x5, .int .i64 x6], .int .i64 ld, .int .i64 r, .int .i64 pc] w' fun e w'' => e = .returned (.bool (P ld)) ∧ Below w'.heap.size w' w'') := fun ld w' hl => by have h9 := stable_any x0 x1 x2 x3 x4 x5 x6 ld r pc w' hok hl hr hp; rw [← hP]; exact h9
  clear hP hok
  obtain ⟨G, hG⟩ : ∃ G, glF P 1001 = G := ⟨_, rfl⟩
  rw [hG]
  have HG := Lib.hid hG
  clear hG
  have B0 := Lib.hid (show BI (w.alloc (.cells #[.int .i64 x0, .int .i64 x1, .int .i64 x2, .int .i64 x3, .int .i64 x4, .int .i64 x5, .int .i64 x6] 25)) w.heap.size 25 [x0, x1, x2, x3, x4, x5, x6] from heap_alloc_new w _)
  have HB := Lib.hid (show Below w.heap.size w (w.alloc (.cells #[.int .i64 x0, .int .i64 x1, .int .i64 x2, .int .i64 x3, .int .i64 x4, .int .i64 x5, .int .i64 x6] 25)) from gr_alloc (gr_refl w))
  go_enter Try.func19, Try.ntmps19; go_wp2
  generalize w.alloc (.cells #[.int .i64 x0, .int .i64 x1, .int .i64 x2, .int .i64 x3, .int .i64 x4, .int .i64 x5, .int .i64 x6] 25) = v0 at *
  go_loopw [8] (fun lv wr => ∃ m : Nat, m ≤ 1001 ∧ lv = .int .i64 (50 * (m : Int) - 50) ∧ Hid (glF P m = G) ∧ Below v0.heap.size v0 wr) (fun lv _ => ((intOf lv + 50) / 50).toNat)
  case atStart => exact ⟨1001, by omega, by simp, HG.out, gr_refl _⟩
  case round =>
    obtain ⟨m, hm, rfl, HI, hb⟩ := hrel
    have HBr := Lib.hid hb
    have B1 := Lib.hid (B0.out.late hb)
    clear hb
    rcases m with _ | m
    · have hI : G = -1 := HI.out.symm
      have h1 := Lib.hid (show glN G = 0 by rw [hI]; rfl)
      have h2 := Lib.hid (show decide (0 ≤ G) = false by rw [hI]; rfl)
      clear hI
      go_wp2
      go_returns
      exact ⟨ret_intB h1.out.symm h2.out.symm, gr_then HBr.out HB.out⟩
    · have e1 : 50 * (((m + 1 : Nat)) : Int) - 50 = 50 * (m : Int) := by omega
      rw [e1]
      have hd : decide (0 ≤ 50 * (m : Int)) = true := decide_eq_true (by omega)
      obtain ⟨s, hs⟩ : ∃ s, P (50 * (m : Int)) = s := ⟨_, rfl⟩
      have HQ := Lib.hid hs
      clear hs
      have c0 := B1.out.cell 0 (by simp)
      have c1 := B1.out.cell 1 (by simp)
      have c2 := B1.out.cell 2 (by simp)
      have c3 := B1.out.cell 3 (by simp)
      have c4 := B1.out.cell 4 (by simp)
      have c5 := B1.out.cell 5 (by simp)
      have c6 := B1.out.cell 6 (by simp)
      simp only [List.getD_cons_zero, List.getD_cons_succ] at c0 c1 c2 c3 c4 c5 c6
      go_wp2_with fail
      go_at_call 20
      (with_reducible refine (HS.out _ _ (by omega)).mono ?_)
      rintro e y ⟨rfl, hb⟩
      have HB2 := Lib.hid (gr_then hb HBr.out)
      clear hb c0 c1 c2 c3 c4 c5 c6
      rw [HQ.out]
      cases s
      · have HI2 := Lib.hid (glF_miss HI.out HQ.out)
        go_wp2
        go_roundw
        case rel => exact ⟨m, by omega, by go_num, HI2.out, HB2.out⟩
        case measure => simp [intOf]; omega
      · have hI := glF_hit HI.out HQ.out
        have h1 := Lib.hid (show glN G = 50 * (m : Int) by rw [hI]; exact if_neg (by omega))
        have h2 := Lib.hid (show decide (0 ≤ G) = true from decide_eq_true (by omega))
        clear hI
        go_wp2
        go_returns
        exact ⟨ret_intB h1.out.symm h2.out.symm, gr_then HB2.out HB.out⟩
set_option maxHeartbeats 8000000 in
set_option maxRecDepth 20000 in
theorem implGl_any (x0 x1 x2 x3 x4 x5 x6 : Int) (r pc : Int) (w : World) : Calls Try.prog 9 #[.agg #[.int .i64 x0, .int .i64 x1, .int .i64 x2, .int .i64 x3, .int .i64 x4, .int .i64 x5, .int .i64 x6], .int .i64 r, .int .i64 pc] w fun e w' => e = .returned (.tuple #[.int .i64 (zif (glE (codB (okB x0 x1 x2 x3 x4 x5 x6) 0 r pc) (glF (fun ld => stB x0 (totB x1 x2 x3 x5 ld) (momB x3 x4 x5 x6 ld r) pc) 1001)) (glF (fun ld => stB x0 (totB x1 x2 x3 x5 ld) (momB x3 x4 x5 x6 ld r) pc) 1001)), .int .i64 (glE (codB (okB x0 x1 x2 x3 x4 x5 x6) 0 r pc) (glF (fun ld => stB x0 (totB x1 x2 x3 x5 ld) (momB x3 x4 x5 x6 ld r) pc) 1001))]) ∧ Below w.heap.size w w' := by
  have B0 := Lib.hid (show BI (w.alloc (.cells #[.int .i64 x0, .int .i64 x1, .int .i64 x2, .int .i64 x3, .int .i64 x4, .int .i64 x5, .int .i64 x6] 25)) w.heap.size 25 [x0, x1, x2, x3, x4, x5, x6] from heap_alloc_new w _)
  have HB := Lib.hid (show Below w.heap.size w (w.alloc (.cells #[.int .i64 x0, .int .i64 x1, .int .i64 x2, .int .i64 x3, .int .i64 x4, .int .i64 x5, .int .i64 x6] 25)) by repeat' first | exact gr_refl _ | with_reducible assumption | with_reducible apply gr_alloc | with_reducible apply gr_set | with_reducible apply gr_drew | with_reducible apply gr_drewN | exact Nat.le_add_right _ _ | exact Nat.le_refl _ | (refine gr_then (by with_reducible assumption) ?_))
  have cB0_0 := B0.out.cell 0 (by simp)
  have cB0_1 := B0.out.cell 1 (by simp)
  have cB0_2 := B0.out.cell 2 (by simp)
  have cB0_3 := B0.out.cell 3 (by simp)
  have cB0_4 := B0.out.cell 4 (by simp)
  have cB0_5 := B0.out.cell 5 (by simp)
  have cB0_6 := B0.out.cell 6 (by simp)
  simp only [List.getD_cons_zero, List.getD_cons_succ] at cB0_0 cB0_1 cB0_2 cB0_3 cB0_4 cB0_5 cB0_6
  go_enter Try.func9, Try.ntmps9
  go_wp2_with fail
  generalize w.alloc (.cells #[.int .i64 x0, .int .i64 x1, .int .i64 x2, .int .i64 x3, .int .i64 x4, .int .i64 x5, .int .i64 x6] 25) = v0 at *
  go_at_call 18
  (with_reducible refine (baseCode_any x0 x1 x2 x3 x4 x5 x6 0 r pc _).mono ?_)
  rintro e w1 ⟨rfl, hb⟩
  clear cB0_0 cB0_1 cB0_2 cB0_3 cB0_4 cB0_5 cB0_6
  replace B0 := Lib.hid (B0.out.late hb)
  replace HB := Lib.hid (gr_then hb HB.out)
  clear hb
  have HK := codB_bd (okB x0 x1 x2 x3 x4 x5 x6) 0 r pc
  obtain ⟨K, hK⟩ : ∃ K, codB (okB x0 x1 x2 x3 x4 x5 x6) 0 r pc = K := ⟨_, rfl⟩
  rw [hK]
  rw [hK] at HK
  have hK2 := Lib.hid hK
  clear hK
  by_cases hk0 : K = 0
  case neg =>
    have hd : (K != 0) = true := bne_iff_ne.2 hk0
    go_wp2
    go_returns
    exact ⟨retN_n (glE_n hK2.out hk0) hk0, by repeat' (first | with_reducible exact HB.out | (with_reducible refine gr_drewN ?_) | (with_reducible refine gr_drew ?_))⟩
  subst hk0
  obtain ⟨hok, hl, hr, hp⟩ := codB_t hK2.out
  have HOK := Lib.hid hok
  have cB0_0 := B0.out.cell 0 (by simp)
  have cB0_1 := B0.out.cell 1 (by simp)
  have cB0_2 := B0.out.cell 2 (by simp)
  have cB0_3 := B0.out.cell 3 (by simp)
  have cB0_4 := B0.out.cell 4 (by simp)
  have cB0_5 := B0.out.cell 5 (by simp)
  have cB0_6 := B0.out.cell 6 (by simp)
  simp only [List.getD_cons_zero, List.getD_cons_succ] at cB0_0 cB0_1 cB0_2 cB0_3 cB0_4 cB0_5 cB0_6
  obtain ⟨G, hG⟩ : ∃ G, glF (fun ld => stB x0 (totB x1 x2 x3 x5 ld) (momB x3 x4 x5 x6 ld r) pc) 1001 = G := ⟨_, rfl⟩
  have HG := Lib.hid hG
  clear hG hok
  go_wp2_with fail
  go_at_call 19
  (with_reducible refine (greatest_any x0 x1 x2 x3 x4 x5 x6 r pc _ HOK.out hr hp).mono ?_)
  rintro e y ⟨rfl, hb⟩
  replace HB := Lib.hid (gr_then hb HB.out)
  rw [HG.out]
  clear hb cB0_0 cB0_1 cB0_2 cB0_3 cB0_4 cB0_5 cB0_6
  by_cases hneg : G < 0
  case pos =>
    have hse := Lib.hid (glE_3 (G := G) hK2.out hneg)
    have hd := decide_eq_true hneg
    have hd2 : decide (0 ≤ G) = false := decide_eq_false (by omega)
    go_wp2
    go_returns
    exact ⟨retN_n (by rw [HG.out]; exact hse.out) (by decide), by repeat' (first | with_reducible exact HB.out | (with_reducible refine gr_drewN ?_) | (with_reducible refine gr_drew ?_))⟩
  have hse := Lib.hid (glE_y (G := G) hK2.out hneg)
  have hd := decide_eq_false hneg
  have hd2 : decide (0 ≤ G) = true := decide_eq_true (by omega)
  have hgn : glN G = G := if_neg hneg
  go_wp2
  go_returns
  exact ⟨retN_y (by rw [HG.out]; exact hse.out) HG.out.symm, by repeat' (first | with_reducible exact HB.out | (with_reducible refine gr_drewN ?_) | (with_reducible refine gr_drew ?_))⟩
set_option maxHeartbeats 8000000 in
set_option maxRecDepth 20000 in
theorem specGl_any (x0 x1 x2 x3 x4 x5 x6 : Int) (r pc : Int) (w : World) : Calls Try.prog 10 #[.agg #[.int .i64 x0, .int .i64 x1, .int .i64 x2, .int .i64 x3, .int .i64 x4, .int .i64 x5, .int .i64 x6], .int .i64 r, .int .i64 pc] w fun e w' => e = .returned (.tuple #[.int .i64 (zif (glE (codB (okB x0 x1 x2 x3 x4 x5 x6) 0 r pc) (glF (fun ld => stB x0 (totB x1 x2 x3 x5 ld) (momB x3 x4 x5 x6 ld r) pc) 1001)) (glF (fun ld => stB x0 (totB x1 x2 x3 x5 ld) (momB x3 x4 x5 x6 ld r) pc) 1001)), .int .i64 (glE (codB (okB x0 x1 x2 x3 x4 x5 x6) 0 r pc) (glF (fun ld => stB x0 (totB x1 x2 x3 x5 ld) (momB x3 x4 x5 x6 ld r) pc) 1001))]) ∧ Below w.heap.size w w' := by
  have B0 := Lib.hid (show BI (w.alloc (.cells #[.int .i64 x0, .int .i64 x1, .int .i64 x2, .int .i64 x3, .int .i64 x4, .int .i64 x5, .int .i64 x6] 25)) w.heap.size 25 [x0, x1, x2, x3, x4, x5, x6] from heap_alloc_new w _)
  have HB := Lib.hid (show Below w.heap.size w (w.alloc (.cells #[.int .i64 x0, .int .i64 x1, .int .i64 x2, .int .i64 x3, .int .i64 x4, .int .i64 x5, .int .i64 x6] 25)) by repeat' first | exact gr_refl _ | with_reducible assumption | with_reducible apply gr_alloc | with_reducible apply gr_set | with_reducible apply gr_drew | with_reducible apply gr_drewN | exact Nat.le_add_right _ _ | exact Nat.le_refl _ | (refine gr_then (by with_reducible assumption) ?_))
  have cB0_0 := B0.out.cell 0 (by simp)
  have cB0_1 := B0.out.cell 1 (by simp)
  have cB0_2 := B0.out.cell 2 (by simp)
  have cB0_3 := B0.out.cell 3 (by simp)
  have cB0_4 := B0.out.cell 4 (by simp)
  have cB0_5 := B0.out.cell 5 (by simp)
  have cB0_6 := B0.out.cell 6 (by simp)
  simp only [List.getD_cons_zero, List.getD_cons_succ] at cB0_0 cB0_1 cB0_2 cB0_3 cB0_4 cB0_5 cB0_6
  go_enter Try.func10, Try.ntmps10
  go_wp2_with fail
  generalize w.alloc (.cells #[.int .i64 x0, .int .i64 x1, .int .i64 x2, .int .i64 x3, .int .i64 x4, .int .i64 x5, .int .i64 x6] 25) = v0 at *
  go_at_call 28
  have HC := Lib.hid (show C7 _ w.heap.size x0 x1 x2 x3 x4 x5 x6 from ⟨cB0_0, cB0_1, cB0_2, cB0_3, cB0_4, cB0_5, cB0_6⟩)
  (with_reducible refine (asked06_any _ x0 x1 x2 x3 x4 x5 x6 0 r pc _ HC.out).mono ?_)
  rintro e w1 ⟨rfl, rfl⟩
  have HK := codB_bd (okB x0 x1 x2 x3 x4 x5 x6) 0 r pc
  obtain ⟨K, hK⟩ : ∃ K, codB (okB x0 x1 x2 x3 x4 x5 x6) 0 r pc = K := ⟨_, rfl⟩
  rw [hK]
  rw [hK] at HK
  have hK2 := Lib.hid hK
  clear hK
  by_cases hk0 : K = 0
  case neg =>
    have hd : (K != 0) = true := bne_iff_ne.2 hk0
    go_wp2
    go_returns
    exact ⟨retN_n (glE_n hK2.out hk0) hk0, by repeat' (first | with_reducible exact HB.out | (with_reducible refine gr_drewN ?_) | (with_reducible refine gr_drew ?_))⟩
  subst hk0
  obtain ⟨hok, hl, hr, hp⟩ := codB_t hK2.out
  have HOK := Lib.hid hok
  obtain ⟨G, hG⟩ : ∃ G, glF (fun ld => stB x0 (totB x1 x2 x3 x5 ld) (momB x3 x4 x5 x6 ld r) pc) 1001 = G := ⟨_, rfl⟩
  have HG := Lib.hid hG
  clear hG hok
  go_wp2_with fail
  go_at_call 24
  (with_reducible refine (load06_any _ x0 x1 x2 x3 x4 x5 x6 r pc _ HC.out HOK.out hr hp).mono ?_)
  rintro e y ⟨rfl, q, rfl⟩
  replace HB := Lib.hid (gr_drewN (n := q) HB.out)
  rw [HG.out]
  by_cases hneg : G < 0
  case pos =>
    have hse := Lib.hid (glE_3 (G := G) hK2.out hneg)
    have hd := decide_eq_true hneg
    have hd2 : decide (0 ≤ G) = false := decide_eq_false (by omega)
    go_wp2
    go_returns
    exact ⟨retN_n (by rw [HG.out]; exact hse.out) (by decide), by repeat' (first | with_reducible exact HB.out | (with_reducible refine gr_drewN ?_) | (with_reducible refine gr_drew ?_))⟩
  have hse := Lib.hid (glE_y (G := G) hK2.out hneg)
  have hd := decide_eq_false hneg
  have hd2 : decide (0 ≤ G) = true := decide_eq_true (by omega)
  have hgn : glN G = G := if_neg hneg
  go_wp2
  go_returns
  exact ⟨retN_y (by rw [HG.out]; exact hse.out) HG.out.symm, by repeat' (first | with_reducible exact HB.out | (with_reducible refine gr_drewN ?_) | (with_reducible refine gr_drew ?_))⟩
end Go.Proofs.Ytmalbgbmapfiiaa
