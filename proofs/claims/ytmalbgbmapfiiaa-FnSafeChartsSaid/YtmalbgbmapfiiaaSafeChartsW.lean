/- The walk of the law FnSafeCharts: whatever bytes came in, it returns true. No condition. -/
import Derived.Test.YtmalbgbmapfiiaaSafeP
import Derived.Test.YtmalbgbmapfiiaaScSrc
import Derived.BigQuiet
import Derived.Test.YtmalbgbmapfiiaaGrow
namespace Go.Proofs.Ytmalbgbmapfiiaa.fnSafeCharts
open Go.RowKit Go.Deep
theorem f6big_any (A : Option Addr) (n c : Nat) (w : World) : Calls Try.prog 4 #[.slice A n c] w fun e w' => e = .returned (.bool (decide (4096 < (n : Int)))) ∧ w = w' := by
  by_cases h : 4096 < (n : Int)
  · go_enter Try.func4, Try.ntmps4; go_wp2; go_returns; exact ⟨by simp [h], rfl⟩
  · go_enter Try.func4, Try.ntmps4; go_wp2; go_returns; exact ⟨by simp [h], rfl⟩
theorem stable_is (x0 x1 x2 x3 x4 x5 x6 : Int) (ld r pc : Int) (w : World) (h : codB (okB x0 x1 x2 x3 x4 x5 x6) ld r pc = 0) (h2 : stB x0 (totB x1 x2 x3 x5 ld) (momB x3 x4 x5 x6 ld r) pc = true) : Calls Try.prog 12 #[.agg #[.int .i64 x0, .int .i64 x1, .int .i64 x2, .int .i64 x3, .int .i64 x4, .int .i64 x5, .int .i64 x6], .int .i64 ld, .int .i64 r, .int .i64 pc] w fun e w' => e = .returned (.tuple #[.bool true, .int .i64 0]) ∧ Below w.heap.size w w' := by have h9 := implSt_any x0 x1 x2 x3 x4 x5 x6 ld r pc w; rw [h, h2] at h9; exact h9
theorem sc_law {P : Int → Int → Bool} {zs R RL : List Int} {n m : Nat} {ok : Bool} {pc C : Int} (hR : scR P zs n 0 [] 50000 = R) (hC : scC ok (okCh zs n) pc R = C) (hL : scL C R = RL) (hm : RL.length = m * 2) : (C = 0 → ok = true ∧ (100 ≤ pc ∧ pc ≤ 1000) ∧ okCh RL m = true ∧ ∀ i, i < m → rdC RL i = rdC zs i ∧ (0 ≤ ldC RL i ∧ ldC RL i ≤ ldC zs i) ∧ P (rdC zs i) (ldC RL i) = true) ∧ m ≤ n := by
  by_cases h : C = 0
  · subst h
    rw [show scL 0 R = R from if_pos rfl] at hL
    subst hL
    unfold scC at hC
    split at hC
    · rename_i h1
      split at hC
      · rename_i h2
        split at hC
        · cases hC
        · rename_i h3
          obtain ⟨q1, q2, q3⟩ := safe_chart h1.2 hR hm h3
          exact ⟨fun _ => ⟨h1.1, inI_t h2, q2, q3⟩, q1⟩
      · cases hC
    · cases hC
  · rw [show scL C R = [] from if_neg h] at hL
    subst hL
    exact ⟨fun h9 => absurd h9 h, by simp at hm; omega⟩
theorem glF_le (p : Int → Bool) : ∀ m : Nat, glF p (m+1) ≤ 50 * (m : Int)
  | 0 => by unfold glF; split <;> simp [glF]
  | m + 1 => by
    have h := glF_le p m
    unfold glF
    split
    · omega
    · omega
theorem gl_law (x0 x1 x2 x3 x4 x5 x6 : Int) (r pc : Int) {G E : Int} (hE : glE (codB (okB x0 x1 x2 x3 x4 x5 x6) 0 r pc) (glF (fun ld => stB x0 (totB x1 x2 x3 x5 ld) (momB x3 x4 x5 x6 ld r) pc) 1001) = E) (hG : zif (glE (codB (okB x0 x1 x2 x3 x4 x5 x6) 0 r pc) (glF (fun ld => stB x0 (totB x1 x2 x3 x5 ld) (momB x3 x4 x5 x6 ld r) pc) 1001)) (glF (fun ld => stB x0 (totB x1 x2 x3 x5 ld) (momB x3 x4 x5 x6 ld r) pc) 1001) = G) (h0 : E = 0) : codB (okB x0 x1 x2 x3 x4 x5 x6) G r pc = 0 ∧ stB x0 (totB x1 x2 x3 x5 G) (momB x3 x4 x5 x6 G r) pc = true := by
  subst h0
  rw [zif_y hE] at hG
  have hk : codB (okB x0 x1 x2 x3 x4 x5 x6) 0 r pc = 0 := by
    by_cases h : codB (okB x0 x1 x2 x3 x4 x5 x6) 0 r pc = 0
    · exact h
    · rw [glE_n rfl h] at hE; exact hE
  have hn : ¬ glF (fun ld => stB x0 (totB x1 x2 x3 x5 ld) (momB x3 x4 x5 x6 ld r) pc) 1001 < 0 := fun h => by rw [glE_3 hk h] at hE; omega
  have hb := glF_bd (fun ld => stB x0 (totB x1 x2 x3 x5 ld) (momB x3 x4 x5 x6 ld r) pc) 1001
  have hl5 := glF_le (fun ld => stB x0 (totB x1 x2 x3 x5 ld) (momB x3 x4 x5 x6 ld r) pc) 1000
  rw [hG] at hb hn hl5
  obtain ⟨h1, h2, h3, h4⟩ := codB_t hk
  rcases hb.1 with h9 | h9
  · omega
  · exact ⟨codB_0 h1 (inI_y (by omega)) (inI_y h3) (inI_y h4), h9.1⟩
theorem implGl_is (x0 x1 x2 x3 x4 x5 x6 : Int) (r pc : Int) {P C : Int} (w : World) (h1 : zif (glE (codB (okB x0 x1 x2 x3 x4 x5 x6) 0 r pc) (glF (fun ld => stB x0 (totB x1 x2 x3 x5 ld) (momB x3 x4 x5 x6 ld r) pc) 1001)) (glF (fun ld => stB x0 (totB x1 x2 x3 x5 ld) (momB x3 x4 x5 x6 ld r) pc) 1001) = P) (h3 : glE (codB (okB x0 x1 x2 x3 x4 x5 x6) 0 r pc) (glF (fun ld => stB x0 (totB x1 x2 x3 x5 ld) (momB x3 x4 x5 x6 ld r) pc) 1001) = C) : Calls Try.prog 9 #[.agg #[.int .i64 x0, .int .i64 x1, .int .i64 x2, .int .i64 x3, .int .i64 x4, .int .i64 x5, .int .i64 x6], .int .i64 r, .int .i64 pc] w fun e w' => e = .returned (.tuple #[.int .i64 P, .int .i64 C]) ∧ Below w.heap.size w w' := by subst h1; subst h3; exact implGl_any x0 x1 x2 x3 x4 x5 x6 r pc w
theorem specGl_is (x0 x1 x2 x3 x4 x5 x6 : Int) (r pc : Int) {P C : Int} (w : World) (h1 : zif (glE (codB (okB x0 x1 x2 x3 x4 x5 x6) 0 r pc) (glF (fun ld => stB x0 (totB x1 x2 x3 x5 ld) (momB x3 x4 x5 x6 ld r) pc) 1001)) (glF (fun ld => stB x0 (totB x1 x2 x3 x5 ld) (momB x3 x4 x5 x6 ld r) pc) 1001) = P) (h3 : glE (codB (okB x0 x1 x2 x3 x4 x5 x6) 0 r pc) (glF (fun ld => stB x0 (totB x1 x2 x3 x5 ld) (momB x3 x4 x5 x6 ld r) pc) 1001) = C) : Calls Try.prog 10 #[.agg #[.int .i64 x0, .int .i64 x1, .int .i64 x2, .int .i64 x3, .int .i64 x4, .int .i64 x5, .int .i64 x6], .int .i64 r, .int .i64 pc] w fun e w' => e = .returned (.tuple #[.int .i64 P, .int .i64 C]) ∧ Below w.heap.size w w' := by subst h1; subst h3; exact specGl_any x0 x1 x2 x3 x4 x5 x6 r pc w
set_option maxHeartbeats 32000000 in
set_option maxRecDepth 20000 in
theorem walk (A : Option Addr) (n c : Nat) (bs : List Int) (w : World) (h : n ≤ 9223372036854775807 ∧ bs.length = n ∧ (∀ x ∈ bs, U8 x) ∧ SV (.int .u8) w w.heap.size A bs) :
    Calls Try.prog 3 #[.slice A n c] w fun e w' => e = .returned (.bool true) ∧ Below w.heap.size w w' := by
  obtain ⟨hn, hl, hq, hs⟩ := h
  obtain rfl : n = bs.length := hl.symm
  have H := Lib.hid hs
  have HQ := Lib.hid hq
  clear hs hq hl
  go_enter Try.func3, Try.ntmps3
  go_wp2_with fail
  go_at_call 4
  (with_reducible refine (f6big_any A bs.length c _).mono ?_)
  rintro e w0 ⟨rfl, rfl⟩
  by_cases hb : 4096 < (bs.length : Int)
  · have hd : decide (4096 < (bs.length : Int)) = true := decide_eq_true hb
    go_wp2
    go_returns
    exact ⟨rfl, gr_refl w⟩
  have hd : decide (4096 < (bs.length : Int)) = false := decide_eq_false hb
  have hn2 : bs.length ≤ 1048576 := by omega
  have HB := Lib.hid (gr_refl w)
  go_wp2_with fail
  go_at_call 5
  (with_reducible refine (drawSc_any A c bs _ hn2 HQ.out H.out).mono ?_)
  rintro e w1 ⟨a0, a1, a2, a3, a4, a5, a6, A1, n1, c1, zs, pc, rfl, hn1, hz, hsi, _, hb⟩
  have HZ := Lib.hid hz
  have SI0 := Lib.hid hsi
  clear hz hsi
  replace H := Lib.hid (H.out.later hb)
  replace HB := Lib.hid (gr_then hb HB.out)
  clear hb
  have SI1 := SI0
  clear SI0
  have hb : Below w1.heap.size w1 (w1.alloc (.cells #[.int .i64 a0, .int .i64 a1, .int .i64 a2, .int .i64 a3, .int .i64 a4, .int .i64 a5, .int .i64 a6] 25)) := gr_alloc (gr_refl _)
  have BB := Lib.hid (show BI (w1.alloc (.cells #[.int .i64 a0, .int .i64 a1, .int .i64 a2, .int .i64 a3, .int .i64 a4, .int .i64 a5, .int .i64 a6] 25)) w1.heap.size 25 [a0, a1, a2, a3, a4, a5, a6] from heap_alloc_new _ _)
  replace H := Lib.hid (H.out.later hb)
  replace HB := Lib.hid (gr_then hb HB.out)
  replace SI1 := Lib.hid (SI1.out.later hb)
  clear hb
  have cBB_0 := BB.out.cell 0 (by simp)
  have cBB_1 := BB.out.cell 1 (by simp)
  have cBB_2 := BB.out.cell 2 (by simp)
  have cBB_3 := BB.out.cell 3 (by simp)
  have cBB_4 := BB.out.cell 4 (by simp)
  have cBB_5 := BB.out.cell 5 (by simp)
  have cBB_6 := BB.out.cell 6 (by simp)
  simp only [List.getD_cons_zero, List.getD_cons_succ] at cBB_0 cBB_1 cBB_2 cBB_3 cBB_4 cBB_5 cBB_6
  go_wp2_with fail
  generalize w1.alloc (.cells #[.int .i64 a0, .int .i64 a1, .int .i64 a2, .int .i64 a3, .int .i64 a4, .int .i64 a5, .int .i64 a6] 25) = w2 at *
  obtain ⟨gBB, hgBB⟩ : ∃ g, w1.heap.size = g := ⟨_, rfl⟩
  rw [hgBB] at BB ⊢
  clear hgBB
  clear cBB_0 cBB_1 cBB_2 cBB_3 cBB_4 cBB_5 cBB_6
  obtain ⟨P, hP⟩ : ∃ P : Int → Int → Bool, (fun r ld => stB a0 (totB a1 a2 a3 a5 ld) (momB a3 a4 a5 a6 ld r) pc) = P := ⟨_, rfl⟩
  obtain ⟨R, hR⟩ : ∃ R, scR P zs n1 0 [] 50000 = R := ⟨_, rfl⟩
  obtain ⟨C1, hC1⟩ : ∃ C, scC (okB a0 a1 a2 a3 a4 a5 a6) (okCh zs n1) pc R = C := ⟨_, rfl⟩
  obtain ⟨RL, hRL⟩ : ∃ Q, scL C1 R = Q := ⟨_, rfl⟩
  have HP := Lib.hid hP
  have HR := Lib.hid hR
  have HC1 := Lib.hid hC1
  have HRL := Lib.hid hRL
  clear hP hR hC1 hRL
  go_at_call 6
  (with_reducible refine (implSc_any a0 a1 a2 a3 a4 a5 a6 A1 n1 c1 zs pc _ (by omega) HZ.out SI1.out).mono ?_)
  rintro e w3 ⟨A2, m2, c2, he, hrm, hb⟩
  rw [HP.out, HR.out, HC1.out] at he
  rw [HP.out, HR.out, HC1.out, HRL.out] at hrm
  subst he
  have RM2 := Lib.hid hrm
  clear hrm
  replace H := Lib.hid (H.out.later hb)
  replace HB := Lib.hid (gr_then hb HB.out)
  replace BB := Lib.hid (BB.out.late hb)
  replace SI1 := Lib.hid (SI1.out.later hb)
  clear hb
  have cBB_0 := BB.out.cell 0 (by simp)
  have cBB_1 := BB.out.cell 1 (by simp)
  have cBB_2 := BB.out.cell 2 (by simp)
  have cBB_3 := BB.out.cell 3 (by simp)
  have cBB_4 := BB.out.cell 4 (by simp)
  have cBB_5 := BB.out.cell 5 (by simp)
  have cBB_6 := BB.out.cell 6 (by simp)
  simp only [List.getD_cons_zero, List.getD_cons_succ] at cBB_0 cBB_1 cBB_2 cBB_3 cBB_4 cBB_5 cBB_6
  go_wp2_with fail
  clear cBB_0 cBB_1 cBB_2 cBB_3 cBB_4 cBB_5 cBB_6
  go_at_call 7
  (with_reducible refine (specSc_any a0 a1 a2 a3 a4 a5 a6 A1 n1 c1 zs pc _ (by omega) HZ.out SI1.out).mono ?_)
  rintro e w4 ⟨A3, m3, c3, he, hrm, hb⟩
  rw [HP.out, HR.out, HC1.out] at he
  rw [HP.out, HR.out, HC1.out, HRL.out] at hrm
  subst he
  have RM3 := Lib.hid hrm
  clear hrm
  replace H := Lib.hid (H.out.later hb)
  replace HB := Lib.hid (gr_then hb HB.out)
  replace BB := Lib.hid (BB.out.late hb)
  replace RM2 := Lib.hid (RM2.out.late hb)
  replace SI1 := Lib.hid (SI1.out.later hb)
  clear hb
  obtain rfl : m3 = m2 := by have h1 := RM2.out.len; have h2 := RM3.out.len; omega
  go_wp2_with fail
  go_at_call 8
  (with_reducible refine (drawGl_any A c bs _ hn2 HQ.out H.out).mono ?_)
  rintro e w5 ⟨d0, d1, d2, d3, d4, d5, d6, q, p, rfl, _, _, _, hb⟩
  replace H := Lib.hid (H.out.later hb)
  replace HB := Lib.hid (gr_then hb HB.out)
  replace BB := Lib.hid (BB.out.late hb)
  replace RM2 := Lib.hid (RM2.out.late hb)
  replace RM3 := Lib.hid (RM3.out.late hb)
  replace SI1 := Lib.hid (SI1.out.later hb)
  clear hb
  have hb : Below w5.heap.size w5 (w5.alloc (.cells #[.int .i64 d0, .int .i64 d1, .int .i64 d2, .int .i64 d3, .int .i64 d4, .int .i64 d5, .int .i64 d6] 25)) := gr_alloc (gr_refl _)
  have BC := Lib.hid (show BI (w5.alloc (.cells #[.int .i64 d0, .int .i64 d1, .int .i64 d2, .int .i64 d3, .int .i64 d4, .int .i64 d5, .int .i64 d6] 25)) w5.heap.size 25 [d0, d1, d2, d3, d4, d5, d6] from heap_alloc_new _ _)
  replace H := Lib.hid (H.out.later hb)
  replace HB := Lib.hid (gr_then hb HB.out)
  replace BB := Lib.hid (BB.out.late hb)
  replace RM2 := Lib.hid (RM2.out.late hb)
  replace RM3 := Lib.hid (RM3.out.late hb)
  replace SI1 := Lib.hid (SI1.out.later hb)
  clear hb
  have cBC_0 := BC.out.cell 0 (by simp)
  have cBC_1 := BC.out.cell 1 (by simp)
  have cBC_2 := BC.out.cell 2 (by simp)
  have cBC_3 := BC.out.cell 3 (by simp)
  have cBC_4 := BC.out.cell 4 (by simp)
  have cBC_5 := BC.out.cell 5 (by simp)
  have cBC_6 := BC.out.cell 6 (by simp)
  simp only [List.getD_cons_zero, List.getD_cons_succ] at cBC_0 cBC_1 cBC_2 cBC_3 cBC_4 cBC_5 cBC_6
  go_wp2_with fail
  generalize w5.alloc (.cells #[.int .i64 d0, .int .i64 d1, .int .i64 d2, .int .i64 d3, .int .i64 d4, .int .i64 d5, .int .i64 d6] 25) = w6 at *
  obtain ⟨gBC, hgBC⟩ : ∃ g, w5.heap.size = g := ⟨_, rfl⟩
  rw [hgBC] at BC ⊢
  clear hgBC
  clear cBC_0 cBC_1 cBC_2 cBC_3 cBC_4 cBC_5 cBC_6
  obtain ⟨EG, hEG⟩ : ∃ v, glE (codB (okB d0 d1 d2 d3 d4 d5 d6) 0 q p) (glF (fun ld => stB d0 (totB d1 d2 d3 d5 ld) (momB d3 d4 d5 d6 ld q) p) 1001) = v := ⟨_, rfl⟩
  obtain ⟨GG, hGG⟩ : ∃ v, zif (glE (codB (okB d0 d1 d2 d3 d4 d5 d6) 0 q p) (glF (fun ld => stB d0 (totB d1 d2 d3 d5 ld) (momB d3 d4 d5 d6 ld q) p) 1001)) (glF (fun ld => stB d0 (totB d1 d2 d3 d5 ld) (momB d3 d4 d5 d6 ld q) p) 1001) = v := ⟨_, rfl⟩
  have HEG := Lib.hid hEG
  have HGG := Lib.hid hGG
  clear hEG hGG
  go_at_call 9
  (with_reducible refine (implGl_is d0 d1 d2 d3 d4 d5 d6 q p _ HGG.out HEG.out).mono ?_)
  rintro e w7 ⟨rfl, hb⟩
  replace H := Lib.hid (H.out.later hb)
  replace HB := Lib.hid (gr_then hb HB.out)
  replace BB := Lib.hid (BB.out.late hb)
  replace BC := Lib.hid (BC.out.late hb)
  replace RM2 := Lib.hid (RM2.out.late hb)
  replace RM3 := Lib.hid (RM3.out.late hb)
  replace SI1 := Lib.hid (SI1.out.later hb)
  clear hb
  have cBC_0 := BC.out.cell 0 (by simp)
  have cBC_1 := BC.out.cell 1 (by simp)
  have cBC_2 := BC.out.cell 2 (by simp)
  have cBC_3 := BC.out.cell 3 (by simp)
  have cBC_4 := BC.out.cell 4 (by simp)
  have cBC_5 := BC.out.cell 5 (by simp)
  have cBC_6 := BC.out.cell 6 (by simp)
  simp only [List.getD_cons_zero, List.getD_cons_succ] at cBC_0 cBC_1 cBC_2 cBC_3 cBC_4 cBC_5 cBC_6
  go_wp2_with fail
  clear cBC_0 cBC_1 cBC_2 cBC_3 cBC_4 cBC_5 cBC_6
  go_at_call 10
  (with_reducible refine (specGl_is d0 d1 d2 d3 d4 d5 d6 q p _ HGG.out HEG.out).mono ?_)
  rintro e w8 ⟨rfl, hb⟩
  replace H := Lib.hid (H.out.later hb)
  replace HB := Lib.hid (gr_then hb HB.out)
  replace BB := Lib.hid (BB.out.late hb)
  replace BC := Lib.hid (BC.out.late hb)
  replace RM2 := Lib.hid (RM2.out.late hb)
  replace RM3 := Lib.hid (RM3.out.late hb)
  replace SI1 := Lib.hid (SI1.out.later hb)
  clear hb
  have SL := Lib.hid (sc_law (ok := okB a0 a1 a2 a3 a4 a5 a6) (pc := pc) HR.out HC1.out HRL.out RM2.out.len)
  have hm2 : m3 ≤ 1048576 := by have h1 := SL.out.2; omega
  have cBC_0 := BC.out.cell 0 (by simp)
  have cBC_1 := BC.out.cell 1 (by simp)
  have cBC_2 := BC.out.cell 2 (by simp)
  have cBC_3 := BC.out.cell 3 (by simp)
  have cBC_4 := BC.out.cell 4 (by simp)
  have cBC_5 := BC.out.cell 5 (by simp)
  have cBC_6 := BC.out.cell 6 (by simp)
  simp only [List.getD_cons_zero, List.getD_cons_succ] at cBC_0 cBC_1 cBC_2 cBC_3 cBC_4 cBC_5 cBC_6
  go_wp2_with fail
  clear cBC_0 cBC_1 cBC_2 cBC_3 cBC_4 cBC_5 cBC_6
  go_at_call 11
  (with_reducible refine (sameChart_any A2 A3 m3 c2 c3 RL _ hm2 RM2.out.len RM2.out.si RM3.out.si).mono ?_)
  rintro e w9 ⟨rfl, hq⟩
  have hb : Below w8.heap.size w8 w9 := by obtain ⟨q, rfl⟩ := hq; exact gr_drewN (gr_refl _)
  clear hq
  replace H := Lib.hid (H.out.later hb)
  replace HB := Lib.hid (gr_then hb HB.out)
  replace BB := Lib.hid (BB.out.late hb)
  replace BC := Lib.hid (BC.out.late hb)
  replace RM2 := Lib.hid (RM2.out.late hb)
  replace RM3 := Lib.hid (RM3.out.late hb)
  replace SI1 := Lib.hid (SI1.out.later hb)
  clear hb
  by_cases hE : EG = 0
  · subst hE
    have cBC_0 := BC.out.cell 0 (by simp)
    have cBC_1 := BC.out.cell 1 (by simp)
    have cBC_2 := BC.out.cell 2 (by simp)
    have cBC_3 := BC.out.cell 3 (by simp)
    have cBC_4 := BC.out.cell 4 (by simp)
    have cBC_5 := BC.out.cell 5 (by simp)
    have cBC_6 := BC.out.cell 6 (by simp)
    simp only [List.getD_cons_zero, List.getD_cons_succ] at cBC_0 cBC_1 cBC_2 cBC_3 cBC_4 cBC_5 cBC_6
    go_wp2_with fail
    clear cBC_0 cBC_1 cBC_2 cBC_3 cBC_4 cBC_5 cBC_6
    go_at_call 12
    (with_reducible refine (stable_is d0 d1 d2 d3 d4 d5 d6 GG q p _ (gl_law d0 d1 d2 d3 d4 d5 d6 q p HEG.out HGG.out rfl).1 (gl_law d0 d1 d2 d3 d4 d5 d6 q p HEG.out HGG.out rfl).2).mono ?_)
    rintro e w10 ⟨rfl, hb⟩
    replace H := Lib.hid (H.out.later hb)
    replace HB := Lib.hid (gr_then hb HB.out)
    replace BB := Lib.hid (BB.out.late hb)
    replace BC := Lib.hid (BC.out.late hb)
    replace RM2 := Lib.hid (RM2.out.late hb)
    replace RM3 := Lib.hid (RM3.out.late hb)
    replace SI1 := Lib.hid (SI1.out.later hb)
    clear hb
    by_cases hC : C1 = 0
    · subst hC
      obtain ⟨hok, hpc, hch, hrow⟩ := SL.out.1 rfl
      have HK := Lib.hid hok
      have HCH := Lib.hid hch
      have HROW := Lib.hid hrow
      clear hok hch hrow
      have hm5 := SL.out.2
      have hd3 : decide ((n1 : Int) < (m3 : Int)) = false := decide_eq_false (by omega)
      go_wp2_with fail
      go_at_call 13
      (with_reducible refine (validChart_any A2 m3 c2 RL _ hm2 RM2.out.len RM2.out.si).mono ?_)
      rintro e w11 ⟨rfl, hb⟩
      rw [HCH.out]
      replace H := Lib.hid (H.out.later hb)
      replace HB := Lib.hid (gr_then hb HB.out)
      replace BB := Lib.hid (BB.out.late hb)
      replace BC := Lib.hid (BC.out.late hb)
      replace RM2 := Lib.hid (RM2.out.late hb)
      replace RM3 := Lib.hid (RM3.out.late hb)
      replace SI1 := Lib.hid (SI1.out.later hb)
      clear hb
      go_wp2_with fail
      have HSA := Lib.hid RM2.out.si
      have HLA := Lib.hid RM2.out.len
      clear RM2 RM3
      go_loopw [19] (fun iv wr => ∃ k : Nat, k ≤ m3 ∧ iv = .int .i64 (k : Int) ∧ Below w11.heap.size w11 wr) (fun iv _ => m3 - (intOf iv).toNat)
      case atStart => exact ⟨0, by omega, rfl, gr_refl _⟩
      case round =>
        obtain ⟨k, hk, rfl, hbX⟩ := hrel
        have HX := Lib.hid hbX
        clear hbX
        by_cases hkn : k < m3
        case neg => have hd : decide ((k : Int) < m3) = false := decide_eq_false (by omega); go_wp2; go_returns; exact ⟨rfl, gr_then HX.out HB.out⟩
        have hd : decide ((k : Int) < m3) = true := decide_eq_true (by omega)
        have hkz : k < n1 := by omega
        obtain ⟨b1, o1, hA1, hB1, p0, p1⟩ := si2 (HSA.out.later HX.out) HLA.out hkn
        obtain ⟨b2, o2, hA2, hB2, q0, q1⟩ := si2 (SI1.out.later HX.out) HZ.out hkz
        subst hA1
        subst hA2
        obtain ⟨e1, ⟨e2, e3⟩, e4⟩ := HROW.out k hkn
        obtain ⟨s1, s2⟩ := stepOk_t ((okCh_t HCH.out).1 k hkn)
        rw [e1] at p0 s1
        rw [← HP.out] at e4
        simp only at e4
        have HST := Lib.hid (codB_0 HK.out (inI_y s2) (inI_y (show 0 ≤ rdC zs k ∧ rdC zs k ≤ 1000 by omega)) (inI_y hpc))
        have HS4 := Lib.hid e4
        clear e1 e2 e4 s1 s2
        generalize rdC zs k = r at *
        generalize ldC RL k = ld at *
        generalize ldC zs k = l2 at *
        have B9 := Lib.hid (BB.out.late HX.out)
        have c0 := B9.out.cell 0 (by simp)
        have c1 := B9.out.cell 1 (by simp)
        have c2 := B9.out.cell 2 (by simp)
        have c3 := B9.out.cell 3 (by simp)
        have c4 := B9.out.cell 4 (by simp)
        have c5 := B9.out.cell 5 (by simp)
        have c6 := B9.out.cell 6 (by simp)
        simp only [List.getD_cons_zero, List.getD_cons_succ] at c0 c1 c2 c3 c4 c5 c6
        have hd5 : decide (l2 < ld) = false := decide_eq_false (by omega)
        go_wp2
        have gw0 : ∀ X, (grw (wr) X).cell? ⟨gBB, 0, none⟩ = some (.int .i64 a0) := grw_cell (by assumption)
        have gw1 : ∀ X, (grw (wr) X).cell? ⟨gBB, 1, none⟩ = some (.int .i64 a1) := grw_cell (by assumption)
        have gw2 : ∀ X, (grw (wr) X).cell? ⟨gBB, 2, none⟩ = some (.int .i64 a2) := grw_cell (by assumption)
        have gw3 : ∀ X, (grw (wr) X).cell? ⟨gBB, 3, none⟩ = some (.int .i64 a3) := grw_cell (by assumption)
        have gw4 : ∀ X, (grw (wr) X).cell? ⟨gBB, 4, none⟩ = some (.int .i64 a4) := grw_cell (by assumption)
        have gw5 : ∀ X, (grw (wr) X).cell? ⟨gBB, 5, none⟩ = some (.int .i64 a5) := grw_cell (by assumption)
        have gw6 : ∀ X, (grw (wr) X).cell? ⟨gBB, 6, none⟩ = some (.int .i64 a6) := grw_cell (by assumption)
        have gw7 : ∀ X, (grw (wr) X).cell? ⟨b1, o1 + k * 2, none⟩ = some (.int .i64 r) := grw_cell (by assumption)
        have gw8 : ∀ X, (grw (wr) X).cell? ⟨b1, o1 + k * 2 + 1, none⟩ = some (.int .i64 ld) := grw_cell (by assumption)
        have gw9 : ∀ X, (grw (wr) X).cell? ⟨b2, o2 + k * 2, none⟩ = some (.int .i64 r) := grw_cell (by assumption)
        have gw10 : ∀ X, (grw (wr) X).cell? ⟨b2, o2 + k * 2 + 1, none⟩ = some (.int .i64 l2) := grw_cell (by assumption)
        refine wp_region_grow (by kernel_rfl) (by kernel_rfl) ?_
        repeat (go_big_quiet_step (first | (go_at_call 12; exact grow_of (stable_is a0 a1 a2 a3 a4 a5 a6 ld r pc _ HST.out HS4.out)) | fail))
        refine wpQuiet_nil ?_
        rintro wq ⟨X, hX⟩
        have hQ_wq : Below (wr).heap.size (wr) wq := by rw [hX]; exact grw_below _ _
        clear hX gw0 gw1 gw2 gw3 gw4 gw5 gw6 gw7 gw8 gw9 gw10
        have HQ2 := Lib.hid hQ_wq
        have r0 := keepc hQ_wq p0
        have r1 := keepc hQ_wq p1
        have t0 := keepc hQ_wq q0
        have t1 := keepc hQ_wq q1
        clear p0 p1 q0 q1 c0 c1 c2 c3 c4 c5 c6 hQ_wq
        have FIN : ∀ n : Nat, Below w11.heap.size w11 (wq.drewN n) := fun n => gr_drewN (gr_then HQ2.out HX.out)
        have HF := Lib.hid FIN
        clear FIN
        go_wp2
        go_quiet (fail)
        go_wp2
        go_roundw
        case rel => exact ⟨k + 1, by omega, by go_num, HF.out _⟩
        case measure => simp [intOf]; omega
    · have hC1 : (C1 != 0) = true := by simp [hC]
      go_wp2_with fail
      go_returns
      exact ⟨rfl, HB.out⟩
  · have hE1 : (EG != 0) = true := by simp [hE]
    have hE2 : (EG == 0) = false := by simp [hE]
    by_cases hC : C1 = 0
    · subst hC
      obtain ⟨hok, hpc, hch, hrow⟩ := SL.out.1 rfl
      have HK := Lib.hid hok
      have HCH := Lib.hid hch
      have HROW := Lib.hid hrow
      clear hok hch hrow
      have hm5 := SL.out.2
      have hd3 : decide ((n1 : Int) < (m3 : Int)) = false := decide_eq_false (by omega)
      go_wp2_with fail
      go_at_call 13
      (with_reducible refine (validChart_any A2 m3 c2 RL _ hm2 RM2.out.len RM2.out.si).mono ?_)
      rintro e w10 ⟨rfl, hb⟩
      rw [HCH.out]
      replace H := Lib.hid (H.out.later hb)
      replace HB := Lib.hid (gr_then hb HB.out)
      replace BB := Lib.hid (BB.out.late hb)
      replace BC := Lib.hid (BC.out.late hb)
      replace RM2 := Lib.hid (RM2.out.late hb)
      replace RM3 := Lib.hid (RM3.out.late hb)
      replace SI1 := Lib.hid (SI1.out.later hb)
      clear hb
      go_wp2_with fail
      have HSA := Lib.hid RM2.out.si
      have HLA := Lib.hid RM2.out.len
      clear RM2 RM3
      go_loopw [19] (fun iv wr => ∃ k : Nat, k ≤ m3 ∧ iv = .int .i64 (k : Int) ∧ Below w10.heap.size w10 wr) (fun iv _ => m3 - (intOf iv).toNat)
      case atStart => exact ⟨0, by omega, rfl, gr_refl _⟩
      case round =>
        obtain ⟨k, hk, rfl, hbX⟩ := hrel
        have HX := Lib.hid hbX
        clear hbX
        by_cases hkn : k < m3
        case neg => have hd : decide ((k : Int) < m3) = false := decide_eq_false (by omega); go_wp2; go_returns; exact ⟨rfl, gr_then HX.out HB.out⟩
        have hd : decide ((k : Int) < m3) = true := decide_eq_true (by omega)
        have hkz : k < n1 := by omega
        obtain ⟨b1, o1, hA1, hB1, p0, p1⟩ := si2 (HSA.out.later HX.out) HLA.out hkn
        obtain ⟨b2, o2, hA2, hB2, q0, q1⟩ := si2 (SI1.out.later HX.out) HZ.out hkz
        subst hA1
        subst hA2
        obtain ⟨e1, ⟨e2, e3⟩, e4⟩ := HROW.out k hkn
        obtain ⟨s1, s2⟩ := stepOk_t ((okCh_t HCH.out).1 k hkn)
        rw [e1] at p0 s1
        rw [← HP.out] at e4
        simp only at e4
        have HST := Lib.hid (codB_0 HK.out (inI_y s2) (inI_y (show 0 ≤ rdC zs k ∧ rdC zs k ≤ 1000 by omega)) (inI_y hpc))
        have HS4 := Lib.hid e4
        clear e1 e2 e4 s1 s2
        generalize rdC zs k = r at *
        generalize ldC RL k = ld at *
        generalize ldC zs k = l2 at *
        have B9 := Lib.hid (BB.out.late HX.out)
        have c0 := B9.out.cell 0 (by simp)
        have c1 := B9.out.cell 1 (by simp)
        have c2 := B9.out.cell 2 (by simp)
        have c3 := B9.out.cell 3 (by simp)
        have c4 := B9.out.cell 4 (by simp)
        have c5 := B9.out.cell 5 (by simp)
        have c6 := B9.out.cell 6 (by simp)
        simp only [List.getD_cons_zero, List.getD_cons_succ] at c0 c1 c2 c3 c4 c5 c6
        have hd5 : decide (l2 < ld) = false := decide_eq_false (by omega)
        go_wp2
        have gw0 : ∀ X, (grw (wr) X).cell? ⟨gBB, 0, none⟩ = some (.int .i64 a0) := grw_cell (by assumption)
        have gw1 : ∀ X, (grw (wr) X).cell? ⟨gBB, 1, none⟩ = some (.int .i64 a1) := grw_cell (by assumption)
        have gw2 : ∀ X, (grw (wr) X).cell? ⟨gBB, 2, none⟩ = some (.int .i64 a2) := grw_cell (by assumption)
        have gw3 : ∀ X, (grw (wr) X).cell? ⟨gBB, 3, none⟩ = some (.int .i64 a3) := grw_cell (by assumption)
        have gw4 : ∀ X, (grw (wr) X).cell? ⟨gBB, 4, none⟩ = some (.int .i64 a4) := grw_cell (by assumption)
        have gw5 : ∀ X, (grw (wr) X).cell? ⟨gBB, 5, none⟩ = some (.int .i64 a5) := grw_cell (by assumption)
        have gw6 : ∀ X, (grw (wr) X).cell? ⟨gBB, 6, none⟩ = some (.int .i64 a6) := grw_cell (by assumption)
        have gw7 : ∀ X, (grw (wr) X).cell? ⟨b1, o1 + k * 2, none⟩ = some (.int .i64 r) := grw_cell (by assumption)
        have gw8 : ∀ X, (grw (wr) X).cell? ⟨b1, o1 + k * 2 + 1, none⟩ = some (.int .i64 ld) := grw_cell (by assumption)
        have gw9 : ∀ X, (grw (wr) X).cell? ⟨b2, o2 + k * 2, none⟩ = some (.int .i64 r) := grw_cell (by assumption)
        have gw10 : ∀ X, (grw (wr) X).cell? ⟨b2, o2 + k * 2 + 1, none⟩ = some (.int .i64 l2) := grw_cell (by assumption)
        refine wp_region_grow (by kernel_rfl) (by kernel_rfl) ?_
        repeat (go_big_quiet_step (first | (go_at_call 12; exact grow_of (stable_is a0 a1 a2 a3 a4 a5 a6 ld r pc _ HST.out HS4.out)) | fail))
        refine wpQuiet_nil ?_
        rintro wq ⟨X, hX⟩
        have hQ_wq : Below (wr).heap.size (wr) wq := by rw [hX]; exact grw_below _ _
        clear hX gw0 gw1 gw2 gw3 gw4 gw5 gw6 gw7 gw8 gw9 gw10
        have HQ2 := Lib.hid hQ_wq
        have r0 := keepc hQ_wq p0
        have r1 := keepc hQ_wq p1
        have t0 := keepc hQ_wq q0
        have t1 := keepc hQ_wq q1
        clear p0 p1 q0 q1 c0 c1 c2 c3 c4 c5 c6 hQ_wq
        have FIN : ∀ n : Nat, Below w10.heap.size w10 (wq.drewN n) := fun n => gr_drewN (gr_then HQ2.out HX.out)
        have HF := Lib.hid FIN
        clear FIN
        go_wp2
        go_quiet (fail)
        go_wp2
        go_roundw
        case rel => exact ⟨k + 1, by omega, by go_num, HF.out _⟩
        case measure => simp [intOf]; omega
    · have hC1 : (C1 != 0) = true := by simp [hC]
      go_wp2_with fail
      go_returns
      exact ⟨rfl, HB.out⟩
end Go.Proofs.Ytmalbgbmapfiiaa.fnSafeCharts
