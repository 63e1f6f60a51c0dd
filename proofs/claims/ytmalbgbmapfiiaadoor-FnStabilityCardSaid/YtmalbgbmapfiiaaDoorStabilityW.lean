/- The walk of the law FnStability: whatever bytes came in, it returns true. The table of powers of ten stands as the row lays it. -/
import Derived.Test.YtmalbgbmapfiiaaDoorStL
import Derived.Test.YtmalbgbmapfiiaaDoorBsSrc
import Derived.BigQuiet
namespace Go.Proofs.YtmalbgbmapfiiaaDoor.fnStability
open Go.RowKit Go.Deep
theorem f6big_any (A : Option Addr) (n c : Nat) (w : World) : Calls Tryd.prog 5 #[.slice A n c] w fun e w' => e = .returned (.bool (decide (4096 < (n : Int)))) ∧ w = w' := by
  by_cases h : 4096 < (n : Int)
  · go_enter Tryd.func5, Tryd.ntmps5; go_wp2; go_returns; exact ⟨by simp [h], rfl⟩
  · go_enter Tryd.func5, Tryd.ntmps5; go_wp2; go_returns; exact ⟨by simp [h], rfl⟩
set_option maxHeartbeats 32000000 in
set_option maxRecDepth 20000 in
theorem walk (A : Option Addr) (n c : Nat) (bs : List Int) (w : World) (h : n ≤ 9223372036854775807 ∧ bs.length = n ∧ (∀ x ∈ bs, U8 x) ∧ SV (.int .u8) w w.heap.size A bs) (hp : Pow10 w) :
    Calls Tryd.prog 3 #[.slice A n c] w fun e w' => e = .returned (.bool true) ∧ Below w.heap.size w w' := by
  obtain ⟨hn, hl, hq, hs⟩ := h
  obtain rfl : n = bs.length := hl.symm
  have H := Lib.hid hs
  have HQ := Lib.hid hq
  have HP := Lib.hid hp
  clear hs hq hl hp
  go_enter Tryd.func3, Tryd.ntmps3
  go_wp2_with fail
  go_at_call 5
  (with_reducible refine (f6big_any A bs.length c _).mono ?_)
  rintro e w0 ⟨rfl, rfl⟩
  by_cases hb : 4096 < (bs.length : Int)
  · have hd : decide (4096 < (bs.length : Int)) = true := decide_eq_true hb
    go_wp2
    go_returns
    exact ⟨rfl, gr_refl w⟩
  have hd : decide (4096 < (bs.length : Int)) = false := decide_eq_false hb
  have hn2 : bs.length ≤ 1048576 := by omega
  have HB := Lib.hid (gr_refl w)
  go_wp2_with fail
  go_at_call 6
  (with_reducible refine (drawLb_any A c bs _ hn2 HQ.out H.out).mono ?_)
  rintro e w1 ⟨a0, a1, a2, a3, a4, a5, a6, ld, r, pc, rfl, hiBB, hlBB, hrBB, hpBB, hb⟩
  clear hiBB hlBB hrBB
  have HIBB := Lib.hid hpBB
  clear hpBB
  replace H := Lib.hid (H.out.later hb)
  replace HP := Lib.hid (HP.out.later hb)
  replace HB := Lib.hid (gr_then hb HB.out)
  clear hb
  have hgeBB := HB.out.size
  have hb : Below w1.heap.size w1 (w1.alloc (.cells #[.int .i64 a0, .int .i64 a1, .int .i64 a2, .int .i64 a3, .int .i64 a4, .int .i64 a5, .int .i64 a6] 25)) := gr_alloc (gr_refl _)
  have BB := Lib.hid (show BI (w1.alloc (.cells #[.int .i64 a0, .int .i64 a1, .int .i64 a2, .int .i64 a3, .int .i64 a4, .int .i64 a5, .int .i64 a6] 25)) w1.heap.size 25 [a0, a1, a2, a3, a4, a5, a6] from heap_alloc_new _ _)
  replace H := Lib.hid (H.out.later hb)
  replace HP := Lib.hid (HP.out.later hb)
  replace HB := Lib.hid (gr_then hb HB.out)
  clear hb
  obtain ⟨N1, hN1⟩ : ∃ v, zif (lbE (codB (okB a0 a1 a2 a3 a4 a5 a6) ld r pc) (lbB a0 a1 a3 a4 a5 a6 ld r pc)) (lbB a0 a1 a3 a4 a5 a6 ld r pc) = v := ⟨_, rfl⟩
  have HN1 := Lib.hid hN1
  clear hN1
  obtain ⟨E1, hE1⟩ : ∃ v, lbE (codB (okB a0 a1 a2 a3 a4 a5 a6) ld r pc) (lbB a0 a1 a3 a4 a5 a6 ld r pc) = v := ⟨_, rfl⟩
  have HE1 := Lib.hid hE1
  clear hE1
  have cBB_0 := BB.out.cell 0 (by simp)
  have cBB_1 := BB.out.cell 1 (by simp)
  have cBB_2 := BB.out.cell 2 (by simp)
  have cBB_3 := BB.out.cell 3 (by simp)
  have cBB_4 := BB.out.cell 4 (by simp)
  have cBB_5 := BB.out.cell 5 (by simp)
  have cBB_6 := BB.out.cell 6 (by simp)
  simp only [List.getD_cons_zero, List.getD_cons_succ] at cBB_0 cBB_1 cBB_2 cBB_3 cBB_4 cBB_5 cBB_6
  go_wp2_with fail
  generalize w1.alloc (.cells #[.int .i64 a0, .int .i64 a1, .int .i64 a2, .int .i64 a3, .int .i64 a4, .int .i64 a5, .int .i64 a6] 25) = w2 at *
  obtain ⟨gBB, hgBB⟩ : ∃ g, w1.heap.size = g := ⟨_, rfl⟩
  rw [hgBB] at BB hgeBB ⊢
  clear hgBB
  go_at_call 7
  (with_reducible refine (implLb_is a0 a1 a2 a3 a4 a5 a6 ld r pc _ HN1.out HE1.out).mono ?_)
  rintro e w3 ⟨rfl, hb⟩
  clear cBB_0 cBB_1 cBB_2 cBB_3 cBB_4 cBB_5 cBB_6
  replace H := Lib.hid (H.out.later hb)
  replace HP := Lib.hid (HP.out.later hb)
  replace HB := Lib.hid (gr_then hb HB.out)
  replace BB := Lib.hid (BB.out.late hb)
  clear hb
  have cBB_0 := BB.out.cell 0 (by simp)
  have cBB_1 := BB.out.cell 1 (by simp)
  have cBB_2 := BB.out.cell 2 (by simp)
  have cBB_3 := BB.out.cell 3 (by simp)
  have cBB_4 := BB.out.cell 4 (by simp)
  have cBB_5 := BB.out.cell 5 (by simp)
  have cBB_6 := BB.out.cell 6 (by simp)
  simp only [List.getD_cons_zero, List.getD_cons_succ] at cBB_0 cBB_1 cBB_2 cBB_3 cBB_4 cBB_5 cBB_6
  go_wp2_with fail
  go_at_call 8
  (with_reducible refine (specLb_is a0 a1 a2 a3 a4 a5 a6 ld r pc _ HN1.out HE1.out).mono ?_)
  rintro e w4 ⟨rfl, hb⟩
  clear cBB_0 cBB_1 cBB_2 cBB_3 cBB_4 cBB_5 cBB_6
  replace H := Lib.hid (H.out.later hb)
  replace HP := Lib.hid (HP.out.later hb)
  replace HB := Lib.hid (gr_then hb HB.out)
  replace BB := Lib.hid (BB.out.late hb)
  clear hb
  go_wp2_with fail
  go_at_call 9
  (with_reducible refine (drawSt_any A c bs _ hn2 HQ.out H.out).mono ?_)
  rintro e w5 ⟨d0, d1, d2, d3, d4, d5, d6, l, q, p, rfl, hiBC, hlBC, hrBC, hpBC, hb⟩
  clear hiBC hlBC hrBC
  have HIBC := Lib.hid hpBC
  clear hpBC
  replace H := Lib.hid (H.out.later hb)
  replace HP := Lib.hid (HP.out.later hb)
  replace HB := Lib.hid (gr_then hb HB.out)
  replace BB := Lib.hid (BB.out.late hb)
  clear hb
  have hgeBC := HB.out.size
  have hb : Below w5.heap.size w5 (w5.alloc (.cells #[.int .i64 d0, .int .i64 d1, .int .i64 d2, .int .i64 d3, .int .i64 d4, .int .i64 d5, .int .i64 d6] 25)) := gr_alloc (gr_refl _)
  have BC := Lib.hid (show BI (w5.alloc (.cells #[.int .i64 d0, .int .i64 d1, .int .i64 d2, .int .i64 d3, .int .i64 d4, .int .i64 d5, .int .i64 d6] 25)) w5.heap.size 25 [d0, d1, d2, d3, d4, d5, d6] from heap_alloc_new _ _)
  replace H := Lib.hid (H.out.later hb)
  replace HP := Lib.hid (HP.out.later hb)
  replace HB := Lib.hid (gr_then hb HB.out)
  replace BB := Lib.hid (BB.out.late hb)
  clear hb
  obtain ⟨S2, hS2⟩ : ∃ v, (decide (codB (okB d0 d1 d2 d3 d4 d5 d6) l q p = 0) && stB d0 (totB d1 d2 d3 d5 l) (momB d3 d4 d5 d6 l q) p) = v := ⟨_, rfl⟩
  have HS2 := Lib.hid hS2
  clear hS2
  obtain ⟨E2, hE2⟩ : ∃ v, codB (okB d0 d1 d2 d3 d4 d5 d6) l q p = v := ⟨_, rfl⟩
  have HE2 := Lib.hid hE2
  clear hE2
  have cBC_0 := BC.out.cell 0 (by simp)
  have cBC_1 := BC.out.cell 1 (by simp)
  have cBC_2 := BC.out.cell 2 (by simp)
  have cBC_3 := BC.out.cell 3 (by simp)
  have cBC_4 := BC.out.cell 4 (by simp)
  have cBC_5 := BC.out.cell 5 (by simp)
  have cBC_6 := BC.out.cell 6 (by simp)
  simp only [List.getD_cons_zero, List.getD_cons_succ] at cBC_0 cBC_1 cBC_2 cBC_3 cBC_4 cBC_5 cBC_6
  go_wp2_with fail
  generalize w5.alloc (.cells #[.int .i64 d0, .int .i64 d1, .int .i64 d2, .int .i64 d3, .int .i64 d4, .int .i64 d5, .int .i64 d6] 25) = w6 at *
  obtain ⟨gBC, hgBC⟩ : ∃ g, w5.heap.size = g := ⟨_, rfl⟩
  rw [hgBC] at BC hgeBC ⊢
  clear hgBC
  go_at_call 10
  (with_reducible refine (implSt_is d0 d1 d2 d3 d4 d5 d6 l q p _ HS2.out HE2.out).mono ?_)
  rintro e w7 ⟨rfl, hb⟩
  clear cBC_0 cBC_1 cBC_2 cBC_3 cBC_4 cBC_5 cBC_6
  replace H := Lib.hid (H.out.later hb)
  replace HP := Lib.hid (HP.out.later hb)
  replace HB := Lib.hid (gr_then hb HB.out)
  replace BB := Lib.hid (BB.out.late hb)
  replace BC := Lib.hid (BC.out.late hb)
  clear hb
  have cBC_0 := BC.out.cell 0 (by simp)
  have cBC_1 := BC.out.cell 1 (by simp)
  have cBC_2 := BC.out.cell 2 (by simp)
  have cBC_3 := BC.out.cell 3 (by simp)
  have cBC_4 := BC.out.cell 4 (by simp)
  have cBC_5 := BC.out.cell 5 (by simp)
  have cBC_6 := BC.out.cell 6 (by simp)
  simp only [List.getD_cons_zero, List.getD_cons_succ] at cBC_0 cBC_1 cBC_2 cBC_3 cBC_4 cBC_5 cBC_6
  go_wp2_with fail
  go_at_call 11
  (with_reducible refine (specSt_is d0 d1 d2 d3 d4 d5 d6 l q p _ HS2.out HE2.out).mono ?_)
  rintro e w8 ⟨rfl, hb⟩
  clear cBC_0 cBC_1 cBC_2 cBC_3 cBC_4 cBC_5 cBC_6
  replace H := Lib.hid (H.out.later hb)
  replace HP := Lib.hid (HP.out.later hb)
  replace HB := Lib.hid (gr_then hb HB.out)
  replace BB := Lib.hid (BB.out.late hb)
  replace BC := Lib.hid (BC.out.late hb)
  clear hb
  obtain ⟨SA, hSA⟩ : ∃ v, zif (sfE (codB (okB d0 d1 d2 d3 d4 d5 d6) l q 100) (momB d3 d4 d5 d6 l q)) (ofA ((totB d1 d2 d3 d5 l) * d0) (2 * absI (momB d3 d4 d5 d6 l q))) = v := ⟨_, rfl⟩
  have HSA := Lib.hid hSA
  clear hSA
  obtain ⟨SB, hSB⟩ : ∃ v, zif (sfE (codB (okB d0 d1 d2 d3 d4 d5 d6) l q 100) (momB d3 d4 d5 d6 l q)) (ofB ((totB d1 d2 d3 d5 l) * d0) (2 * absI (momB d3 d4 d5 d6 l q))) = v := ⟨_, rfl⟩
  have HSB := Lib.hid hSB
  clear hSB
  obtain ⟨E3, hE3⟩ : ∃ v, sfE (codB (okB d0 d1 d2 d3 d4 d5 d6) l q 100) (momB d3 d4 d5 d6 l q) = v := ⟨_, rfl⟩
  have HE3 := Lib.hid hE3
  clear hE3
  have cBC_0 := BC.out.cell 0 (by simp)
  have cBC_1 := BC.out.cell 1 (by simp)
  have cBC_2 := BC.out.cell 2 (by simp)
  have cBC_3 := BC.out.cell 3 (by simp)
  have cBC_4 := BC.out.cell 4 (by simp)
  have cBC_5 := BC.out.cell 5 (by simp)
  have cBC_6 := BC.out.cell 6 (by simp)
  simp only [List.getD_cons_zero, List.getD_cons_succ] at cBC_0 cBC_1 cBC_2 cBC_3 cBC_4 cBC_5 cBC_6
  go_wp2_with fail
  go_at_call 12
  (with_reducible refine (implSf_is d0 d1 d2 d3 d4 d5 d6 l q _ HSA.out HSB.out HE3.out).mono ?_)
  rintro e w9 ⟨rfl, hb⟩
  clear cBC_0 cBC_1 cBC_2 cBC_3 cBC_4 cBC_5 cBC_6
  replace H := Lib.hid (H.out.later hb)
  replace HP := Lib.hid (HP.out.later hb)
  replace HB := Lib.hid (gr_then hb HB.out)
  replace BB := Lib.hid (BB.out.late hb)
  replace BC := Lib.hid (BC.out.late hb)
  clear hb
  have hgeF1 := HB.out.size
  have hb : Below w9.heap.size w9 (w9.alloc (.cells #[.int .i64 SA, .int .i64 SB] 33)) := gr_alloc (gr_refl _)
  have F1 := Lib.hid (show BI (w9.alloc (.cells #[.int .i64 SA, .int .i64 SB] 33)) w9.heap.size 33 [SA, SB] from heap_alloc_new _ _)
  replace H := Lib.hid (H.out.later hb)
  replace HP := Lib.hid (HP.out.later hb)
  replace HB := Lib.hid (gr_then hb HB.out)
  replace BB := Lib.hid (BB.out.late hb)
  replace BC := Lib.hid (BC.out.late hb)
  clear hb
  have cBC_0 := BC.out.cell 0 (by simp)
  have cBC_1 := BC.out.cell 1 (by simp)
  have cBC_2 := BC.out.cell 2 (by simp)
  have cBC_3 := BC.out.cell 3 (by simp)
  have cBC_4 := BC.out.cell 4 (by simp)
  have cBC_5 := BC.out.cell 5 (by simp)
  have cBC_6 := BC.out.cell 6 (by simp)
  simp only [List.getD_cons_zero, List.getD_cons_succ] at cBC_0 cBC_1 cBC_2 cBC_3 cBC_4 cBC_5 cBC_6
  go_wp2_with fail
  generalize w9.alloc (.cells #[.int .i64 SA, .int .i64 SB] 33) = w10 at *
  obtain ⟨gF1, hgF1⟩ : ∃ g, w9.heap.size = g := ⟨_, rfl⟩
  rw [hgF1] at F1 hgeF1 ⊢
  clear hgF1
  go_at_call 13
  (with_reducible refine (specSf_is d0 d1 d2 d3 d4 d5 d6 l q _ HSA.out HSB.out HE3.out).mono ?_)
  rintro e w11 ⟨rfl, hb⟩
  clear cBC_0 cBC_1 cBC_2 cBC_3 cBC_4 cBC_5 cBC_6
  replace H := Lib.hid (H.out.later hb)
  replace HP := Lib.hid (HP.out.later hb)
  replace HB := Lib.hid (gr_then hb HB.out)
  replace BB := Lib.hid (BB.out.late hb)
  replace BC := Lib.hid (BC.out.late hb)
  replace F1 := Lib.hid (F1.out.late hb)
  clear hb
  have hgeF2 := HB.out.size
  have hb : Below w11.heap.size w11 (w11.alloc (.cells #[.int .i64 SA, .int .i64 SB] 33)) := gr_alloc (gr_refl _)
  have F2 := Lib.hid (show BI (w11.alloc (.cells #[.int .i64 SA, .int .i64 SB] 33)) w11.heap.size 33 [SA, SB] from heap_alloc_new _ _)
  replace H := Lib.hid (H.out.later hb)
  replace HP := Lib.hid (HP.out.later hb)
  replace HB := Lib.hid (gr_then hb HB.out)
  replace BB := Lib.hid (BB.out.late hb)
  replace BC := Lib.hid (BC.out.late hb)
  replace F1 := Lib.hid (F1.out.late hb)
  clear hb
  obtain ⟨PA, hPA⟩ : ∃ v, zif (prE (codB (okB d0 d1 d2 d3 d4 d5 d6) l q 100) d0 (totB d1 d2 d3 d5 l) (absI (momB d3 d4 d5 d6 l q))) (ofA (prN d0 (totB d1 d2 d3 d5 l) (absI (momB d3 d4 d5 d6 l q))) (prD d0 (totB d1 d2 d3 d5 l) (absI (momB d3 d4 d5 d6 l q)))) = v := ⟨_, rfl⟩
  have HPA := Lib.hid hPA
  clear hPA
  obtain ⟨PB, hPB⟩ : ∃ v, zif (prE (codB (okB d0 d1 d2 d3 d4 d5 d6) l q 100) d0 (totB d1 d2 d3 d5 l) (absI (momB d3 d4 d5 d6 l q))) (ofB (prN d0 (totB d1 d2 d3 d5 l) (absI (momB d3 d4 d5 d6 l q))) (prD d0 (totB d1 d2 d3 d5 l) (absI (momB d3 d4 d5 d6 l q)))) = v := ⟨_, rfl⟩
  have HPB := Lib.hid hPB
  clear hPB
  obtain ⟨E4, hE4⟩ : ∃ v, prE (codB (okB d0 d1 d2 d3 d4 d5 d6) l q 100) d0 (totB d1 d2 d3 d5 l) (absI (momB d3 d4 d5 d6 l q)) = v := ⟨_, rfl⟩
  have HE4 := Lib.hid hE4
  clear hE4
  have cBC_0 := BC.out.cell 0 (by simp)
  have cBC_1 := BC.out.cell 1 (by simp)
  have cBC_2 := BC.out.cell 2 (by simp)
  have cBC_3 := BC.out.cell 3 (by simp)
  have cBC_4 := BC.out.cell 4 (by simp)
  have cBC_5 := BC.out.cell 5 (by simp)
  have cBC_6 := BC.out.cell 6 (by simp)
  simp only [List.getD_cons_zero, List.getD_cons_succ] at cBC_0 cBC_1 cBC_2 cBC_3 cBC_4 cBC_5 cBC_6
  go_wp2_with fail
  generalize w11.alloc (.cells #[.int .i64 SA, .int .i64 SB] 33) = w12 at *
  obtain ⟨gF2, hgF2⟩ : ∃ g, w11.heap.size = g := ⟨_, rfl⟩
  rw [hgF2] at F2 hgeF2 ⊢
  clear hgF2
  go_at_call 14
  (with_reducible refine (implPr_is d0 d1 d2 d3 d4 d5 d6 l q _ HPA.out HPB.out HE4.out).mono ?_)
  rintro e w13 ⟨rfl, hb⟩
  clear cBC_0 cBC_1 cBC_2 cBC_3 cBC_4 cBC_5 cBC_6
  replace H := Lib.hid (H.out.later hb)
  replace HP := Lib.hid (HP.out.later hb)
  replace HB := Lib.hid (gr_then hb HB.out)
  replace BB := Lib.hid (BB.out.late hb)
  replace BC := Lib.hid (BC.out.late hb)
  replace F1 := Lib.hid (F1.out.late hb)
  replace F2 := Lib.hid (F2.out.late hb)
  clear hb
  have hgeF3 := HB.out.size
  have hb : Below w13.heap.size w13 (w13.alloc (.cells #[.int .i64 PA, .int .i64 PB] 33)) := gr_alloc (gr_refl _)
  have F3 := Lib.hid (show BI (w13.alloc (.cells #[.int .i64 PA, .int .i64 PB] 33)) w13.heap.size 33 [PA, PB] from heap_alloc_new _ _)
  replace H := Lib.hid (H.out.later hb)
  replace HP := Lib.hid (HP.out.later hb)
  replace HB := Lib.hid (gr_then hb HB.out)
  replace BB := Lib.hid (BB.out.late hb)
  replace BC := Lib.hid (BC.out.late hb)
  replace F1 := Lib.hid (F1.out.late hb)
  replace F2 := Lib.hid (F2.out.late hb)
  clear hb
  have cBC_0 := BC.out.cell 0 (by simp)
  have cBC_1 := BC.out.cell 1 (by simp)
  have cBC_2 := BC.out.cell 2 (by simp)
  have cBC_3 := BC.out.cell 3 (by simp)
  have cBC_4 := BC.out.cell 4 (by simp)
  have cBC_5 := BC.out.cell 5 (by simp)
  have cBC_6 := BC.out.cell 6 (by simp)
  simp only [List.getD_cons_zero, List.getD_cons_succ] at cBC_0 cBC_1 cBC_2 cBC_3 cBC_4 cBC_5 cBC_6
  go_wp2_with fail
  generalize w13.alloc (.cells #[.int .i64 PA, .int .i64 PB] 33) = w14 at *
  obtain ⟨gF3, hgF3⟩ : ∃ g, w13.heap.size = g := ⟨_, rfl⟩
  rw [hgF3] at F3 hgeF3 ⊢
  clear hgF3
  go_at_call 15
  (with_reducible refine (specPr_is d0 d1 d2 d3 d4 d5 d6 l q _ HPA.out HPB.out HE4.out).mono ?_)
  rintro e w15 ⟨rfl, hb⟩
  clear cBC_0 cBC_1 cBC_2 cBC_3 cBC_4 cBC_5 cBC_6
  replace H := Lib.hid (H.out.later hb)
  replace HP := Lib.hid (HP.out.later hb)
  replace HB := Lib.hid (gr_then hb HB.out)
  replace BB := Lib.hid (BB.out.late hb)
  replace BC := Lib.hid (BC.out.late hb)
  replace F1 := Lib.hid (F1.out.late hb)
  replace F2 := Lib.hid (F2.out.late hb)
  replace F3 := Lib.hid (F3.out.late hb)
  clear hb
  have hgeF4 := HB.out.size
  have hb : Below w15.heap.size w15 (w15.alloc (.cells #[.int .i64 PA, .int .i64 PB] 33)) := gr_alloc (gr_refl _)
  have F4 := Lib.hid (show BI (w15.alloc (.cells #[.int .i64 PA, .int .i64 PB] 33)) w15.heap.size 33 [PA, PB] from heap_alloc_new _ _)
  replace H := Lib.hid (H.out.later hb)
  replace HP := Lib.hid (HP.out.later hb)
  replace HB := Lib.hid (gr_then hb HB.out)
  replace BB := Lib.hid (BB.out.late hb)
  replace BC := Lib.hid (BC.out.late hb)
  replace F1 := Lib.hid (F1.out.late hb)
  replace F2 := Lib.hid (F2.out.late hb)
  replace F3 := Lib.hid (F3.out.late hb)
  clear hb
  obtain ⟨OA, hOA⟩ : ∃ v, zif (codB (okB d0 d1 d2 d3 d4 d5 d6) l q 100) (ofA (momB d3 d4 d5 d6 l q) (totB d1 d2 d3 d5 l)) = v := ⟨_, rfl⟩
  have HOA := Lib.hid hOA
  clear hOA
  obtain ⟨OB, hOB⟩ : ∃ v, zif (codB (okB d0 d1 d2 d3 d4 d5 d6) l q 100) (ofB (momB d3 d4 d5 d6 l q) (totB d1 d2 d3 d5 l)) = v := ⟨_, rfl⟩
  have HOB := Lib.hid hOB
  clear hOB
  obtain ⟨E5, hE5⟩ : ∃ v, codB (okB d0 d1 d2 d3 d4 d5 d6) l q 100 = v := ⟨_, rfl⟩
  have HE5 := Lib.hid hE5
  clear hE5
  have cBC_0 := BC.out.cell 0 (by simp)
  have cBC_1 := BC.out.cell 1 (by simp)
  have cBC_2 := BC.out.cell 2 (by simp)
  have cBC_3 := BC.out.cell 3 (by simp)
  have cBC_4 := BC.out.cell 4 (by simp)
  have cBC_5 := BC.out.cell 5 (by simp)
  have cBC_6 := BC.out.cell 6 (by simp)
  simp only [List.getD_cons_zero, List.getD_cons_succ] at cBC_0 cBC_1 cBC_2 cBC_3 cBC_4 cBC_5 cBC_6
  go_wp2_with fail
  generalize w15.alloc (.cells #[.int .i64 PA, .int .i64 PB] 33) = w16 at *
  obtain ⟨gF4, hgF4⟩ : ∃ g, w15.heap.size = g := ⟨_, rfl⟩
  rw [hgF4] at F4 hgeF4 ⊢
  clear hgF4
  go_at_call 16
  (with_reducible refine (implOf_is d0 d1 d2 d3 d4 d5 d6 l q _ HOA.out HOB.out HE5.out).mono ?_)
  rintro e w17 ⟨rfl, hb⟩
  clear cBC_0 cBC_1 cBC_2 cBC_3 cBC_4 cBC_5 cBC_6
  replace H := Lib.hid (H.out.later hb)
  replace HP := Lib.hid (HP.out.later hb)
  replace HB := Lib.hid (gr_then hb HB.out)
  replace BB := Lib.hid (BB.out.late hb)
  replace BC := Lib.hid (BC.out.late hb)
  replace F1 := Lib.hid (F1.out.late hb)
  replace F2 := Lib.hid (F2.out.late hb)
  replace F3 := Lib.hid (F3.out.late hb)
  replace F4 := Lib.hid (F4.out.late hb)
  clear hb
  have hgeF5 := HB.out.size
  have hb : Below w17.heap.size w17 (w17.alloc (.cells #[.int .i64 OA, .int .i64 OB] 33)) := gr_alloc (gr_refl _)
  have F5 := Lib.hid (show BI (w17.alloc (.cells #[.int .i64 OA, .int .i64 OB] 33)) w17.heap.size 33 [OA, OB] from heap_alloc_new _ _)
  replace H := Lib.hid (H.out.later hb)
  replace HP := Lib.hid (HP.out.later hb)
  replace HB := Lib.hid (gr_then hb HB.out)
  replace BB := Lib.hid (BB.out.late hb)
  replace BC := Lib.hid (BC.out.late hb)
  replace F1 := Lib.hid (F1.out.late hb)
  replace F2 := Lib.hid (F2.out.late hb)
  replace F3 := Lib.hid (F3.out.late hb)
  replace F4 := Lib.hid (F4.out.late hb)
  clear hb
  have cBC_0 := BC.out.cell 0 (by simp)
  have cBC_1 := BC.out.cell 1 (by simp)
  have cBC_2 := BC.out.cell 2 (by simp)
  have cBC_3 := BC.out.cell 3 (by simp)
  have cBC_4 := BC.out.cell 4 (by simp)
  have cBC_5 := BC.out.cell 5 (by simp)
  have cBC_6 := BC.out.cell 6 (by simp)
  simp only [List.getD_cons_zero, List.getD_cons_succ] at cBC_0 cBC_1 cBC_2 cBC_3 cBC_4 cBC_5 cBC_6
  go_wp2_with fail
  generalize w17.alloc (.cells #[.int .i64 OA, .int .i64 OB] 33) = w18 at *
  obtain ⟨gF5, hgF5⟩ : ∃ g, w17.heap.size = g := ⟨_, rfl⟩
  rw [hgF5] at F5 hgeF5 ⊢
  clear hgF5
  go_at_call 17
  (with_reducible refine (specOf_is d0 d1 d2 d3 d4 d5 d6 l q _ HOA.out HOB.out HE5.out).mono ?_)
  rintro e w19 ⟨rfl, hb⟩
  clear cBC_0 cBC_1 cBC_2 cBC_3 cBC_4 cBC_5 cBC_6
  replace H := Lib.hid (H.out.later hb)
  replace HP := Lib.hid (HP.out.later hb)
  replace HB := Lib.hid (gr_then hb HB.out)
  replace BB := Lib.hid (BB.out.late hb)
  replace BC := Lib.hid (BC.out.late hb)
  replace F1 := Lib.hid (F1.out.late hb)
  replace F2 := Lib.hid (F2.out.late hb)
  replace F3 := Lib.hid (F3.out.late hb)
  replace F4 := Lib.hid (F4.out.late hb)
  replace F5 := Lib.hid (F5.out.late hb)
  clear hb
  have hgeF6 := HB.out.size
  have hb : Below w19.heap.size w19 (w19.alloc (.cells #[.int .i64 OA, .int .i64 OB] 33)) := gr_alloc (gr_refl _)
  have F6 := Lib.hid (show BI (w19.alloc (.cells #[.int .i64 OA, .int .i64 OB] 33)) w19.heap.size 33 [OA, OB] from heap_alloc_new _ _)
  replace H := Lib.hid (H.out.later hb)
  replace HP := Lib.hid (HP.out.later hb)
  replace HB := Lib.hid (gr_then hb HB.out)
  replace BB := Lib.hid (BB.out.late hb)
  replace BC := Lib.hid (BC.out.late hb)
  replace F1 := Lib.hid (F1.out.late hb)
  replace F2 := Lib.hid (F2.out.late hb)
  replace F3 := Lib.hid (F3.out.late hb)
  replace F4 := Lib.hid (F4.out.late hb)
  replace F5 := Lib.hid (F5.out.late hb)
  clear hb
  obtain ⟨MO, hMO⟩ : ∃ v, zif (codB (okB d0 d1 d2 d3 d4 d5 d6) l q 100) (momB d3 d4 d5 d6 l q) = v := ⟨_, rfl⟩
  have HMO := Lib.hid hMO
  clear hMO
  obtain ⟨E6, hE6⟩ : ∃ v, codB (okB d0 d1 d2 d3 d4 d5 d6) l q 100 = v := ⟨_, rfl⟩
  have HE6 := Lib.hid hE6
  clear hE6
  have cBC_0 := BC.out.cell 0 (by simp)
  have cBC_1 := BC.out.cell 1 (by simp)
  have cBC_2 := BC.out.cell 2 (by simp)
  have cBC_3 := BC.out.cell 3 (by simp)
  have cBC_4 := BC.out.cell 4 (by simp)
  have cBC_5 := BC.out.cell 5 (by simp)
  have cBC_6 := BC.out.cell 6 (by simp)
  simp only [List.getD_cons_zero, List.getD_cons_succ] at cBC_0 cBC_1 cBC_2 cBC_3 cBC_4 cBC_5 cBC_6
  go_wp2_with fail
  generalize w19.alloc (.cells #[.int .i64 OA, .int .i64 OB] 33) = w20 at *
  obtain ⟨gF6, hgF6⟩ : ∃ g, w19.heap.size = g := ⟨_, rfl⟩
  rw [hgF6] at F6 hgeF6 ⊢
  clear hgF6
  go_at_call 18
  (with_reducible refine (implMo_is d0 d1 d2 d3 d4 d5 d6 l q _ HMO.out HE6.out).mono ?_)
  rintro e w21 ⟨rfl, hb⟩
  clear cBC_0 cBC_1 cBC_2 cBC_3 cBC_4 cBC_5 cBC_6
  replace H := Lib.hid (H.out.later hb)
  replace HP := Lib.hid (HP.out.later hb)
  replace HB := Lib.hid (gr_then hb HB.out)
  replace BB := Lib.hid (BB.out.late hb)
  replace BC := Lib.hid (BC.out.late hb)
  replace F1 := Lib.hid (F1.out.late hb)
  replace F2 := Lib.hid (F2.out.late hb)
  replace F3 := Lib.hid (F3.out.late hb)
  replace F4 := Lib.hid (F4.out.late hb)
  replace F5 := Lib.hid (F5.out.late hb)
  replace F6 := Lib.hid (F6.out.late hb)
  clear hb
  have cBC_0 := BC.out.cell 0 (by simp)
  have cBC_1 := BC.out.cell 1 (by simp)
  have cBC_2 := BC.out.cell 2 (by simp)
  have cBC_3 := BC.out.cell 3 (by simp)
  have cBC_4 := BC.out.cell 4 (by simp)
  have cBC_5 := BC.out.cell 5 (by simp)
  have cBC_6 := BC.out.cell 6 (by simp)
  simp only [List.getD_cons_zero, List.getD_cons_succ] at cBC_0 cBC_1 cBC_2 cBC_3 cBC_4 cBC_5 cBC_6
  go_wp2_with fail
  go_at_call 19
  (with_reducible refine (specMo_is d0 d1 d2 d3 d4 d5 d6 l q _ HMO.out HE6.out).mono ?_)
  rintro e w22 ⟨rfl, hb⟩
  clear cBC_0 cBC_1 cBC_2 cBC_3 cBC_4 cBC_5 cBC_6
  replace H := Lib.hid (H.out.later hb)
  replace HP := Lib.hid (HP.out.later hb)
  replace HB := Lib.hid (gr_then hb HB.out)
  replace BB := Lib.hid (BB.out.late hb)
  replace BC := Lib.hid (BC.out.late hb)
  replace F1 := Lib.hid (F1.out.late hb)
  replace F2 := Lib.hid (F2.out.late hb)
  replace F3 := Lib.hid (F3.out.late hb)
  replace F4 := Lib.hid (F4.out.late hb)
  replace F5 := Lib.hid (F5.out.late hb)
  replace F6 := Lib.hid (F6.out.late hb)
  clear hb
  obtain ⟨TM, hTM⟩ : ∃ v, zif (codB (okB d0 d1 d2 d3 d4 d5 d6) l 0 100) (totB d1 d2 d3 d5 l) = v := ⟨_, rfl⟩
  have HTM := Lib.hid hTM
  clear hTM
  obtain ⟨E7, hE7⟩ : ∃ v, codB (okB d0 d1 d2 d3 d4 d5 d6) l 0 100 = v := ⟨_, rfl⟩
  have HE7 := Lib.hid hE7
  clear hE7
  have cBC_0 := BC.out.cell 0 (by simp)
  have cBC_1 := BC.out.cell 1 (by simp)
  have cBC_2 := BC.out.cell 2 (by simp)
  have cBC_3 := BC.out.cell 3 (by simp)
  have cBC_4 := BC.out.cell 4 (by simp)
  have cBC_5 := BC.out.cell 5 (by simp)
  have cBC_6 := BC.out.cell 6 (by simp)
  simp only [List.getD_cons_zero, List.getD_cons_succ] at cBC_0 cBC_1 cBC_2 cBC_3 cBC_4 cBC_5 cBC_6
  go_wp2_with fail
  go_at_call 20
  (with_reducible refine (implTm_is d0 d1 d2 d3 d4 d5 d6 l _ HTM.out HE7.out).mono ?_)
  rintro e w23 ⟨rfl, hb⟩
  clear cBC_0 cBC_1 cBC_2 cBC_3 cBC_4 cBC_5 cBC_6
  replace H := Lib.hid (H.out.later hb)
  replace HP := Lib.hid (HP.out.later hb)
  replace HB := Lib.hid (gr_then hb HB.out)
  replace BB := Lib.hid (BB.out.late hb)
  replace BC := Lib.hid (BC.out.late hb)
  replace F1 := Lib.hid (F1.out.late hb)
  replace F2 := Lib.hid (F2.out.late hb)
  replace F3 := Lib.hid (F3.out.late hb)
  replace F4 := Lib.hid (F4.out.late hb)
  replace F5 := Lib.hid (F5.out.late hb)
  replace F6 := Lib.hid (F6.out.late hb)
  clear hb
  have cBC_0 := BC.out.cell 0 (by simp)
  have cBC_1 := BC.out.cell 1 (by simp)
  have cBC_2 := BC.out.cell 2 (by simp)
  have cBC_3 := BC.out.cell 3 (by simp)
  have cBC_4 := BC.out.cell 4 (by simp)
  have cBC_5 := BC.out.cell 5 (by simp)
  have cBC_6 := BC.out.cell 6 (by simp)
  simp only [List.getD_cons_zero, List.getD_cons_succ] at cBC_0 cBC_1 cBC_2 cBC_3 cBC_4 cBC_5 cBC_6
  go_wp2_with fail
  go_at_call 21
  (with_reducible refine (specTm_is d0 d1 d2 d3 d4 d5 d6 l _ HTM.out HE7.out).mono ?_)
  rintro e w24 ⟨rfl, hb⟩
  clear cBC_0 cBC_1 cBC_2 cBC_3 cBC_4 cBC_5 cBC_6
  replace H := Lib.hid (H.out.later hb)
  replace HP := Lib.hid (HP.out.later hb)
  replace HB := Lib.hid (gr_then hb HB.out)
  replace BB := Lib.hid (BB.out.late hb)
  replace BC := Lib.hid (BC.out.late hb)
  replace F1 := Lib.hid (F1.out.late hb)
  replace F2 := Lib.hid (F2.out.late hb)
  replace F3 := Lib.hid (F3.out.late hb)
  replace F4 := Lib.hid (F4.out.late hb)
  replace F5 := Lib.hid (F5.out.late hb)
  replace F6 := Lib.hid (F6.out.late hb)
  clear hb
  go_wp2_with fail
  obtain ⟨TX, hTX⟩ : ∃ T, btX d0 d1 d2 d3 d4 d5 d6 = T := ⟨_, rfl⟩
  obtain ⟨OV, hOV⟩ : ∃ T, okB d0 d1 d2 d3 d4 d5 d6 = T := ⟨_, rfl⟩
  have HTS : Hid (∀ w : World, Calls Tryd.prog 23 #[.agg #[.int .i64 d0, .int .i64 d1, .int .i64 d2, .int .i64 d3, .int .i64 d4, .int .i64 d5, .int .i64 d6]] w fun e w' => e = .returned (.string TX) ∧ Below w.heap.size w w') := fun w => by have h9 := specBt_any d0 d1 d2 d3 d4 d5 d6 w; rw [hTX] at h9; exact h9
  have HTI : Hid (∀ w : World, Pow10 w → Calls Tryd.prog 22 #[.agg #[.int .i64 d0, .int .i64 d1, .int .i64 d2, .int .i64 d3, .int .i64 d4, .int .i64 d5, .int .i64 d6]] w fun e w' => e = .returned (.string TX) ∧ Below w.heap.size w w') := fun w hw => by have h9 := implBt_any d0 d1 d2 d3 d4 d5 d6 w hw; rw [hTX] at h9; exact h9
  have HVI : Hid (∀ w : World, Calls Tryd.prog 24 #[.agg #[.int .i64 d0, .int .i64 d1, .int .i64 d2, .int .i64 d3, .int .i64 d4, .int .i64 d5, .int .i64 d6]] w fun e w' => e = .returned (.bool OV) ∧ Below w.heap.size w w') := fun w => by have h9 := validBase_any d0 d1 d2 d3 d4 d5 d6 w; rw [hOV] at h9; exact h9
  have HVS : Hid (∀ w : World, Calls Tryd.prog 25 #[.agg #[.int .i64 d0, .int .i64 d1, .int .i64 d2, .int .i64 d3, .int .i64 d4, .int .i64 d5, .int .i64 d6]] w fun e w' => e = .returned (.bool OV) ∧ Below w.heap.size w w') := fun w => by have h9 := specVb_any d0 d1 d2 d3 d4 d5 d6 w; rw [hOV] at h9; exact h9
  clear hTX hOV
  have cBC_0 := BC.out.cell 0 (by simp)
  have cBC_1 := BC.out.cell 1 (by simp)
  have cBC_2 := BC.out.cell 2 (by simp)
  have cBC_3 := BC.out.cell 3 (by simp)
  have cBC_4 := BC.out.cell 4 (by simp)
  have cBC_5 := BC.out.cell 5 (by simp)
  have cBC_6 := BC.out.cell 6 (by simp)
  simp only [List.getD_cons_zero, List.getD_cons_succ] at cBC_0 cBC_1 cBC_2 cBC_3 cBC_4 cBC_5 cBC_6
  have cF1_0 := F1.out.cell 0 (by simp)
  have cF1_1 := F1.out.cell 1 (by simp)
  simp only [List.getD_cons_zero, List.getD_cons_succ] at cF1_0 cF1_1
  have cF2_0 := F2.out.cell 0 (by simp)
  have cF2_1 := F2.out.cell 1 (by simp)
  simp only [List.getD_cons_zero, List.getD_cons_succ] at cF2_0 cF2_1
  have cF3_0 := F3.out.cell 0 (by simp)
  have cF3_1 := F3.out.cell 1 (by simp)
  simp only [List.getD_cons_zero, List.getD_cons_succ] at cF3_0 cF3_1
  have cF4_0 := F4.out.cell 0 (by simp)
  have cF4_1 := F4.out.cell 1 (by simp)
  simp only [List.getD_cons_zero, List.getD_cons_succ] at cF4_0 cF4_1
  have cF5_0 := F5.out.cell 0 (by simp)
  have cF5_1 := F5.out.cell 1 (by simp)
  simp only [List.getD_cons_zero, List.getD_cons_succ] at cF5_0 cF5_1
  have cF6_0 := F6.out.cell 0 (by simp)
  have cF6_1 := F6.out.cell 1 (by simp)
  simp only [List.getD_cons_zero, List.getD_cons_succ] at cF6_0 cF6_1
  have gw0 : ∀ X, (grw (w24) X).cell? ⟨gBC, 0, none⟩ = some (.int .i64 d0) := grw_cell (by assumption)
  have gw1 : ∀ X, (grw (w24) X).cell? ⟨gBC, 1, none⟩ = some (.int .i64 d1) := grw_cell (by assumption)
  have gw2 : ∀ X, (grw (w24) X).cell? ⟨gBC, 2, none⟩ = some (.int .i64 d2) := grw_cell (by assumption)
  have gw3 : ∀ X, (grw (w24) X).cell? ⟨gBC, 3, none⟩ = some (.int .i64 d3) := grw_cell (by assumption)
  have gw4 : ∀ X, (grw (w24) X).cell? ⟨gBC, 4, none⟩ = some (.int .i64 d4) := grw_cell (by assumption)
  have gw5 : ∀ X, (grw (w24) X).cell? ⟨gBC, 5, none⟩ = some (.int .i64 d5) := grw_cell (by assumption)
  have gw6 : ∀ X, (grw (w24) X).cell? ⟨gBC, 6, none⟩ = some (.int .i64 d6) := grw_cell (by assumption)
  have gw7 : ∀ X, (grw (w24) X).cell? ⟨gF1, 0, none⟩ = some (.int .i64 SA) := grw_cell (by assumption)
  have gw8 : ∀ X, (grw (w24) X).cell? ⟨gF1, 1, none⟩ = some (.int .i64 SB) := grw_cell (by assumption)
  have gw9 : ∀ X, (grw (w24) X).cell? ⟨gF2, 0, none⟩ = some (.int .i64 SA) := grw_cell (by assumption)
  have gw10 : ∀ X, (grw (w24) X).cell? ⟨gF2, 1, none⟩ = some (.int .i64 SB) := grw_cell (by assumption)
  have gw11 : ∀ X, (grw (w24) X).cell? ⟨gF3, 0, none⟩ = some (.int .i64 PA) := grw_cell (by assumption)
  have gw12 : ∀ X, (grw (w24) X).cell? ⟨gF3, 1, none⟩ = some (.int .i64 PB) := grw_cell (by assumption)
  have gw13 : ∀ X, (grw (w24) X).cell? ⟨gF4, 0, none⟩ = some (.int .i64 PA) := grw_cell (by assumption)
  have gw14 : ∀ X, (grw (w24) X).cell? ⟨gF4, 1, none⟩ = some (.int .i64 PB) := grw_cell (by assumption)
  have gw15 : ∀ X, (grw (w24) X).cell? ⟨gF5, 0, none⟩ = some (.int .i64 OA) := grw_cell (by assumption)
  have gw16 : ∀ X, (grw (w24) X).cell? ⟨gF5, 1, none⟩ = some (.int .i64 OB) := grw_cell (by assumption)
  have gw17 : ∀ X, (grw (w24) X).cell? ⟨gF6, 0, none⟩ = some (.int .i64 OA) := grw_cell (by assumption)
  have gw18 : ∀ X, (grw (w24) X).cell? ⟨gF6, 1, none⟩ = some (.int .i64 OB) := grw_cell (by assumption)
  refine wp_region_grow (by kernel_rfl) (by kernel_rfl) ?_
  simp only [List.append_eq, List.cons_append, List.nil_append]
  repeat (go_big_quiet_step (first | (go_at_call 22; exact grow_of (HTI.out _ (HP.out.later (grw_below _ _)))) | (go_at_call 23; exact grow_of (HTS.out _)) | (go_at_call 24; exact grow_of (HVI.out _)) | (go_at_call 25; exact grow_of (HVS.out _))))
  refine wpQuiet_nil ?_
  rintro wq ⟨X, hX⟩
  have hQ_wq : Below (w24).heap.size (w24) wq := by rw [hX]; exact grw_below _ _
  clear hX gw0 gw1 gw2 gw3 gw4 gw5 gw6 gw7 gw8 gw9 gw10 gw11 gw12 gw13 gw14 gw15 gw16 gw17 gw18
  clear cBC_0 cBC_1 cBC_2 cBC_3 cBC_4 cBC_5 cBC_6
  clear cF1_0 cF1_1
  clear cF2_0 cF2_1
  clear cF3_0 cF3_1
  clear cF4_0 cF4_1
  clear cF5_0 cF5_1
  clear cF6_0 cF6_1
  have hb := hQ_wq
  clear hQ_wq
  replace H := Lib.hid (H.out.later hb)
  replace HP := Lib.hid (HP.out.later hb)
  replace HB := Lib.hid (gr_then hb HB.out)
  replace BB := Lib.hid (BB.out.late hb)
  replace BC := Lib.hid (BC.out.late hb)
  replace F1 := Lib.hid (F1.out.late hb)
  replace F2 := Lib.hid (F2.out.late hb)
  replace F3 := Lib.hid (F3.out.late hb)
  replace F4 := Lib.hid (F4.out.late hb)
  replace F5 := Lib.hid (F5.out.late hb)
  replace F6 := Lib.hid (F6.out.late hb)
  clear hb
  by_cases hE2 : E2 = 0
  case neg =>
    have hd2 : (E2 == 0) = false := beq_eq_false_iff_ne.2 hE2
    by_cases hE1 : E1 = 0
    case neg => have hd1 : (E1 != 0) = true := bne_iff_ne.2 hE1; go_wp2; go_returns; exact ⟨rfl, HB.out⟩
    subst hE1
    obtain ⟨hN, hle⟩ := least_law a0 a1 a2 a3 a4 a5 a6 ld r pc HE1.out HN1.out
    have HL := Lib.hid hle
    clear hle
    have cBB_0 := BB.out.cell 0 (by simp)
    have cBB_1 := BB.out.cell 1 (by simp)
    have cBB_2 := BB.out.cell 2 (by simp)
    have cBB_3 := BB.out.cell 3 (by simp)
    have cBB_4 := BB.out.cell 4 (by simp)
    have cBB_5 := BB.out.cell 5 (by simp)
    have cBB_6 := BB.out.cell 6 (by simp)
    simp only [List.getD_cons_zero, List.getD_cons_succ] at cBB_0 cBB_1 cBB_2 cBB_3 cBB_4 cBB_5 cBB_6
    have fBB_2 := BB.out.free 2
    have BB2 := Lib.hid (show BI (wq.setCell ⟨gBB, 2, none⟩ (.int .i64 N1)) gBB _ [a0, a1, N1, a3, a4, a5, a6] from BB.out.put 2 N1)
    have HB2 := Lib.hid (gr_set (p := ⟨gBB, 2, none⟩) (u := .int .i64 N1) hgeBB HB.out)
    go_wp2_with fail
    generalize wq.setCell ⟨gBB, 2, none⟩ (.int .i64 N1) = wz at *
    clear cBB_0 cBB_1 cBB_2 cBB_3 cBB_4 cBB_5 cBB_6 fBB_2
    go_at_call 10
    (with_reducible refine (implSt_is a0 a1 N1 a3 a4 a5 a6 ld r pc (P := true) (C := 0) _ (by rw [(HL.out N1 hN).2]; simp) (HL.out N1 hN).1).mono ?_)
    rintro e wy ⟨rfl, hb⟩
    replace BB2 := Lib.hid (BB2.out.late hb)
    replace HB2 := Lib.hid (gr_then hb HB2.out)
    clear hb BB HB
    have BB := BB2
    have HB := HB2
    clear BB2 HB2
    by_cases h0 : N1 = 0
    case pos => have hd0 : (N1 == 0) = true := beq_iff_eq.2 h0; go_wp2; go_returns; exact ⟨rfl, HB.out⟩
    have hd0 : (N1 == 0) = false := beq_eq_false_iff_ne.2 h0
    have cBB_0 := BB.out.cell 0 (by simp)
    have cBB_1 := BB.out.cell 1 (by simp)
    have cBB_2 := BB.out.cell 2 (by simp)
    have cBB_3 := BB.out.cell 3 (by simp)
    have cBB_4 := BB.out.cell 4 (by simp)
    have cBB_5 := BB.out.cell 5 (by simp)
    have cBB_6 := BB.out.cell 6 (by simp)
    simp only [List.getD_cons_zero, List.getD_cons_succ] at cBB_0 cBB_1 cBB_2 cBB_3 cBB_4 cBB_5 cBB_6
    have fBB_2 := BB.out.free 2
    have BB2 := Lib.hid (show BI (wy.setCell ⟨gBB, 2, none⟩ (.int .i64 (N1 - 1))) gBB _ [a0, a1, N1 - 1, a3, a4, a5, a6] from BB.out.put 2 (N1 - 1))
    have HB2 := Lib.hid (gr_set (p := ⟨gBB, 2, none⟩) (u := .int .i64 (N1 - 1)) hgeBB HB.out)
    go_wp2_with fail
    generalize wy.setCell ⟨gBB, 2, none⟩ (.int .i64 (N1 - 1)) = wv at *
    clear cBB_0 cBB_1 cBB_2 cBB_3 cBB_4 cBB_5 cBB_6 fBB_2
    go_at_call 10
    (with_reducible refine (implSt_is a0 a1 (N1 - 1) a3 a4 a5 a6 ld r pc (P := false) (C := 0) _ (by rw [(HL.out (N1 - 1) (by omega)).2]; exact decide_eq_false (by omega)) (HL.out (N1 - 1) (by omega)).1).mono ?_)
    rintro e wu ⟨rfl, hb⟩
    replace HB2 := Lib.hid (gr_then hb HB2.out)
    clear hb
    go_wp2
    go_returns
    exact ⟨rfl, HB2.out⟩
  by_cases hE3 : E3 = 0
  case neg =>
    have hd2 : (E2 == 0) = true := beq_iff_eq.2 hE2
    have hd3 : (E3 == 0) = false := beq_eq_false_iff_ne.2 hE3
    by_cases hE1 : E1 = 0
    case neg => have hd1 : (E1 != 0) = true := bne_iff_ne.2 hE1; go_wp2; go_returns; exact ⟨rfl, HB.out⟩
    subst hE1
    obtain ⟨hN, hle⟩ := least_law a0 a1 a2 a3 a4 a5 a6 ld r pc HE1.out HN1.out
    have HL := Lib.hid hle
    clear hle
    have cBB_0 := BB.out.cell 0 (by simp)
    have cBB_1 := BB.out.cell 1 (by simp)
    have cBB_2 := BB.out.cell 2 (by simp)
    have cBB_3 := BB.out.cell 3 (by simp)
    have cBB_4 := BB.out.cell 4 (by simp)
    have cBB_5 := BB.out.cell 5 (by simp)
    have cBB_6 := BB.out.cell 6 (by simp)
    simp only [List.getD_cons_zero, List.getD_cons_succ] at cBB_0 cBB_1 cBB_2 cBB_3 cBB_4 cBB_5 cBB_6
    have fBB_2 := BB.out.free 2
    have BB2 := Lib.hid (show BI (wq.setCell ⟨gBB, 2, none⟩ (.int .i64 N1)) gBB _ [a0, a1, N1, a3, a4, a5, a6] from BB.out.put 2 N1)
    have HB2 := Lib.hid (gr_set (p := ⟨gBB, 2, none⟩) (u := .int .i64 N1) hgeBB HB.out)
    go_wp2_with fail
    generalize wq.setCell ⟨gBB, 2, none⟩ (.int .i64 N1) = wz at *
    clear cBB_0 cBB_1 cBB_2 cBB_3 cBB_4 cBB_5 cBB_6 fBB_2
    go_at_call 10
    (with_reducible refine (implSt_is a0 a1 N1 a3 a4 a5 a6 ld r pc (P := true) (C := 0) _ (by rw [(HL.out N1 hN).2]; simp) (HL.out N1 hN).1).mono ?_)
    rintro e wy ⟨rfl, hb⟩
    replace BB2 := Lib.hid (BB2.out.late hb)
    replace HB2 := Lib.hid (gr_then hb HB2.out)
    clear hb BB HB
    have BB := BB2
    have HB := HB2
    clear BB2 HB2
    by_cases h0 : N1 = 0
    case pos => have hd0 : (N1 == 0) = true := beq_iff_eq.2 h0; go_wp2; go_returns; exact ⟨rfl, HB.out⟩
    have hd0 : (N1 == 0) = false := beq_eq_false_iff_ne.2 h0
    have cBB_0 := BB.out.cell 0 (by simp)
    have cBB_1 := BB.out.cell 1 (by simp)
    have cBB_2 := BB.out.cell 2 (by simp)
    have cBB_3 := BB.out.cell 3 (by simp)
    have cBB_4 := BB.out.cell 4 (by simp)
    have cBB_5 := BB.out.cell 5 (by simp)
    have cBB_6 := BB.out.cell 6 (by simp)
    simp only [List.getD_cons_zero, List.getD_cons_succ] at cBB_0 cBB_1 cBB_2 cBB_3 cBB_4 cBB_5 cBB_6
    have fBB_2 := BB.out.free 2
    have BB2 := Lib.hid (show BI (wy.setCell ⟨gBB, 2, none⟩ (.int .i64 (N1 - 1))) gBB _ [a0, a1, N1 - 1, a3, a4, a5, a6] from BB.out.put 2 (N1 - 1))
    have HB2 := Lib.hid (gr_set (p := ⟨gBB, 2, none⟩) (u := .int .i64 (N1 - 1)) hgeBB HB.out)
    go_wp2_with fail
    generalize wy.setCell ⟨gBB, 2, none⟩ (.int .i64 (N1 - 1)) = wv at *
    clear cBB_0 cBB_1 cBB_2 cBB_3 cBB_4 cBB_5 cBB_6 fBB_2
    go_at_call 10
    (with_reducible refine (implSt_is a0 a1 (N1 - 1) a3 a4 a5 a6 ld r pc (P := false) (C := 0) _ (by rw [(HL.out (N1 - 1) (by omega)).2]; exact decide_eq_false (by omega)) (HL.out (N1 - 1) (by omega)).1).mono ?_)
    rintro e wu ⟨rfl, hb⟩
    replace HB2 := Lib.hid (gr_then hb HB2.out)
    clear hb
    go_wp2
    go_returns
    exact ⟨rfl, HB2.out⟩
  have hd2 : (E2 == 0) = true := beq_iff_eq.2 hE2
  have hd3 : (E3 == 0) = true := beq_iff_eq.2 hE3
  obtain ⟨hS, hA, hB⟩ := safe_law d0 d1 d2 d3 d4 d5 d6 l q p (HE2.out.trans hE2) HS2.out (HE3.out.trans hE3) HSA.out HSB.out
  have hw1 : IntKind.i64.wrap (100 * SA) = 100 * SA := IntWalk.i64_in _ (by omega)
  have hw2 : IntKind.i64.wrap (p * SB) = p * SB := IntWalk.i64_in _ (by omega)
  have cF1_0 := F1.out.cell 0 (by simp)
  have cF1_1 := F1.out.cell 1 (by simp)
  simp only [List.getD_cons_zero, List.getD_cons_succ] at cF1_0 cF1_1
  by_cases hcmp : p * SB ≤ 100 * SA
  · have hd4 : decide (p * SB ≤ 100 * SA) = true := decide_eq_true hcmp
    have hS2 : S2 = true := hS.trans hd4
    clear hS
    subst hS2
    by_cases hE1 : E1 = 0
    case neg => have hd1 : (E1 != 0) = true := bne_iff_ne.2 hE1; go_wp2; go_returns; exact ⟨rfl, HB.out⟩
    subst hE1
    obtain ⟨hN, hle⟩ := least_law a0 a1 a2 a3 a4 a5 a6 ld r pc HE1.out HN1.out
    have HL := Lib.hid hle
    clear hle
    have cBB_0 := BB.out.cell 0 (by simp)
    have cBB_1 := BB.out.cell 1 (by simp)
    have cBB_2 := BB.out.cell 2 (by simp)
    have cBB_3 := BB.out.cell 3 (by simp)
    have cBB_4 := BB.out.cell 4 (by simp)
    have cBB_5 := BB.out.cell 5 (by simp)
    have cBB_6 := BB.out.cell 6 (by simp)
    simp only [List.getD_cons_zero, List.getD_cons_succ] at cBB_0 cBB_1 cBB_2 cBB_3 cBB_4 cBB_5 cBB_6
    have fBB_2 := BB.out.free 2
    have BB2 := Lib.hid (show BI (wq.setCell ⟨gBB, 2, none⟩ (.int .i64 N1)) gBB _ [a0, a1, N1, a3, a4, a5, a6] from BB.out.put 2 N1)
    have HB2 := Lib.hid (gr_set (p := ⟨gBB, 2, none⟩) (u := .int .i64 N1) hgeBB HB.out)
    go_wp2_with fail
    generalize wq.setCell ⟨gBB, 2, none⟩ (.int .i64 N1) = wz at *
    clear cBB_0 cBB_1 cBB_2 cBB_3 cBB_4 cBB_5 cBB_6 fBB_2
    go_at_call 10
    (with_reducible refine (implSt_is a0 a1 N1 a3 a4 a5 a6 ld r pc (P := true) (C := 0) _ (by rw [(HL.out N1 hN).2]; simp) (HL.out N1 hN).1).mono ?_)
    rintro e wy ⟨rfl, hb⟩
    replace BB2 := Lib.hid (BB2.out.late hb)
    replace HB2 := Lib.hid (gr_then hb HB2.out)
    clear hb BB HB
    have BB := BB2
    have HB := HB2
    clear BB2 HB2
    by_cases h0 : N1 = 0
    case pos => have hd0 : (N1 == 0) = true := beq_iff_eq.2 h0; go_wp2; go_returns; exact ⟨rfl, HB.out⟩
    have hd0 : (N1 == 0) = false := beq_eq_false_iff_ne.2 h0
    have cBB_0 := BB.out.cell 0 (by simp)
    have cBB_1 := BB.out.cell 1 (by simp)
    have cBB_2 := BB.out.cell 2 (by simp)
    have cBB_3 := BB.out.cell 3 (by simp)
    have cBB_4 := BB.out.cell 4 (by simp)
    have cBB_5 := BB.out.cell 5 (by simp)
    have cBB_6 := BB.out.cell 6 (by simp)
    simp only [List.getD_cons_zero, List.getD_cons_succ] at cBB_0 cBB_1 cBB_2 cBB_3 cBB_4 cBB_5 cBB_6
    have fBB_2 := BB.out.free 2
    have BB2 := Lib.hid (show BI (wy.setCell ⟨gBB, 2, none⟩ (.int .i64 (N1 - 1))) gBB _ [a0, a1, N1 - 1, a3, a4, a5, a6] from BB.out.put 2 (N1 - 1))
    have HB2 := Lib.hid (gr_set (p := ⟨gBB, 2, none⟩) (u := .int .i64 (N1 - 1)) hgeBB HB.out)
    go_wp2_with fail
    generalize wy.setCell ⟨gBB, 2, none⟩ (.int .i64 (N1 - 1)) = wv at *
    clear cBB_0 cBB_1 cBB_2 cBB_3 cBB_4 cBB_5 cBB_6 fBB_2
    go_at_call 10
    (with_reducible refine (implSt_is a0 a1 (N1 - 1) a3 a4 a5 a6 ld r pc (P := false) (C := 0) _ (by rw [(HL.out (N1 - 1) (by omega)).2]; exact decide_eq_false (by omega)) (HL.out (N1 - 1) (by omega)).1).mono ?_)
    rintro e wu ⟨rfl, hb⟩
    replace HB2 := Lib.hid (gr_then hb HB2.out)
    clear hb
    go_wp2
    go_returns
    exact ⟨rfl, HB2.out⟩
  · have hd4 : decide (p * SB ≤ 100 * SA) = false := decide_eq_false hcmp
    have hS2 : S2 = false := hS.trans hd4
    clear hS
    subst hS2
    by_cases hE1 : E1 = 0
    case neg => have hd1 : (E1 != 0) = true := bne_iff_ne.2 hE1; go_wp2; go_returns; exact ⟨rfl, HB.out⟩
    subst hE1
    obtain ⟨hN, hle⟩ := least_law a0 a1 a2 a3 a4 a5 a6 ld r pc HE1.out HN1.out
    have HL := Lib.hid hle
    clear hle
    have cBB_0 := BB.out.cell 0 (by simp)
    have cBB_1 := BB.out.cell 1 (by simp)
    have cBB_2 := BB.out.cell 2 (by simp)
    have cBB_3 := BB.out.cell 3 (by simp)
    have cBB_4 := BB.out.cell 4 (by simp)
    have cBB_5 := BB.out.cell 5 (by simp)
    have cBB_6 := BB.out.cell 6 (by simp)
    simp only [List.getD_cons_zero, List.getD_cons_succ] at cBB_0 cBB_1 cBB_2 cBB_3 cBB_4 cBB_5 cBB_6
    have fBB_2 := BB.out.free 2
    have BB2 := Lib.hid (show BI (wq.setCell ⟨gBB, 2, none⟩ (.int .i64 N1)) gBB _ [a0, a1, N1, a3, a4, a5, a6] from BB.out.put 2 N1)
    have HB2 := Lib.hid (gr_set (p := ⟨gBB, 2, none⟩) (u := .int .i64 N1) hgeBB HB.out)
    go_wp2_with fail
    generalize wq.setCell ⟨gBB, 2, none⟩ (.int .i64 N1) = wz at *
    clear cBB_0 cBB_1 cBB_2 cBB_3 cBB_4 cBB_5 cBB_6 fBB_2
    go_at_call 10
    (with_reducible refine (implSt_is a0 a1 N1 a3 a4 a5 a6 ld r pc (P := true) (C := 0) _ (by rw [(HL.out N1 hN).2]; simp) (HL.out N1 hN).1).mono ?_)
    rintro e wy ⟨rfl, hb⟩
    replace BB2 := Lib.hid (BB2.out.late hb)
    replace HB2 := Lib.hid (gr_then hb HB2.out)
    clear hb BB HB
    have BB := BB2
    have HB := HB2
    clear BB2 HB2
    by_cases h0 : N1 = 0
    case pos => have hd0 : (N1 == 0) = true := beq_iff_eq.2 h0; go_wp2; go_returns; exact ⟨rfl, HB.out⟩
    have hd0 : (N1 == 0) = false := beq_eq_false_iff_ne.2 h0
    have cBB_0 := BB.out.cell 0 (by simp)
    have cBB_1 := BB.out.cell 1 (by simp)
    have cBB_2 := BB.out.cell 2 (by simp)
    have cBB_3 := BB.out.cell 3 (by simp)
    have cBB_4 := BB.out.cell 4 (by simp)
    have cBB_5 := BB.out.cell 5 (by simp)
    have cBB_6 := BB.out.cell 6 (by simp)
    simp only [List.getD_cons_zero, List.getD_cons_succ] at cBB_0 cBB_1 cBB_2 cBB_3 cBB_4 cBB_5 cBB_6
    have fBB_2 := BB.out.free 2
    have BB2 := Lib.hid (show BI (wy.setCell ⟨gBB, 2, none⟩ (.int .i64 (N1 - 1))) gBB _ [a0, a1, N1 - 1, a3, a4, a5, a6] from BB.out.put 2 (N1 - 1))
    have HB2 := Lib.hid (gr_set (p := ⟨gBB, 2, none⟩) (u := .int .i64 (N1 - 1)) hgeBB HB.out)
    go_wp2_with fail
    generalize wy.setCell ⟨gBB, 2, none⟩ (.int .i64 (N1 - 1)) = wv at *
    clear cBB_0 cBB_1 cBB_2 cBB_3 cBB_4 cBB_5 cBB_6 fBB_2
    go_at_call 10
    (with_reducible refine (implSt_is a0 a1 (N1 - 1) a3 a4 a5 a6 ld r pc (P := false) (C := 0) _ (by rw [(HL.out (N1 - 1) (by omega)).2]; exact decide_eq_false (by omega)) (HL.out (N1 - 1) (by omega)).1).mono ?_)
    rintro e wu ⟨rfl, hb⟩
    replace HB2 := Lib.hid (gr_then hb HB2.out)
    clear hb
    go_wp2
    go_returns
    exact ⟨rfl, HB2.out⟩
end Go.Proofs.YtmalbgbmapfiiaaDoor.fnStability
