/- Charts compared; the draw of a base, a chart and a percentage. -/
import Derived.Test.YtmalbgbmapfiiaaChSrc
import Derived.Test.YtmalbgbmapfiiaaBsSrc
import Derived.Deep.RegionHeld3
namespace Go.Proofs.Ytmalbgbmapfiiaa
open Go.RowKit Go.Deep
theorem RM.set {m : Nat} {e : TypeId} {w : World} {lo hi n c : Nat} {A : Option Addr} {zs : List Int} (h : RM m e w lo hi A n c zs) {q : Addr} (hq : q.block < lo) (u : Value) : RM m e (w.setCell q u) lo hi A n c zs := h.far (fun g hg => by have := (h.form.2 g hg).1; omega) u
set_option maxHeartbeats 4000000 in
set_option maxRecDepth 20000 in
theorem same03_any (A A' : Option Addr) (n c c' : Nat) (zs : List Int) (w : World) (hn : n ≤ 1048576) (hz : zs.length = n * 2) (h : SI w w.heap.size A zs) (h' : SI w w.heap.size A' zs) : Calls Try.prog 29 #[.slice A n c, .slice A' n c'] w fun e w' => e = .returned (.bool true) ∧ ∃ q, w' = w.drewN q := by
  have HZ := Lib.hid hz
  have H := Lib.hid h
  have H' := Lib.hid h'
  clear hz h h'
  go_enter Try.func29, Try.ntmps29; go_wp2
  go_loopw [5] (fun iv wr => ∃ k : Nat, k ≤ n ∧ iv = .int .i64 (k : Int) ∧ ∃ q, wr = w.drewN q) (fun iv _ => n - (intOf iv).toNat)
  case atStart => exact ⟨0, by omega, rfl, 0, rfl⟩
  case round =>
    obtain ⟨k, hk, rfl, q, rfl⟩ := hrel
    by_cases hkn : k < n
    case neg => have hd : decide ((k : Int) < n) = false := decide_eq_false (by omega); go_wp2; go_returns; exact ⟨rfl, q, rfl⟩
    have hd : decide ((k : Int) < n) = true := decide_eq_true (by omega)
    obtain ⟨b1, o1, hA1, hB1, p0, p1⟩ := si2 H.out HZ.out hkn
    obtain ⟨b2, o2, hA2, hB2, q0, q1⟩ := si2 H'.out HZ.out hkn
    subst hA1
    subst hA2
    go_wp2
    go_quiet (fail)
    go_wp2
    go_roundw
    case rel => exact ⟨k + 1, by omega, by go_num, _, rfl⟩
    case measure => simp [intOf]; omega
set_option maxHeartbeats 1000000 in
theorem sameChart_any (A A' : Option Addr) (n c c' : Nat) (zs : List Int) (w : World) (hn : n ≤ 1048576) (hz : zs.length = n * 2) (h : SI w w.heap.size A zs) (h' : SI w w.heap.size A' zs) : Calls Try.prog 11 #[.slice A n c, .slice A' n c'] w fun e w' => e = .returned (.bool true) ∧ ∃ q, w' = w.drewN q := by
  go_enter Try.func11, Try.ntmps11; go_wp2_with (go_at_call 29; (with_reducible refine (same03_any A A' n c c' zs _ hn hz h h').mono ?_); rintro e w1 ⟨rfl, q, rfl⟩)
  go_returns
  exact ⟨rfl, _, rfl⟩
set_option maxHeartbeats 8000000 in
set_option maxRecDepth 20000 in
theorem drawSc_any (A : Option Addr) (c : Nat) (bs : List Int) (w : World) (hn : bs.length ≤ 1048576) (hq : ∀ x ∈ bs, U8 x) (h : SV (.int .u8) w w.heap.size A bs) : Calls Try.prog 5 #[.slice A bs.length c] w fun e w' => ∃ a0 a1 a2 a3 a4 a5 a6 : Int, ∃ (A1 : Option Addr) (n1 c1 : Nat) (zs : List Int) (pc : Int), e = .returned (.tuple #[.agg #[.int .i64 a0, .int .i64 a1, .int .i64 a2, .int .i64 a3, .int .i64 a4, .int .i64 a5, .int .i64 a6], .slice A1 n1 c1, .int .i64 pc]) ∧ n1 ≤ 21 ∧ zs.length = n1 * 2 ∧ SI w' w'.heap.size A1 zs ∧ I64 pc ∧ Below w.heap.size w w' := by
  have H := Lib.hid h
  have HQ := Lib.hid hq
  clear h hq
  have hb0 : Below w.heap.size w (w.alloc (.cells #[.int .i64 0, .int .i64 0, .int .i64 0, .int .i64 0, .int .i64 0, .int .i64 0, .int .i64 0] 25)) := by repeat' first | exact gr_refl _ | with_reducible assumption | with_reducible apply gr_alloc | with_reducible apply gr_set | with_reducible apply gr_drew | with_reducible apply gr_drewN | exact Nat.le_add_right _ _ | exact Nat.le_refl _ | (refine gr_then (by with_reducible assumption) ?_)
  have B0 := Lib.hid (show BI (w.alloc (.cells #[.int .i64 0, .int .i64 0, .int .i64 0, .int .i64 0, .int .i64 0, .int .i64 0, .int .i64 0] 25)) (w.heap.size) 25 [0, 0, 0, 0, 0, 0, 0] from heap_alloc_new w _)
  replace H := Lib.hid (H.out.later hb0)
  have HB := Lib.hid hb0
  have hz : w.heap.size + 1 ≤ (w.alloc (.cells #[.int .i64 0, .int .i64 0, .int .i64 0, .int .i64 0, .int .i64 0, .int .i64 0, .int .i64 0] 25)).heap.size := by simp
  clear hb0
  go_enter Try.func5, Try.ntmps5
  go_wp2_with fail
  generalize w.alloc (.cells #[.int .i64 0, .int .i64 0, .int .i64 0, .int .i64 0, .int .i64 0, .int .i64 0, .int .i64 0] 25) = v0 at *
  have hg0 : w.heap.size < v0.heap.size := by omega
  go_at_call 14
  (with_reducible refine (from_any _ _ bs _ hn HQ.out H.out).mono ?_)
  rintro e w1 ⟨rfl, hs, hb⟩
  have HS1 := Lib.hid hs
  have hpl := hs.lt
  have hz1 := hb.size
  replace B0 := Lib.hid (B0.out.late hb)
  replace H := Lib.hid (H.out.later hb)
  replace HB := Lib.hid (gr_then hb HB.out)
  clear hs hb
  have HO := Lib.hid (Only.refl v0.heap.size (v0.heap.size + 1) w1)
  have hwp : w.heap.size ≤ v0.heap.size := by omega
  generalize hpp : v0.heap.size = p at *
  go_wp2_with fail
  go_at_call 15
  (with_reducible refine (bentBs_any p _ _ (by omega) HS1.out).mono ?_)
  rintro e w2 ⟨a0, a1, a2, a3, a4, a5, a6, rfl, hq, hs, ho⟩
  have HS2 := Lib.hid hs
  have HO2 := Lib.hid ho
  clear hs ho
  have hz2 := HO2.out.size
  replace B0 := Lib.hid (B0.out.only HO2.out (by omega))
  replace HO := Lib.hid (HO.out.trans HO2.out)
  clear hq
  have hb : Below w2.heap.size w2 (w2.alloc (.cells #[.int .i64 a0, .int .i64 a1, .int .i64 a2, .int .i64 a3, .int .i64 a4, .int .i64 a5, .int .i64 a6] 25)) := gr_alloc (gr_refl _)
  have B1 := Lib.hid (show BI (w2.alloc (.cells #[.int .i64 a0, .int .i64 a1, .int .i64 a2, .int .i64 a3, .int .i64 a4, .int .i64 a5, .int .i64 a6] 25)) w2.heap.size 25 [a0, a1, a2, a3, a4, a5, a6] from heap_alloc_new _ _)
  replace B0 := Lib.hid (B0.out.late hb)
  replace HO := Lib.hid (HO.out.trans (Only.of_below hb))
  have hp3 : p + 1 ≤ w2.heap.size := HS2.out.lt
  have HS3 := Lib.hid (HS2.out.late hb)
  have hz3 : w2.heap.size + 1 ≤ (w2.alloc (.cells #[.int .i64 a0, .int .i64 a1, .int .i64 a2, .int .i64 a3, .int .i64 a4, .int .i64 a5, .int .i64 a6] 25)).heap.size := by simp
  clear hb
  go_wp2_with fail
  generalize w2.alloc (.cells #[.int .i64 a0, .int .i64 a1, .int .i64 a2, .int .i64 a3, .int .i64 a4, .int .i64 a5, .int .i64 a6] 25) = w3 at *
  generalize hgg3 : w2.heap.size = g1 at *
  go_at_call 16
  (with_reducible refine (bentCh_any p _ _ (by omega) HS3.out).mono ?_)
  rintro e w4 ⟨A1, n1, c1, zs, rfl, hn1, hrm, hs, ho⟩
  have HS4 := Lib.hid hs
  have HO4 := Lib.hid ho
  clear hs ho
  have hz4 := HO4.out.size
  replace B0 := Lib.hid (B0.out.only HO4.out (by omega))
  replace B1 := Lib.hid (B1.out.only HO4.out (by omega))
  replace HO := Lib.hid (HO.out.trans HO4.out)
  have RR := Lib.hid hrm
  clear hrm
  have hplo : p + 1 ≤ w3.heap.size := by omega
  have cB1_0 := B1.out.cell 0 (by simp)
  have cB1_1 := B1.out.cell 1 (by simp)
  have cB1_2 := B1.out.cell 2 (by simp)
  have cB1_3 := B1.out.cell 3 (by simp)
  have cB1_4 := B1.out.cell 4 (by simp)
  have cB1_5 := B1.out.cell 5 (by simp)
  have cB1_6 := B1.out.cell 6 (by simp)
  have fB1_0 := B1.out.free 0
  have fB1_1 := B1.out.free 1
  have fB1_2 := B1.out.free 2
  have fB1_3 := B1.out.free 3
  have fB1_4 := B1.out.free 4
  have fB1_5 := B1.out.free 5
  have fB1_6 := B1.out.free 6
  simp only [List.getD_cons_zero, List.getD_cons_succ] at cB1_0 cB1_1 cB1_2 cB1_3 cB1_4 cB1_5 cB1_6
  have ltB1 := B1.out.lt
  have cB0_0 := B0.out.cell 0 (by simp)
  have cB0_1 := B0.out.cell 1 (by simp)
  have cB0_2 := B0.out.cell 2 (by simp)
  have cB0_3 := B0.out.cell 3 (by simp)
  have cB0_4 := B0.out.cell 4 (by simp)
  have cB0_5 := B0.out.cell 5 (by simp)
  have cB0_6 := B0.out.cell 6 (by simp)
  have fB0_0 := B0.out.free 0
  have fB0_1 := B0.out.free 1
  have fB0_2 := B0.out.free 2
  have fB0_3 := B0.out.free 3
  have fB0_4 := B0.out.free 4
  have fB0_5 := B0.out.free 5
  have fB0_6 := B0.out.free 6
  simp only [List.getD_cons_zero, List.getD_cons_succ] at cB0_0 cB0_1 cB0_2 cB0_3 cB0_4 cB0_5 cB0_6
  have ltB0 := B0.out.lt
  go_wp2_with fail
  go_region_held3 (fun w' => w'.cell? ⟨g1, 0, none⟩ = some (.int .i64 a0) ∧ w'.cell? ⟨g1, 1, none⟩ = some (.int .i64 a1) ∧ w'.cell? ⟨g1, 2, none⟩ = some (.int .i64 a2) ∧ w'.cell? ⟨g1, 3, none⟩ = some (.int .i64 a3) ∧ w'.cell? ⟨g1, 4, none⟩ = some (.int .i64 a4) ∧ w'.cell? ⟨g1, 5, none⟩ = some (.int .i64 a5) ∧ w'.cell? ⟨g1, 6, none⟩ = some (.int .i64 a6)) (first | with_reducible exact ⟨cB1_0, cB1_1, cB1_2, cB1_3, cB1_4, cB1_5, cB1_6⟩ | with_reducible exact ⟨drewc cB1_0, drewc cB1_1, drewc cB1_2, drewc cB1_3, drewc cB1_4, drewc cB1_5, drewc cB1_6⟩ | with_reducible exact ⟨(ho.keepc (by omega) cB1_0), (ho.keepc (by omega) cB1_1), (ho.keepc (by omega) cB1_2), (ho.keepc (by omega) cB1_3), (ho.keepc (by omega) cB1_4), (ho.keepc (by omega) cB1_5), (ho.keepc (by omega) cB1_6)⟩ | with_reducible exact ⟨(setfar (p := ⟨_, 6, none⟩) (setfar (p := ⟨_, 5, none⟩) (setfar (p := ⟨_, 4, none⟩) (setfar (p := ⟨_, 3, none⟩) (setfar (p := ⟨_, 2, none⟩) (setfar (p := ⟨_, 1, none⟩) (setfar (p := ⟨_, 0, none⟩) (ho.keepc (by omega) cB1_0) (by dsimp only; omega)) (by dsimp only; omega)) (by dsimp only; omega)) (by dsimp only; omega)) (by dsimp only; omega)) (by dsimp only; omega)) (by dsimp only; omega)), (setfar (p := ⟨_, 6, none⟩) (setfar (p := ⟨_, 5, none⟩) (setfar (p := ⟨_, 4, none⟩) (setfar (p := ⟨_, 3, none⟩) (setfar (p := ⟨_, 2, none⟩) (setfar (p := ⟨_, 1, none⟩) (setfar (p := ⟨_, 0, none⟩) (ho.keepc (by omega) cB1_1) (by dsimp only; omega)) (by dsimp only; omega)) (by dsimp only; omega)) (by dsimp only; omega)) (by dsimp only; omega)) (by dsimp only; omega)) (by dsimp only; omega)), (setfar (p := ⟨_, 6, none⟩) (setfar (p := ⟨_, 5, none⟩) (setfar (p := ⟨_, 4, none⟩) (setfar (p := ⟨_, 3, none⟩) (setfar (p := ⟨_, 2, none⟩) (setfar (p := ⟨_, 1, none⟩) (setfar (p := ⟨_, 0, none⟩) (ho.keepc (by omega) cB1_2) (by dsimp only; omega)) (by dsimp only; omega)) (by dsimp only; omega)) (by dsimp only; omega)) (by dsimp only; omega)) (by dsimp only; omega)) (by dsimp only; omega)), (setfar (p := ⟨_, 6, none⟩) (setfar (p := ⟨_, 5, none⟩) (setfar (p := ⟨_, 4, none⟩) (setfar (p := ⟨_, 3, none⟩) (setfar (p := ⟨_, 2, none⟩) (setfar (p := ⟨_, 1, none⟩) (setfar (p := ⟨_, 0, none⟩) (ho.keepc (by omega) cB1_3) (by dsimp only; omega)) (by dsimp only; omega)) (by dsimp only; omega)) (by dsimp only; omega)) (by dsimp only; omega)) (by dsimp only; omega)) (by dsimp only; omega)), (setfar (p := ⟨_, 6, none⟩) (setfar (p := ⟨_, 5, none⟩) (setfar (p := ⟨_, 4, none⟩) (setfar (p := ⟨_, 3, none⟩) (setfar (p := ⟨_, 2, none⟩) (setfar (p := ⟨_, 1, none⟩) (setfar (p := ⟨_, 0, none⟩) (ho.keepc (by omega) cB1_4) (by dsimp only; omega)) (by dsimp only; omega)) (by dsimp only; omega)) (by dsimp only; omega)) (by dsimp only; omega)) (by dsimp only; omega)) (by dsimp only; omega)), (setfar (p := ⟨_, 6, none⟩) (setfar (p := ⟨_, 5, none⟩) (setfar (p := ⟨_, 4, none⟩) (setfar (p := ⟨_, 3, none⟩) (setfar (p := ⟨_, 2, none⟩) (setfar (p := ⟨_, 1, none⟩) (setfar (p := ⟨_, 0, none⟩) (ho.keepc (by omega) cB1_5) (by dsimp only; omega)) (by dsimp only; omega)) (by dsimp only; omega)) (by dsimp only; omega)) (by dsimp only; omega)) (by dsimp only; omega)) (by dsimp only; omega)), (setfar (p := ⟨_, 6, none⟩) (setfar (p := ⟨_, 5, none⟩) (setfar (p := ⟨_, 4, none⟩) (setfar (p := ⟨_, 3, none⟩) (setfar (p := ⟨_, 2, none⟩) (setfar (p := ⟨_, 1, none⟩) (setfar (p := ⟨_, 0, none⟩) (ho.keepc (by omega) cB1_6) (by dsimp only; omega)) (by dsimp only; omega)) (by dsimp only; omega)) (by dsimp only; omega)) (by dsimp only; omega)) (by dsimp only; omega)) (by dsimp only; omega))⟩) (first | (go_at_call 17; (with_reducible refine (drawPc_any p _ _ (by omega) HS4.out.drew).mono ?_); rintro e w5 ⟨pc, rfl, hk, hs, ho'⟩; have ho := (Only.drew (Only.refl p (p + 1) w4)).trans ho'; clear ho'; have z5 := ho.size; have d0 := ho.keepc (by omega) cB0_0; have m0 := (B0.out.only ho (by omega)).free 0; have d1 := ho.keepc (by omega) cB0_1; have m1 := (B0.out.only ho (by omega)).free 1; have d2 := ho.keepc (by omega) cB0_2; have m2 := (B0.out.only ho (by omega)).free 2; have d3 := ho.keepc (by omega) cB0_3; have m3 := (B0.out.only ho (by omega)).free 3; have d4 := ho.keepc (by omega) cB0_4; have m4 := (B0.out.only ho (by omega)).free 4; have d5 := ho.keepc (by omega) cB0_5; have m5 := (B0.out.only ho (by omega)).free 5; have d6 := ho.keepc (by omega) cB0_6; have m6 := (B0.out.only ho (by omega)).free 6; have HS5 := Lib.hid hs; have HO5 := Lib.hid ho))
  have hz5 := HO5.out.size
  replace B0 := Lib.hid (B0.out.only HO5.out (by omega))
  replace B1 := Lib.hid (B1.out.only HO5.out (by omega))
  replace HO := Lib.hid (HO.out.trans HO5.out)
  have HK := Lib.hid hk
  replace RR := Lib.hid (RR.out.only HO5.out (.inr hplo))
  have hltw : w.heap.size < w3.heap.size := by have := B0.out.lt; omega
  have HZ := Lib.hid (Only.after HB.out HO.out (by omega) (by omega))
  go_wp2
  refine ret_box (g := w.heap.size) (zs := [a0, a1, a2, a3, a4, a5, a6]) (v := .tuple #[.agg #[.int .i64 a0, .int .i64 a1, .int .i64 a2, .int .i64 a3, .int .i64 a4, .int .i64 a5, .int .i64 a6], .slice A1 n1 c1, .int .i64 pc]) (by first | with_reducible exact BI.put_7 B0.out _ _ _ _ _ _ _ | with_reducible exact (BI.put_7 B0.out _ _ _ _ _ _ _).alloc _ | with_reducible exact ((BI.put_7 B0.out _ _ _ _ _ _ _).alloc _).alloc _) rfl ?_ ?_
  · intro W hW
    have e0 := hW.cell 0 (by simp)
    have e1 := hW.cell 1 (by simp)
    have e2 := hW.cell 2 (by simp)
    have e3 := hW.cell 3 (by simp)
    have e4 := hW.cell 4 (by simp)
    have e5 := hW.cell 5 (by simp)
    have e6 := hW.cell 6 (by simp)
    simp only [List.getD_cons_zero, List.getD_cons_succ] at e0 e1 e2 e3 e4 e5 e6
    simp [results, Try.results5, go_sem, e0, e1, e2, e3, e4, e5, e6]
  · exact ⟨_, _, _, _, _, _, _, A1, n1, c1, zs, pc, rfl, hn1, RR.out.len, by (refine RM.si (m := 2) (e := 40) (lo := w3.heap.size) (hi := w4.heap.size) (n := n1) (c := c1) ?_; repeat' (first | with_reducible exact RR.out | (with_reducible refine RM.set ?_ (by dsimp only; omega) _))), HK.out, by repeat' (first | with_reducible exact HZ.out | (with_reducible refine gr_set (by dsimp only; omega) ?_) | (with_reducible refine gr_alloc ?_) | (with_reducible refine gr_drewN ?_) | (with_reducible refine gr_drew ?_))⟩
end Go.Proofs.Ytmalbgbmapfiiaa
