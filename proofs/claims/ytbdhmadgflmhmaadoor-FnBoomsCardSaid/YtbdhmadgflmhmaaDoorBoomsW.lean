/- The walk of the law FnBooms: whatever bytes came in, it returns true. No condition but that the table of vectors holds what the text lays. -/
import Derived.Test.YtbdhmadgflmhmaaDoorBm
import Derived.Test.YtbdhmadgflmhmaaDoorA2
import Derived.Test.YtbdhmadgflmhmaaDoorCrSrc
import Derived.Test.YtbdhmadgflmhmaaDoorBmP
import Derived.BigQuiet
namespace Go.Proofs.YtbdhmadgflmhmaaDoor.fnBooms
open Go.RowKit Go.Deep
theorem ends_law {x : Cr} {n k : Nat} (hd : Drawn 100 700 x n) (hp : (0 ≤ x.px ∧ x.px ≤ 99) ∧ (0 ≤ x.py ∧ x.py ≤ 99)) (hk : k ≤ 23) {sa sb sc sd : Int} (ha : kX x k = sa) (hb : kY x k = sb) (hc : jX x k = sc) (hd' : jY x k = sd) : (okPl sa sb = true ∧ okPl sc sd = true) ∧ ((-2000 ≤ sa ∧ sa ≤ 2000) ∧ (-2000 ≤ sb ∧ sb ≤ 2000) ∧ (-2000 ≤ sc ∧ sc ≤ 2000) ∧ (-2000 ≤ sd ∧ sd ≤ 2000)) ∧ (radN (x.px - sc) (x.py - sd) ≤ x.jb + 1 ∧ x.jb - 3 ≤ radN (x.px - sc) (x.py - sd)) ∧ (radN (x.px - sa) (x.py - sb) ≤ x.bk + 1 ∧ x.bk - 3 ≤ radN (x.px - sa) (x.py - sb)) ∧ ((-100000000 ≤ (sc - x.px) * (sa - x.px) ∧ (sc - x.px) * (sa - x.px) ≤ 100000000) ∧ (-100000000 ≤ (sd - x.py) * (sb - x.py) ∧ (sd - x.py) * (sb - x.py) ≤ 100000000)) ∧ (sc - x.px) * (sa - x.px) + (sd - x.py) * (sb - x.py) ≤ 0 := by
  obtain ⟨_, _, _, dj, db, _⟩ := hd
  have r1 := (endS_rt hk (J := x.jb) (by omega) (by omega)).2
  have r2 := (endS_rt (opp_le k) (J := x.bk) (by omega) (by omega)).2
  have r3 := opp_dot hk (J := x.jb) (B := x.bk) (by omega) (by omega)
  have b1 := atI_bd (x := x.px) (v := vX k) (r := x.jb) (vXY_bd k).1 (by omega)
  have b2 := atI_bd (x := x.py) (v := vY k) (r := x.jb) (vXY_bd k).2 (by omega)
  have b3 := atI_bd (x := x.px) (v := vX (opp k : Nat)) (r := x.bk) (vXY_bd _).1 (by omega)
  have b4 := atI_bd (x := x.py) (v := vY (opp k : Nat)) (r := x.bk) (vXY_bd _).2 (by omega)
  have e1 : radN (x.px - sc) (x.py - sd) = rt (endS k x.jb) := by
    rw [← hc, ← hd']; unfold jX jY atI; rw [show x.px - (x.px + (vX k * x.jb).tdiv 1000) = -(vX k * x.jb).tdiv 1000 by omega, show x.py - (x.py + (vY k * x.jb).tdiv 1000) = -(vY k * x.jb).tdiv 1000 by omega, radN_neg]; rfl
  have e2 : radN (x.px - sa) (x.py - sb) = rt (endS (opp k) x.bk) := by
    rw [← ha, ← hb]; unfold kX kY atI; rw [show x.px - (x.px + (vX (opp k : Nat) * x.bk).tdiv 1000) = -(vX (opp k : Nat) * x.bk).tdiv 1000 by omega, show x.py - (x.py + (vY (opp k : Nat) * x.bk).tdiv 1000) = -(vY (opp k : Nat) * x.bk).tdiv 1000 by omega, radN_neg]; rfl
  have e3 : sc - x.px = (vX k * x.jb).tdiv 1000 := by rw [← hc]; unfold jX atI; omega
  have e4 : sd - x.py = (vY k * x.jb).tdiv 1000 := by rw [← hd']; unfold jY atI; omega
  have e5 : sa - x.px = (vX (opp k : Nat) * x.bk).tdiv 1000 := by rw [← ha]; unfold kX atI; omega
  have e6 : sb - x.py = (vY (opp k : Nat) * x.bk).tdiv 1000 := by rw [← hb]; unfold kY atI; omega
  have c1 : -1000 ≤ sc - x.px ∧ sc - x.px ≤ 1000 := by have h9 : jX x k = atI x.px (vX k) x.jb := rfl; omega
  have c2 : -1000 ≤ sd - x.py ∧ sd - x.py ≤ 1000 := by have h9 : jY x k = atI x.py (vY k) x.jb := rfl; omega
  have c3 : -1000 ≤ sa - x.px ∧ sa - x.px ≤ 1000 := by have h9 : kX x k = atI x.px (vX (opp k : Nat)) x.bk := rfl; omega
  have c4 : -1000 ≤ sb - x.py ∧ sb - x.py ≤ 1000 := by have h9 : kY x k = atI x.py (vY (opp k : Nat)) x.bk := rfl; omega
  have m1 := mul_bd2 c1 c3
  have m2 := mul_bd2 c2 c4
  refine ⟨⟨?_, ?_⟩, by omega, by rw [e1]; exact r1, by rw [e2]; exact r2, by omega, by rw [e3, e4, e5, e6]; exact r3⟩
  · unfold okPl; rw [inI_y (by omega), inI_y (by omega)]; rfl
  · unfold okPl; rw [inI_y (by omega), inI_y (by omega)]; rfl
theorem drawn_ok {x : Cr} {n : Nat} (hd : Drawn 100 700 x n) (hn : okNm x.nm = true) (hb : (-10000 ≤ x.px ∧ x.px ≤ 10000) ∧ (-10000 ≤ x.py ∧ x.py ≤ 10000)) : okCr x n = true := by
  obtain ⟨d1, d2, d3, d4, d5, d6, d7, d8, d9⟩ := hd
  unfold okCr okPl
  rw [hn, inI_y hb.1, inI_y hb.2, inI_y (show (1 : Int) ≤ x.hg ∧ x.hg ≤ 2000 by omega), inI_y (show (1 : Int) ≤ x.jb ∧ x.jb ≤ 1000 by omega), inI_y (show (0 : Int) ≤ x.bk ∧ x.bk ≤ x.jb by omega), d8, decide_eq_true d9]
  rfl
theorem boomOk_any (x : Cr) (A : Option Addr) (n c k : Nat) (w : World) (hn : n ≤ 1048576) (hl : x.zs.length = n * 2) (hm : x.nm.size ≤ 9223372036854775806) (hok : okCr x n = true) (hk : k ≤ 23) (h : SI w w.heap.size A x.zs) (hQ : Quar w) {sa sb sc sd : Int} (ha : kX x k = sa) (hb : kY x k = sb) (hc : jX x k = sc) (hd : jY x k = sd) : Calls Tryd.prog 8 #[.agg #[.string x.nm, .int .i64 x.px, .int .i64 x.py, .int .i64 x.hg, .int .i64 x.jb, .int .i64 x.bk, .slice A n c], .int .i64 (k : Int)] w fun e w' => e = .returned (.tuple #[.agg #[.int .i64 sa, .int .i64 sb, .int .i64 sc, .int .i64 sd], .int .i64 0]) ∧ Below w.heap.size w w' := by
  have h9 := implBoom_any x A n c (k : Int) w hn hl hm h hQ
  rw [cdE_y hok (inI_y (show (0 : Int) ≤ (k : Int) ∧ (k : Int) ≤ 23 by omega)), zE_y, zE_y, zE_y, zE_y, Int.toNat_natCast, ha, hb, hc, hd] at h9
  exact h9
theorem endJ_is (x : Cr) (A : Option Addr) (n c k : Nat) (w : World) (hn : n ≤ 1048576) (hl : x.zs.length = n * 2) (hm : x.nm.size ≤ 9223372036854775806) (hok : okCr x n = true) (hk : k ≤ 23) (h : SI w w.heap.size A x.zs) (hQ : Quar w) {s t : Int} (hs : jX x k = s) (ht : jY x k = t) : Calls Tryd.prog 14 #[.agg #[.string x.nm, .int .i64 x.px, .int .i64 x.py, .int .i64 x.hg, .int .i64 x.jb, .int .i64 x.bk, .slice A n c], .int .i64 (k : Int)] w fun e w' => e = .returned (.tuple #[.agg #[.int .i64 s, .int .i64 t], .int .i64 0]) ∧ Below w.heap.size w w' := by rw [← hs, ← ht]; exact endJ2_any x A n c k w hn hl hm hok hk h hQ
theorem endK_is (x : Cr) (A : Option Addr) (n c k : Nat) (w : World) (hn : n ≤ 1048576) (hl : x.zs.length = n * 2) (hm : x.nm.size ≤ 9223372036854775806) (hok : okCr x n = true) (hk : k ≤ 23) (h : SI w w.heap.size A x.zs) (hQ : Quar w) {s t : Int} (hs : kX x k = s) (ht : kY x k = t) : Calls Tryd.prog 15 #[.agg #[.string x.nm, .int .i64 x.px, .int .i64 x.py, .int .i64 x.hg, .int .i64 x.jb, .int .i64 x.bk, .slice A n c], .int .i64 (k : Int)] w fun e w' => e = .returned (.tuple #[.agg #[.int .i64 s, .int .i64 t], .int .i64 0]) ∧ Below w.heap.size w w' := by rw [← hs, ← ht]; exact endK2_any x A n c k w hn hl hm hok hk h hQ
theorem rad_is (a b c d : Int) (w : World) (ha : okPl a b = true) (hc : okPl c d = true) {r : Int} (hr : radN (a - c) (b - d) = r) : Calls Tryd.prog 16 #[.agg #[.int .i64 a, .int .i64 b], .agg #[.int .i64 c, .int .i64 d]] w fun e w' => e = .returned (.tuple #[.int .i64 r, .int .i64 0]) ∧ Below w.heap.size w w' := by rw [← hr]; exact radBt_any a b c d w ha hc
set_option maxHeartbeats 32000000 in
set_option maxRecDepth 20000 in
theorem walk (A0 : Option Addr) (n0 c0 : Nat) (bs : List Int) (A1 : Option Addr) (n1 c1 : Nat) (bt : List Int) (w : World) (h : n0 ≤ 9223372036854775807 ∧ bs.length = n0 ∧ (∀ x ∈ bs, U8 x) ∧ SV (.int .u8) w w.heap.size A0 bs) (h' : n1 ≤ 9223372036854775807 ∧ bt.length = n1 ∧ (∀ x ∈ bt, U8 x) ∧ SV (.int .u8) w w.heap.size A1 bt) (hQ : Quar w) :
    Calls Tryd.prog 4 #[.slice A0 n0 c0, .slice A1 n1 c1] w fun e w' => e = .returned (.bool true) ∧ Below w.heap.size w w' := by
  obtain ⟨hn, hl, hq, hs⟩ := h
  obtain ⟨hn', hl', hq', hs'⟩ := h'
  obtain rfl : n0 = bs.length := hl.symm
  obtain rfl : n1 = bt.length := hl'.symm
  have H := Lib.hid hs
  have HQb := Lib.hid hq
  have H' := Lib.hid hs'
  have HQt := Lib.hid hq'
  have HQ := Lib.hid hQ
  have HB := Lib.hid (gr_refl w)
  clear hs hq hl hs' hq' hl' hQ
  go_enter Tryd.func4, Tryd.ntmps4
  go_wp2_with fail
  obtain ⟨q, hq⟩ : ∃ q, lngB bs.length bt.length = q := ⟨_, rfl⟩
  go_at_call 11
  (with_reducible refine (long_any A0 A1 bs.length bt.length c0 c1 _).mono ?_)
  rw [hq]
  rintro e w0 ⟨rfl, rfl⟩
  cases q
  case true => go_wp2; go_returns; exact ⟨rfl, HB.out⟩
  have hlen := lngB_f hq
  clear hq
  go_wp2_with fail
  go_at_call 12
  (with_reducible refine (cranes_any A0 c0 bs _ (by omega) HQb.out H.out).mono ?_)
  rintro e w1 ⟨x, y, A, A', n, c, n', c', rfl, hnm, hp, hd1, hd2, hc1, hc2, hb⟩
  have HDR := Lib.hid hd1
  have HP := Lib.hid hp
  have hlz := Lib.hid hd1.2.2.2.2.2.2.1
  have hn9 : n ≤ 20 := (okCh_t hd1.2.2.2.2.2.2.2.1).2.2
  have hnn : 1 ≤ n := hd1.2.2.2.2.2.1
  have hxb := hp
  have hjb := hd1.2.2.2.1
  have hbk := hd1.2.2.2.2.1
  have HOK := Lib.hid (drawn_ok hd1 (by rw [hnm.1]; decide) (by omega))
  have HMS := Lib.hid (show x.nm.size ≤ 9223372036854775806 by rw [hnm.1]; decide)
  have R1 := Lib.hid hc1
  clear hnm hp hd1 hd2 hc1 hc2
  replace H := Lib.hid ((H.out.below hb).more hb.size)
  replace H' := Lib.hid ((H'.out.below hb).more hb.size)
  replace HQ := Lib.hid (HQ.out.late hb)
  replace HB := Lib.hid (gr_then hb HB.out)
  clear hb
  have hn8 : n ≤ 1048576 := by omega
  have hb : Below w1.heap.size w1 ((w1.alloc (.cells #[.string x.nm, .int .i64 x.px, .int .i64 x.py, .int .i64 x.hg, .int .i64 x.jb, .int .i64 x.bk, .slice A n c] 35)).alloc (.cells #[.string y.nm, .int .i64 y.px, .int .i64 y.py, .int .i64 y.hg, .int .i64 y.jb, .int .i64 y.bk, .slice A' n' c'] 35)) := gr_alloc (gr_alloc (gr_refl _))
  have HC := Lib.hid ((Cc.box w1 35 x A n c).late (show Below (w1.alloc (.cells #[.string x.nm, .int .i64 x.px, .int .i64 x.py, .int .i64 x.hg, .int .i64 x.jb, .int .i64 x.bk, .slice A n c] 35)).heap.size (w1.alloc (.cells #[.string x.nm, .int .i64 x.px, .int .i64 x.py, .int .i64 x.hg, .int .i64 x.jb, .int .i64 x.bk, .slice A n c] 35)) ((w1.alloc (.cells #[.string x.nm, .int .i64 x.px, .int .i64 x.py, .int .i64 x.hg, .int .i64 x.jb, .int .i64 x.bk, .slice A n c] 35)).alloc (.cells #[.string y.nm, .int .i64 y.px, .int .i64 y.py, .int .i64 y.hg, .int .i64 y.jb, .int .i64 y.bk, .slice A' n' c'] 35)) from gr_alloc (gr_refl _)))
  replace H := Lib.hid ((H.out.below hb).more hb.size)
  replace H' := Lib.hid ((H'.out.below hb).more hb.size)
  replace HQ := Lib.hid (HQ.out.late hb)
  replace HB := Lib.hid (gr_then hb HB.out)
  replace R1 := Lib.hid (R1.out.late hb)
  clear hb
  go_wp2_with fail
  generalize (w1.alloc (.cells #[.string x.nm, .int .i64 x.px, .int .i64 x.py, .int .i64 x.hg, .int .i64 x.jb, .int .i64 x.bk, .slice A n c] 35)).alloc (.cells #[.string y.nm, .int .i64 y.px, .int .i64 y.py, .int .i64 y.hg, .int .i64 y.jb, .int .i64 y.bk, .slice A' n' c'] 35) = w2 at *
  obtain ⟨gHC, hgHC⟩ : ∃ g, w1.heap.size = g := ⟨_, rfl⟩
  rw [hgHC] at HC ⊢
  clear hgHC
  go_at_call 13
  (with_reducible refine (at_any A1 c1 bt 0 24 _ (by omega) (by omega) (by omega) (by omega) (by omega) HQt.out H'.out).mono ?_)
  rintro e u0 ⟨⟨d, rfl, hd0, hd1⟩, rfl⟩
  obtain ⟨k, rfl⟩ := Int.eq_ofNat_of_zero_le hd0
  have hk : k ≤ 23 := by omega
  obtain ⟨sa, hsa⟩ : ∃ v, kX x k = v := ⟨_, rfl⟩
  obtain ⟨sb, hsb⟩ : ∃ v, kY x k = v := ⟨_, rfl⟩
  obtain ⟨sc, hsc⟩ : ∃ v, jX x k = v := ⟨_, rfl⟩
  obtain ⟨sd, hsd⟩ : ∃ v, jY x k = v := ⟨_, rfl⟩
  obtain ⟨⟨p1, p2⟩, ⟨b1, b2, b3, b4⟩, r1, r2, m12, dot⟩ := ends_law HDR.out HP.out hk hsa hsb hsc hsd
  have HPa := Lib.hid p1
  have HPc := Lib.hid p2
  clear p1 p2
  have Hsa := Lib.hid hsa
  have Hsb := Lib.hid hsb
  have Hsc := Lib.hid hsc
  have Hsd := Lib.hid hsd
  clear hsa hsb hsc hsd
  obtain ⟨ra, hra⟩ : ∃ v, radN (x.px - sc) (x.py - sd) = v := ⟨_, rfl⟩
  obtain ⟨rb, hrb⟩ : ∃ v, radN (x.px - sa) (x.py - sb) = v := ⟨_, rfl⟩
  rw [hra] at r1
  rw [hrb] at r2
  have Hra := Lib.hid hra
  have Hrb := Lib.hid hrb
  clear hra hrb
  have HPX := Lib.hid (okCr_t HOK.out).1
  have HPO := Lib.hid (show okPl x.px x.py = true by unfold okPl; rw [inI_y HPX.out.1, inI_y HPX.out.2]; rfl)
  have q1 : decide (x.jb + 1 < ra) = false := decide_eq_false (by omega)
  have q2 : decide (ra < x.jb - 3) = false := decide_eq_false (by omega)
  have q3 : decide (x.bk + 1 < rb) = false := decide_eq_false (by omega)
  have q4 : decide (rb < x.bk - 3) = false := decide_eq_false (by omega)
  have q5 := decide_eq_true dot
  obtain ⟨cHC_0, cHC_1, cHC_2, cHC_3, cHC_4, cHC_5, cHC_6⟩ := HC.out
  go_wp2_with fail
  clear cHC_0 cHC_1 cHC_2 cHC_3 cHC_4 cHC_5 cHC_6
  go_at_call 14
  (with_reducible refine (endJ_is x A n c k _ hn8 hlz.out HMS.out HOK.out hk R1.out.si HQ.out Hsc.out Hsd.out).mono ?_)
  rintro e w3 ⟨rfl, hb⟩
  replace H := Lib.hid ((H.out.below hb).more hb.size)
  replace H' := Lib.hid ((H'.out.below hb).more hb.size)
  replace HQ := Lib.hid (HQ.out.late hb)
  replace HB := Lib.hid (gr_then hb HB.out)
  replace HC := Lib.hid (HC.out.late hb)
  replace R1 := Lib.hid (R1.out.late hb)
  clear hb
  have hb : Below w3.heap.size w3 (w3.alloc (.cells #[.int .i64 sc, .int .i64 sd] 28)) := gr_alloc (gr_refl _)
  have BJ := Lib.hid (show BI (w3.alloc (.cells #[.int .i64 sc, .int .i64 sd] 28)) w3.heap.size 28 [sc, sd] from heap_alloc_new _ _)
  replace H := Lib.hid ((H.out.below hb).more hb.size)
  replace H' := Lib.hid ((H'.out.below hb).more hb.size)
  replace HQ := Lib.hid (HQ.out.late hb)
  replace HB := Lib.hid (gr_then hb HB.out)
  replace HC := Lib.hid (HC.out.late hb)
  replace R1 := Lib.hid (R1.out.late hb)
  clear hb
  obtain ⟨cHC_0, cHC_1, cHC_2, cHC_3, cHC_4, cHC_5, cHC_6⟩ := HC.out
  go_wp2_with fail
  clear cHC_0 cHC_1 cHC_2 cHC_3 cHC_4 cHC_5 cHC_6
  generalize w3.alloc (.cells #[.int .i64 sc, .int .i64 sd] 28) = w4 at *
  obtain ⟨gBJ, hgBJ⟩ : ∃ g, w3.heap.size = g := ⟨_, rfl⟩
  rw [hgBJ] at BJ ⊢
  clear hgBJ
  go_at_call 15
  (with_reducible refine (endK_is x A n c k _ hn8 hlz.out HMS.out HOK.out hk R1.out.si HQ.out Hsa.out Hsb.out).mono ?_)
  rintro e w5 ⟨rfl, hb⟩
  replace H := Lib.hid ((H.out.below hb).more hb.size)
  replace H' := Lib.hid ((H'.out.below hb).more hb.size)
  replace HQ := Lib.hid (HQ.out.late hb)
  replace HB := Lib.hid (gr_then hb HB.out)
  replace HC := Lib.hid (HC.out.late hb)
  replace BJ := Lib.hid (BJ.out.late hb)
  replace R1 := Lib.hid (R1.out.late hb)
  clear hb
  have hb : Below w5.heap.size w5 (w5.alloc (.cells #[.int .i64 sa, .int .i64 sb] 28)) := gr_alloc (gr_refl _)
  have BK := Lib.hid (show BI (w5.alloc (.cells #[.int .i64 sa, .int .i64 sb] 28)) w5.heap.size 28 [sa, sb] from heap_alloc_new _ _)
  replace H := Lib.hid ((H.out.below hb).more hb.size)
  replace H' := Lib.hid ((H'.out.below hb).more hb.size)
  replace HQ := Lib.hid (HQ.out.late hb)
  replace HB := Lib.hid (gr_then hb HB.out)
  replace HC := Lib.hid (HC.out.late hb)
  replace BJ := Lib.hid (BJ.out.late hb)
  replace R1 := Lib.hid (R1.out.late hb)
  clear hb
  obtain ⟨cHC_0, cHC_1, cHC_2, cHC_3, cHC_4, cHC_5, cHC_6⟩ := HC.out
  have cBJ_0 := BJ.out.cell 0 (by simp)
  have cBJ_1 := BJ.out.cell 1 (by simp)
  simp only [List.getD_cons_zero, List.getD_cons_succ] at cBJ_0 cBJ_1
  go_wp2_with fail
  clear cHC_0 cHC_1 cHC_2 cHC_3 cHC_4 cHC_5 cHC_6
  clear cBJ_0 cBJ_1
  generalize w5.alloc (.cells #[.int .i64 sa, .int .i64 sb] 28) = w6 at *
  obtain ⟨gBK, hgBK⟩ : ∃ g, w5.heap.size = g := ⟨_, rfl⟩
  rw [hgBK] at BK ⊢
  clear hgBK
  go_at_call 8
  (with_reducible refine (boomOk_any x A n c k _ hn8 hlz.out HMS.out HOK.out hk R1.out.si HQ.out Hsa.out Hsb.out Hsc.out Hsd.out).mono ?_)
  rintro e w7 ⟨rfl, hb⟩
  replace H := Lib.hid ((H.out.below hb).more hb.size)
  replace H' := Lib.hid ((H'.out.below hb).more hb.size)
  replace HQ := Lib.hid (HQ.out.late hb)
  replace HB := Lib.hid (gr_then hb HB.out)
  replace HC := Lib.hid (HC.out.late hb)
  replace BJ := Lib.hid (BJ.out.late hb)
  replace BK := Lib.hid (BK.out.late hb)
  replace R1 := Lib.hid (R1.out.late hb)
  clear hb
  have hb : Below w7.heap.size w7 (w7.alloc (.cells #[.int .i64 sa, .int .i64 sb, .int .i64 sc, .int .i64 sd] 30)) := gr_alloc (gr_refl _)
  have BS := Lib.hid (show BI (w7.alloc (.cells #[.int .i64 sa, .int .i64 sb, .int .i64 sc, .int .i64 sd] 30)) w7.heap.size 30 [sa, sb, sc, sd] from heap_alloc_new _ _)
  replace H := Lib.hid ((H.out.below hb).more hb.size)
  replace H' := Lib.hid ((H'.out.below hb).more hb.size)
  replace HQ := Lib.hid (HQ.out.late hb)
  replace HB := Lib.hid (gr_then hb HB.out)
  replace HC := Lib.hid (HC.out.late hb)
  replace BJ := Lib.hid (BJ.out.late hb)
  replace BK := Lib.hid (BK.out.late hb)
  replace R1 := Lib.hid (R1.out.late hb)
  clear hb
  obtain ⟨cHC_0, cHC_1, cHC_2, cHC_3, cHC_4, cHC_5, cHC_6⟩ := HC.out
  have cBJ_0 := BJ.out.cell 0 (by simp)
  have cBJ_1 := BJ.out.cell 1 (by simp)
  simp only [List.getD_cons_zero, List.getD_cons_succ] at cBJ_0 cBJ_1
  have cBK_0 := BK.out.cell 0 (by simp)
  have cBK_1 := BK.out.cell 1 (by simp)
  simp only [List.getD_cons_zero, List.getD_cons_succ] at cBK_0 cBK_1
  go_wp2_with fail
  clear cHC_0 cHC_1 cHC_2 cHC_3 cHC_4 cHC_5 cHC_6
  clear cBJ_0 cBJ_1
  clear cBK_0 cBK_1
  generalize w7.alloc (.cells #[.int .i64 sa, .int .i64 sb, .int .i64 sc, .int .i64 sd] 30) = w8 at *
  obtain ⟨gBS, hgBS⟩ : ∃ g, w7.heap.size = g := ⟨_, rfl⟩
  rw [hgBS] at BS ⊢
  clear hgBS
  go_at_call 16
  (with_reducible refine (rad_is x.px x.py sc sd _ HPO.out HPc.out Hra.out).mono ?_)
  rintro e w9 ⟨rfl, hb⟩
  replace H := Lib.hid ((H.out.below hb).more hb.size)
  replace H' := Lib.hid ((H'.out.below hb).more hb.size)
  replace HQ := Lib.hid (HQ.out.late hb)
  replace HB := Lib.hid (gr_then hb HB.out)
  replace HC := Lib.hid (HC.out.late hb)
  replace BJ := Lib.hid (BJ.out.late hb)
  replace BK := Lib.hid (BK.out.late hb)
  replace BS := Lib.hid (BS.out.late hb)
  replace R1 := Lib.hid (R1.out.late hb)
  clear hb
  obtain ⟨cHC_0, cHC_1, cHC_2, cHC_3, cHC_4, cHC_5, cHC_6⟩ := HC.out
  have cBJ_0 := BJ.out.cell 0 (by simp)
  have cBJ_1 := BJ.out.cell 1 (by simp)
  simp only [List.getD_cons_zero, List.getD_cons_succ] at cBJ_0 cBJ_1
  have cBK_0 := BK.out.cell 0 (by simp)
  have cBK_1 := BK.out.cell 1 (by simp)
  simp only [List.getD_cons_zero, List.getD_cons_succ] at cBK_0 cBK_1
  have cBS_0 := BS.out.cell 0 (by simp)
  have cBS_1 := BS.out.cell 1 (by simp)
  have cBS_2 := BS.out.cell 2 (by simp)
  have cBS_3 := BS.out.cell 3 (by simp)
  simp only [List.getD_cons_zero, List.getD_cons_succ] at cBS_0 cBS_1 cBS_2 cBS_3
  go_wp2_with fail
  clear cHC_0 cHC_1 cHC_2 cHC_3 cHC_4 cHC_5 cHC_6
  clear cBJ_0 cBJ_1
  clear cBK_0 cBK_1
  clear cBS_0 cBS_1 cBS_2 cBS_3
  go_at_call 16
  (with_reducible refine (rad_is x.px x.py sa sb _ HPO.out HPa.out Hrb.out).mono ?_)
  rintro e w10 ⟨rfl, hb⟩
  replace H := Lib.hid ((H.out.below hb).more hb.size)
  replace H' := Lib.hid ((H'.out.below hb).more hb.size)
  replace HQ := Lib.hid (HQ.out.late hb)
  replace HB := Lib.hid (gr_then hb HB.out)
  replace HC := Lib.hid (HC.out.late hb)
  replace BJ := Lib.hid (BJ.out.late hb)
  replace BK := Lib.hid (BK.out.late hb)
  replace BS := Lib.hid (BS.out.late hb)
  replace R1 := Lib.hid (R1.out.late hb)
  clear hb
  obtain ⟨cHC_0, cHC_1, cHC_2, cHC_3, cHC_4, cHC_5, cHC_6⟩ := HC.out
  have cBJ_0 := BJ.out.cell 0 (by simp)
  have cBJ_1 := BJ.out.cell 1 (by simp)
  simp only [List.getD_cons_zero, List.getD_cons_succ] at cBJ_0 cBJ_1
  have cBK_0 := BK.out.cell 0 (by simp)
  have cBK_1 := BK.out.cell 1 (by simp)
  simp only [List.getD_cons_zero, List.getD_cons_succ] at cBK_0 cBK_1
  have cBS_0 := BS.out.cell 0 (by simp)
  have cBS_1 := BS.out.cell 1 (by simp)
  have cBS_2 := BS.out.cell 2 (by simp)
  have cBS_3 := BS.out.cell 3 (by simp)
  simp only [List.getD_cons_zero, List.getD_cons_succ] at cBS_0 cBS_1 cBS_2 cBS_3
  go_wp2_with fail
  clear cHC_0 cHC_1 cHC_2 cHC_3 cHC_4 cHC_5 cHC_6
  clear cBJ_0 cBJ_1
  clear cBK_0 cBK_1
  clear cBS_0 cBS_1 cBS_2 cBS_3
  go_at_call 17
  (with_reducible refine (loadP0_any x A n c _ hn8 hlz.out HMS.out HOK.out R1.out.si).mono ?_)
  rintro e w11 ⟨rfl, hb⟩
  replace H := Lib.hid ((H.out.below hb).more hb.size)
  replace H' := Lib.hid ((H'.out.below hb).more hb.size)
  replace HQ := Lib.hid (HQ.out.late hb)
  replace HB := Lib.hid (gr_then hb HB.out)
  replace HC := Lib.hid (HC.out.late hb)
  replace BJ := Lib.hid (BJ.out.late hb)
  replace BK := Lib.hid (BK.out.late hb)
  replace BS := Lib.hid (BS.out.late hb)
  replace R1 := Lib.hid (R1.out.late hb)
  clear hb
  obtain ⟨gz, rfl, _, _, hgz, hcz⟩ := R1.out
  have cz := hcz 1 (by rw [hlz.out]; omega)
  rw [show x.zs.getD 1 0 = ldC x.zs 0 from rfl] at cz
  generalize ldC x.zs 0 = ld at *
  clear hcz
  have hdn : decide ((0 : Int) < (n : Int)) = true := decide_eq_true (by omega)
  obtain ⟨cHC_0, cHC_1, cHC_2, cHC_3, cHC_4, cHC_5, cHC_6⟩ := HC.out
  have cBJ_0 := BJ.out.cell 0 (by simp)
  have cBJ_1 := BJ.out.cell 1 (by simp)
  simp only [List.getD_cons_zero, List.getD_cons_succ] at cBJ_0 cBJ_1
  have cBK_0 := BK.out.cell 0 (by simp)
  have cBK_1 := BK.out.cell 1 (by simp)
  simp only [List.getD_cons_zero, List.getD_cons_succ] at cBK_0 cBK_1
  have cBS_0 := BS.out.cell 0 (by simp)
  have cBS_1 := BS.out.cell 1 (by simp)
  have cBS_2 := BS.out.cell 2 (by simp)
  have cBS_3 := BS.out.cell 3 (by simp)
  simp only [List.getD_cons_zero, List.getD_cons_succ] at cBS_0 cBS_1 cBS_2 cBS_3
  go_wp2_with fail
  go_returns
  exact ⟨rfl, HB.out⟩
end Go.Proofs.YtbdhmadgflmhmaaDoor.fnBooms
