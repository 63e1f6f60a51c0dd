/- The walk of the law FnTimes: whatever bytes came in, it returns true. No condition but that the table of vectors holds what the text lays. -/
import Derived.Test.YtoglmeiffidcbaaDoorMt
import Derived.Test.YtoglmeiffidcbaaDoorTmSrc
import Derived.Test.YtoglmeiffidcbaaDoorA2
import Derived.Test.YtoglmeiffidcbaaDoorSlowI
import Derived.Deep.DeepCutAuto
import Derived.BigQuiet
namespace Go.Proofs.YtoglmeiffidcbaaDoor.fnTimes
open Go.RowKit Go.Deep
theorem drawn_ok {x : Cr} {n : Nat} (hd : Drawn 100 700 x n) (hn : okNm x.nm = true) (hb : (-10000 ≤ x.px ∧ x.px ≤ 10000) ∧ (-10000 ≤ x.py ∧ x.py ≤ 10000)) : okCr x n = true := by
  obtain ⟨d1, d2, d3, d4, d5, d6, d7, d8, d9⟩ := hd
  unfold okCr okPl
  rw [hn, inI_y hb.1, inI_y hb.2, inI_y (show (1 : Int) ≤ x.hg ∧ x.hg ≤ 2000 by omega), inI_y (show (1 : Int) ≤ x.jb ∧ x.jb ≤ 1000 by omega), inI_y (show (0 : Int) ≤ x.bk ∧ x.bk ≤ x.jb by omega), d8, decide_eq_true d9]
  rfl
theorem mvOK_any (x : Cr) (A : Option Addr) (n c : Nat) (s t o g a b d e : Int) (w : World) (hn : n ≤ 1048576) (hz : x.zs.length = n * 2) (hk : x.nm.size ≤ 9223372036854775806) (hok : okCr x n = true) (hs : okSp s t o g = true) (hp : okPl a b = true) (hq : okPl d e = true) (h : SI w w.heap.size A x.zs) (hT : Quar w) {V : Int} (hV : mvI s t (a - x.px) (b - x.py) (d - x.px) (e - x.py) = V) : Calls Tryd.prog 13 #[.agg #[.string x.nm, .int .i64 x.px, .int .i64 x.py, .int .i64 x.hg, .int .i64 x.jb, .int .i64 x.bk, .slice A n c], .agg #[.int .i64 s, .int .i64 t, .int .i64 o, .int .i64 g], .agg #[.int .i64 a, .int .i64 b], .agg #[.int .i64 d, .int .i64 e]] w fun r w' => r = .returned (.tuple #[.int .i64 V, .int .i64 0]) ∧ Below w.heap.size w w' := by
  have h9 := implMv_any x A n c s t o g a b d e w hn hz hk h hT
  rw [show mvOk x n s t o g a b d e = true by unfold mvOk; rw [hs, hok, hp, hq]; rfl, show tC true = 0 from rfl, show ∀ v, tV true v = v from fun _ => rfl, hV] at h9
  exact h9
theorem mv_bd {x : Cr} {n : Nat} {s t a b d e : Int} (hok : okCr x n = true) (hs : 1 ≤ s ∧ s ≤ 600) (ht : 1 ≤ t) (hp : okPl a b = true) (hq : okPl d e = true) : 0 ≤ mvI s t (a - x.px) (b - x.py) (d - x.px) (e - x.py) ∧ mvI s t (a - x.px) (b - x.py) (d - x.px) (e - x.py) ≤ 1000000 := by
  have hx : okPl x.px x.py = true := by have h9 := (okCr_t hok).1; unfold okPl; rw [inI_y h9.1, inI_y h9.2]; rfl
  obtain ⟨u1, u2⟩ := okPl_d hx hp
  obtain ⟨u3, u4⟩ := okPl_d hx hq
  have r1 := radN_bd u1 u2
  have r2 := radN_bd u3 u4
  refine ⟨mv_nn ht _ _ _ _, ?_⟩
  have ha := turn_abs (dirN (a - x.px) (b - x.py) : Nat) (dirN (d - x.px) (e - x.py) : Nat)
  have hm := Int.mul_le_mul ha.2 hs.2 (by omega) (by omega)
  have hu := upI_pos (absI_nn (radN (a - x.px) (b - x.py) - radN (d - x.px) (e - x.py))) ht
  have hab : absI (radN (a - x.px) (b - x.py) - radN (d - x.px) (e - x.py)) ≤ 1000000 := by unfold absI; split <;> omega
  unfold mvI
  omega
theorem slow_is (a b c d p : Int) (w : World) {x1 x2 x3 x4 E : Int} (h1 : slV (slowOk (okSp a b c d) a b c d p) (slowA a p) = x1) (h2 : slV (slowOk (okSp a b c d) a b c d p) (slowB b p) = x2) (h3 : slV (slowOk (okSp a b c d) a b c d p) (slowB c p) = x3) (h4 : slV (slowOk (okSp a b c d) a b c d p) (slowA d p) = x4) (hE : slowE (okSp a b c d) a b c d p = E) : Calls Tryd.prog 19 #[.agg #[.int .i64 a, .int .i64 b, .int .i64 c, .int .i64 d], .int .i64 p] w fun e w' => e = .returned (.tuple #[.agg #[.int .i64 x1, .int .i64 x2, .int .i64 x3, .int .i64 x4], .int .i64 E]) ∧ Below w.heap.size w w' := by subst h1; subst h2; subst h3; subst h4; subst hE; exact implSlow_any a b c d p w
theorem slow_law {a b c d p x1 x2 x3 x4 E : Int} (hs : okSp a b c d = true) (hp : 100 ≤ p ∧ p ≤ 1000) (h1 : slV (slowOk (okSp a b c d) a b c d p) (slowA a p) = x1) (h2 : slV (slowOk (okSp a b c d) a b c d p) (slowB b p) = x2) (h3 : slV (slowOk (okSp a b c d) a b c d p) (slowB c p) = x3) (h4 : slV (slowOk (okSp a b c d) a b c d p) (slowA d p) = x4) (hE : slowE (okSp a b c d) a b c d p = E) : (E = 0 ∧ okSp x1 x2 x3 x4 = true ∧ a ≤ x1 ∧ x2 ≤ b ∧ x3 ≤ c) ∨ E = 5 := by
  obtain ⟨b1, b2, b3, b4, b5, b6, b7, b8⟩ := okSp_t hs
  unfold slowE at hE
  rw [if_pos hs, if_pos (inI_y hp)] at hE
  by_cases hk : okSp (slowA a p) (slowB b p) (slowB c p) (slowA d p) = true
  · rw [if_pos hk] at hE
    have hG : slowOk (okSp a b c d) a b c d p = true := by unfold slowOk; rw [hs, inI_y hp, hk]; rfl
    rw [hG] at h1 h2 h3 h4
    have e : ∀ v, slV true v = v := fun _ => rfl
    rw [e] at h1 h2 h3 h4
    subst h1; subst h2; subst h3; subst h4
    exact .inl ⟨hE.symm, hk, slowA_ge b1 hp.1, slowB_le b3 hp.1, slowB_le b5 hp.1⟩
  · rw [if_neg hk] at hE
    exact .inr hE.symm
theorem hoist_is (a b c d : Int) (w : World) (hs : okSp a b c d = true) {V : Int} (hV : upI 100 c = V) : Calls Tryd.prog 22 #[.agg #[.int .i64 a, .int .i64 b, .int .i64 c, .int .i64 d], .int .i64 100] w fun e w' => e = .returned (.tuple #[.int .i64 V, .int .i64 0]) ∧ Below w.heap.size w w' := by
  have h9 := implHoist_any a b c d 100 w (by omega)
  rw [show hoistN (okSp a b c d) c 100 = V by rw [← hV]; exact if_pos ⟨hs, by omega⟩, show hoistE (okSp a b c d) 100 = 0 from (if_pos hs).trans (if_pos (by omega))] at h9
  exact h9
theorem slew_is (a b c d x y : Int) (w : World) (hs : okSp a b c d = true) (hx : 0 ≤ x ∧ x ≤ 23) (hy : 0 ≤ y ∧ y ≤ 23) {V : Int} (hV : absI (turnI x y) * a = V) : Calls Tryd.prog 23 #[.agg #[.int .i64 a, .int .i64 b, .int .i64 c, .int .i64 d], .int .i64 x, .int .i64 y] w fun e w' => e = .returned (.tuple #[.int .i64 V, .int .i64 0]) ∧ Below w.heap.size w w' := by
  have h9 := implSlew_any a b c d x y w (by omega) (by omega)
  rw [show slewN (okSp a b c d) a x y = V by rw [← hV]; exact if_pos ⟨hs, by omega⟩, show slewE (okSp a b c d) x y = 0 from (if_pos hs).trans (if_pos (by omega))] at h9
  exact h9
theorem trol_is (a b c d x y : Int) (w : World) (hs : okSp a b c d = true) (hx : 0 ≤ x ∧ x ≤ 199) (hy : 0 ≤ y ∧ y ≤ 199) {V : Int} (hV : upI (absI (y - x)) b = V) : Calls Tryd.prog 24 #[.agg #[.int .i64 a, .int .i64 b, .int .i64 c, .int .i64 d], .int .i64 x, .int .i64 y] w fun e w' => e = .returned (.tuple #[.int .i64 V, .int .i64 0]) ∧ Below w.heap.size w w' := by
  have h9 := implTrolley_any a b c d x y w (by omega) (by omega)
  rw [show trolN (okSp a b c d) b x y = V by rw [← hV]; exact if_pos ⟨hs, by omega⟩, show trolE (okSp a b c d) x y = 0 from (if_pos hs).trans (if_pos (by omega))] at h9
  exact h9
theorem specVS_any (a b c d : Int) (w : World) (hs : okSp a b c d = true) : Calls Tryd.prog 21 #[.agg #[.int .i64 a, .int .i64 b, .int .i64 c, .int .i64 d]] w fun e w' => e = .returned (.bool true) ∧ Below w.heap.size w w' := by
  have HK := Lib.hid hs
  clear hs
  have HB := Lib.hid (show Below w.heap.size w (w.alloc (.cells #[.int .i64 a, .int .i64 b, .int .i64 c, .int .i64 d] 40)) from gr_alloc (gr_refl _))
  go_enter Tryd.func21, Tryd.ntmps21
  go_wp2_with fail
  go_at_call 32
  (with_reducible refine (l10Ok_is HK.out _).mono ?_)
  rintro e w1 ⟨rfl, hb⟩
  have HB1 := Lib.hid (gr_then hb HB.out)
  clear hb
  go_wp2
  go_returns
  exact ⟨rfl, HB1.out⟩
theorem late {W W1 : World} {g : Nat} {ob : Obj} (h : W.heap[g]? = some ob) (hb : Below W.heap.size W W1) : W1.heap[g]? = some ob := (hb.block g (lt_of_block h)).trans h
theorem heap_drew_new (w : World) (ob : Obj) : ((w.alloc ob).drew).heap[w.heap.size]? = some ob := heap_alloc_new w ob
theorem four_cells {w : World} {g t : Nat} {a b c d : Int} (h : w.heap[g]? = some (.cells #[.int .i64 a, .int .i64 b, .int .i64 c, .int .i64 d] t (0, 0))) : g < w.heap.size ∧ (w.cell? ⟨g, 0, none⟩ = some (.int .i64 a) ∧ w.cell? ⟨g, 1, none⟩ = some (.int .i64 b) ∧ w.cell? ⟨g, 2, none⟩ = some (.int .i64 c) ∧ w.cell? ⟨g, 3, none⟩ = some (.int .i64 d)) ∧ w.frozen? ⟨g, 0, none⟩ = false ∧ w.frozen? ⟨g, 1, none⟩ = false ∧ w.frozen? ⟨g, 2, none⟩ = false ∧ w.frozen? ⟨g, 3, none⟩ = false := by
  have hB : BI w g t [a, b, c, d] := h
  exact ⟨hB.lt, ⟨hB.cell 0 (by simp), hB.cell 1 (by simp), hB.cell 2 (by simp), hB.cell 3 (by simp)⟩, hB.free 0, hB.free 1, hB.free 2, hB.free 3⟩
theorem put4 {w : World} {g t : Nat} {a b c d : Int} (h : w.heap[g]? = some (.cells #[.int .i64 a, .int .i64 b, .int .i64 c, .int .i64 d] t (0, 0))) (x0 x1 x2 x3 : Int) : ((((w.setCell ⟨g, 0, none⟩ (.int .i64 x0)).setCell ⟨g, 1, none⟩ (.int .i64 x1)).setCell ⟨g, 2, none⟩ (.int .i64 x2)).setCell ⟨g, 3, none⟩ (.int .i64 x3)).heap[g]? = some (.cells #[.int .i64 x0, .int .i64 x1, .int .i64 x2, .int .i64 x3] t (0, 0)) := BI.put_4 (show BI w g t [a, b, c, d] from h) x0 x1 x2 x3
set_option maxHeartbeats 64000000 in
set_option maxRecDepth 20000 in
theorem walk (A0 : Option Addr) (n0 c0 : Nat) (bs : List Int) (A1 : Option Addr) (n1 c1 : Nat) (bt : List Int) (w : World) (h : n0 ≤ 9223372036854775807 ∧ bs.length = n0 ∧ (∀ x ∈ bs, U8 x) ∧ SV (.int .u8) w w.heap.size A0 bs) (h' : n1 ≤ 9223372036854775807 ∧ bt.length = n1 ∧ (∀ x ∈ bt, U8 x) ∧ SV (.int .u8) w w.heap.size A1 bt) (hQ : Quar w) :
    Calls Tryd.prog 5 #[.slice A0 n0 c0, .slice A1 n1 c1] w fun e w' => e = .returned (.bool true) ∧ Below w.heap.size w w' := by
  obtain ⟨hn, hl, hq, hs⟩ := h
  obtain ⟨hn', hl', hq', hs'⟩ := h'
  obtain rfl : n0 = bs.length := hl.symm
  obtain rfl : n1 = bt.length := hl'.symm
  have H := Lib.hid hs
  have HQb := Lib.hid hq
  have H' := Lib.hid hs'
  have HQt := Lib.hid hq'
  have HQ := Lib.hid hQ
  have HB := Lib.hid (gr_refl w)
  clear hs hq hl hs' hq' hl' hQ
  go_enter Tryd.func5, Tryd.ntmps5
  go_wp2_with fail
  obtain ⟨q, hq⟩ : ∃ q, lngB bs.length bt.length = q := ⟨_, rfl⟩
  go_at_call 15
  (with_reducible refine (long_any A0 A1 bs.length bt.length c0 c1 _).mono ?_)
  rw [hq]
  rintro e w0 ⟨rfl, rfl⟩
  cases q
  case true => go_wp2; go_returns; exact ⟨rfl, HB.out⟩
  have hlen := lngB_f hq
  clear hq
  go_wp2_with fail
  go_at_call 16
  (with_reducible refine (cranes_any A0 c0 bs _ (by omega) HQb.out H.out).mono ?_)
  rintro e w1 ⟨x, y, A, A', n, c, n', c', rfl, hnm, hp, hd1, hd2, hc1, hc2, hb⟩
  have hlz := Lib.hid hd1.2.2.2.2.2.2.1
  have hn9 : n ≤ 20 := (okCh_t hd1.2.2.2.2.2.2.2.1).2.2
  have HOK := Lib.hid (drawn_ok hd1 (by rw [hnm.1]; decide) (by omega))
  have HMS := Lib.hid (show x.nm.size ≤ 9223372036854775806 by rw [hnm.1]; decide)
  have R1 := Lib.hid hc1
  clear hnm hp hd1 hd2 hc1 hc2
  replace H := Lib.hid ((H.out.below hb).more hb.size)
  replace H' := Lib.hid ((H'.out.below hb).more hb.size)
  replace HQ := Lib.hid (HQ.out.late hb)
  replace HB := Lib.hid (gr_then hb HB.out)
  clear hb
  have hn8 : n ≤ 1048576 := by omega
  have hb : Below w1.heap.size w1 ((w1.alloc (.cells #[.string x.nm, .int .i64 x.px, .int .i64 x.py, .int .i64 x.hg, .int .i64 x.jb, .int .i64 x.bk, .slice A n c] 38)).alloc (.cells #[.string y.nm, .int .i64 y.px, .int .i64 y.py, .int .i64 y.hg, .int .i64 y.jb, .int .i64 y.bk, .slice A' n' c'] 38)) := gr_alloc (gr_alloc (gr_refl _))
  have HC := Lib.hid ((Cc.box w1 38 x A n c).late (show Below (w1.alloc (.cells #[.string x.nm, .int .i64 x.px, .int .i64 x.py, .int .i64 x.hg, .int .i64 x.jb, .int .i64 x.bk, .slice A n c] 38)).heap.size (w1.alloc (.cells #[.string x.nm, .int .i64 x.px, .int .i64 x.py, .int .i64 x.hg, .int .i64 x.jb, .int .i64 x.bk, .slice A n c] 38)) ((w1.alloc (.cells #[.string x.nm, .int .i64 x.px, .int .i64 x.py, .int .i64 x.hg, .int .i64 x.jb, .int .i64 x.bk, .slice A n c] 38)).alloc (.cells #[.string y.nm, .int .i64 y.px, .int .i64 y.py, .int .i64 y.hg, .int .i64 y.jb, .int .i64 y.bk, .slice A' n' c'] 38)) from gr_alloc (gr_refl _)))
  replace H := Lib.hid ((H.out.below hb).more hb.size)
  replace H' := Lib.hid ((H'.out.below hb).more hb.size)
  replace HQ := Lib.hid (HQ.out.late hb)
  replace HB := Lib.hid (gr_then hb HB.out)
  replace R1 := Lib.hid (R1.out.late hb)
  clear hb
  go_wp2_with fail
  generalize (w1.alloc (.cells #[.string x.nm, .int .i64 x.px, .int .i64 x.py, .int .i64 x.hg, .int .i64 x.jb, .int .i64 x.bk, .slice A n c] 38)).alloc (.cells #[.string y.nm, .int .i64 y.px, .int .i64 y.py, .int .i64 y.hg, .int .i64 y.jb, .int .i64 y.bk, .slice A' n' c'] 38) = w2 at *
  obtain ⟨gHC, hgHC⟩ : ∃ g, w1.heap.size = g := ⟨_, rfl⟩
  rw [hgHC] at HC ⊢
  clear hgHC
  go_at_call 17
  (with_reducible refine (speeds_any A1 c1 bt _ (by omega) HQt.out H'.out).mono ?_)
  rintro e w3 ⟨s, t, o, g, rfl, hsp, hb⟩
  have HSP := Lib.hid hsp
  have hsb := okSp_t hsp
  clear hsp
  replace H := Lib.hid ((H.out.below hb).more hb.size)
  replace H' := Lib.hid ((H'.out.below hb).more hb.size)
  replace HQ := Lib.hid (HQ.out.late hb)
  replace HB := Lib.hid (gr_then hb HB.out)
  replace HC := Lib.hid (HC.out.late hb)
  replace R1 := Lib.hid (R1.out.late hb)
  clear hb
  have hb : Below w3.heap.size w3 (w3.alloc (.cells #[.int .i64 s, .int .i64 t, .int .i64 o, .int .i64 g] 40)) := gr_alloc (gr_refl _)
  have BV := Lib.hid (show BI (w3.alloc (.cells #[.int .i64 s, .int .i64 t, .int .i64 o, .int .i64 g] 40)) w3.heap.size 40 [s, t, o, g] from heap_alloc_new _ _)
  replace H := Lib.hid ((H.out.below hb).more hb.size)
  replace H' := Lib.hid ((H'.out.below hb).more hb.size)
  replace HQ := Lib.hid (HQ.out.late hb)
  replace HB := Lib.hid (gr_then hb HB.out)
  replace HC := Lib.hid (HC.out.late hb)
  replace R1 := Lib.hid (R1.out.late hb)
  clear hb
  go_wp2_with fail
  generalize w3.alloc (.cells #[.int .i64 s, .int .i64 t, .int .i64 o, .int .i64 g] 40) = w4 at *
  obtain ⟨gBV, hgBV⟩ : ∃ g, w3.heap.size = g := ⟨_, rfl⟩
  rw [hgBV] at BV ⊢
  clear hgBV
  go_at_call 18
  (with_reducible refine (places_any A1 c1 bt _ (by omega) HQt.out H'.out).mono ?_)
  rintro e w5 ⟨pa, pb, qa, qb, ra, rb, rfl, hpp, hb⟩
  have KP := Lib.hid hpp.1
  have KQ := Lib.hid hpp.2.1
  have KR := Lib.hid hpp.2.2
  clear hpp
  replace H := Lib.hid ((H.out.below hb).more hb.size)
  replace H' := Lib.hid ((H'.out.below hb).more hb.size)
  replace HQ := Lib.hid (HQ.out.late hb)
  replace HB := Lib.hid (gr_then hb HB.out)
  replace HC := Lib.hid (HC.out.late hb)
  replace BV := Lib.hid (BV.out.late hb)
  replace R1 := Lib.hid (R1.out.late hb)
  clear hb
  have hb : Below w5.heap.size w5 (((w5.alloc (.cells #[.int .i64 pa, .int .i64 pb] 35)).alloc (.cells #[.int .i64 qa, .int .i64 qb] 35)).alloc (.cells #[.int .i64 ra, .int .i64 rb] 35)) := gr_alloc (gr_alloc (gr_alloc (gr_refl _)))
  have BP := Lib.hid (BI.late (show BI (w5.alloc (.cells #[.int .i64 pa, .int .i64 pb] 35)) (w5.heap.size) 35 [pa, pb] from by have h := heap_alloc_new (w5) (.cells #[.int .i64 pa, .int .i64 pb] 35); (try simp only [World.size_alloc] at h); exact h) (show Below (w5.alloc (.cells #[.int .i64 pa, .int .i64 pb] 35)).heap.size (w5.alloc (.cells #[.int .i64 pa, .int .i64 pb] 35)) (((w5.alloc (.cells #[.int .i64 pa, .int .i64 pb] 35)).alloc (.cells #[.int .i64 qa, .int .i64 qb] 35)).alloc (.cells #[.int .i64 ra, .int .i64 rb] 35)) from gr_alloc (gr_alloc (gr_refl _))))
  have BQ := Lib.hid (BI.late (show BI ((w5.alloc (.cells #[.int .i64 pa, .int .i64 pb] 35)).alloc (.cells #[.int .i64 qa, .int .i64 qb] 35)) (w5.heap.size + 1) 35 [qa, qb] from by have h := heap_alloc_new (w5.alloc (.cells #[.int .i64 pa, .int .i64 pb] 35)) (.cells #[.int .i64 qa, .int .i64 qb] 35); (try simp only [World.size_alloc] at h); exact h) (show Below ((w5.alloc (.cells #[.int .i64 pa, .int .i64 pb] 35)).alloc (.cells #[.int .i64 qa, .int .i64 qb] 35)).heap.size ((w5.alloc (.cells #[.int .i64 pa, .int .i64 pb] 35)).alloc (.cells #[.int .i64 qa, .int .i64 qb] 35)) (((w5.alloc (.cells #[.int .i64 pa, .int .i64 pb] 35)).alloc (.cells #[.int .i64 qa, .int .i64 qb] 35)).alloc (.cells #[.int .i64 ra, .int .i64 rb] 35)) from gr_alloc (gr_refl _)))
  have BR := Lib.hid (BI.late (show BI (((w5.alloc (.cells #[.int .i64 pa, .int .i64 pb] 35)).alloc (.cells #[.int .i64 qa, .int .i64 qb] 35)).alloc (.cells #[.int .i64 ra, .int .i64 rb] 35)) (w5.heap.size + 1 + 1) 35 [ra, rb] from by have h := heap_alloc_new ((w5.alloc (.cells #[.int .i64 pa, .int .i64 pb] 35)).alloc (.cells #[.int .i64 qa, .int .i64 qb] 35)) (.cells #[.int .i64 ra, .int .i64 rb] 35); (try simp only [World.size_alloc] at h); exact h) (show Below (((w5.alloc (.cells #[.int .i64 pa, .int .i64 pb] 35)).alloc (.cells #[.int .i64 qa, .int .i64 qb] 35)).alloc (.cells #[.int .i64 ra, .int .i64 rb] 35)).heap.size (((w5.alloc (.cells #[.int .i64 pa, .int .i64 pb] 35)).alloc (.cells #[.int .i64 qa, .int .i64 qb] 35)).alloc (.cells #[.int .i64 ra, .int .i64 rb] 35)) (((w5.alloc (.cells #[.int .i64 pa, .int .i64 pb] 35)).alloc (.cells #[.int .i64 qa, .int .i64 qb] 35)).alloc (.cells #[.int .i64 ra, .int .i64 rb] 35)) from gr_refl _))
  replace H := Lib.hid ((H.out.below hb).more hb.size)
  replace H' := Lib.hid ((H'.out.below hb).more hb.size)
  replace HQ := Lib.hid (HQ.out.late hb)
  replace HB := Lib.hid (gr_then hb HB.out)
  replace HC := Lib.hid (HC.out.late hb)
  replace BV := Lib.hid (BV.out.late hb)
  replace R1 := Lib.hid (R1.out.late hb)
  clear hb
  obtain ⟨V1, hV1⟩ : ∃ q, mvI s t (pa - x.px) (pb - x.py) (qa - x.px) (qb - x.py) = q := ⟨_, rfl⟩
  obtain ⟨V3, hV3⟩ : ∃ q, mvI s t (qa - x.px) (qb - x.py) (ra - x.px) (rb - x.py) = q := ⟨_, rfl⟩
  obtain ⟨V4, hV4⟩ : ∃ q, mvI s t (pa - x.px) (pb - x.py) (ra - x.px) (rb - x.py) = q := ⟨_, rfl⟩
  have HV2 := Lib.hid (show mvI s t (qa - x.px) (qb - x.py) (pa - x.px) (pb - x.py) = V1 by rw [← hV1]; exact mv_sym _ _ _ _ _ _)
  have y1 := mv_bd HOK.out ⟨hsb.1, hsb.2.1⟩ hsb.2.2.1 KP.out KQ.out
  have y3 := mv_bd HOK.out ⟨hsb.1, hsb.2.1⟩ hsb.2.2.1 KQ.out KR.out
  have y4 := mv_bd HOK.out ⟨hsb.1, hsb.2.1⟩ hsb.2.2.1 KP.out KR.out
  rw [hV1] at y1
  rw [hV3] at y3
  rw [hV4] at y4
  have ytri : V4 ≤ V1 + V3 := by rw [← hV1, ← hV3, ← hV4]; exact mv_tri hsb.1 hsb.2.2.1 _ _ _ _ _ _
  have HV1 := Lib.hid hV1
  have HV3 := Lib.hid hV3
  have HV4 := Lib.hid hV4
  clear hV1 hV3 hV4
  obtain ⟨K1, hK1⟩ : ∃ q, atV bs 0 200 = q := ⟨_, rfl⟩
  have hk1 := atV_bd bs 0 (m := 200) (by omega)
  rw [hK1] at hk1
  have HK1 := Lib.hid hK1
  clear hK1
  obtain ⟨s2, hs2⟩ : ∃ q, slV (slowOk (okSp s t o g) s t o g (100 + K1)) (slowA s (100 + K1)) = q := ⟨_, rfl⟩
  obtain ⟨t2, ht2⟩ : ∃ q, slV (slowOk (okSp s t o g) s t o g (100 + K1)) (slowB t (100 + K1)) = q := ⟨_, rfl⟩
  obtain ⟨o2, ho2⟩ : ∃ q, slV (slowOk (okSp s t o g) s t o g (100 + K1)) (slowB o (100 + K1)) = q := ⟨_, rfl⟩
  obtain ⟨g2, hg2⟩ : ∃ q, slV (slowOk (okSp s t o g) s t o g (100 + K1)) (slowA g (100 + K1)) = q := ⟨_, rfl⟩
  obtain ⟨E, hE⟩ : ∃ q, slowE (okSp s t o g) s t o g (100 + K1) = q := ⟨_, rfl⟩
  have hcase := slow_law HSP.out (show 100 ≤ 100 + K1 ∧ 100 + K1 ≤ 1000 by omega) hs2 ht2 ho2 hg2 hE
  have Hs2 := Lib.hid hs2
  have Ht2 := Lib.hid ht2
  have Ho2 := Lib.hid ho2
  have Hg2 := Lib.hid hg2
  have HE := Lib.hid hE
  clear hs2 ht2 ho2 hg2 hE
  have HCASE := Lib.hid hcase
  clear hcase
  obtain ⟨cHC_0, cHC_1, cHC_2, cHC_3, cHC_4, cHC_5, cHC_6⟩ := HC.out
  have cBV_0 := BV.out.cell 0 (by simp)
  have cBV_1 := BV.out.cell 1 (by simp)
  have cBV_2 := BV.out.cell 2 (by simp)
  have cBV_3 := BV.out.cell 3 (by simp)
  simp only [List.getD_cons_zero, List.getD_cons_succ] at cBV_0 cBV_1 cBV_2 cBV_3
  have cBP_0 := BP.out.cell 0 (by simp)
  have cBP_1 := BP.out.cell 1 (by simp)
  simp only [List.getD_cons_zero, List.getD_cons_succ] at cBP_0 cBP_1
  have cBQ_0 := BQ.out.cell 0 (by simp)
  have cBQ_1 := BQ.out.cell 1 (by simp)
  simp only [List.getD_cons_zero, List.getD_cons_succ] at cBQ_0 cBQ_1
  have cBR_0 := BR.out.cell 0 (by simp)
  have cBR_1 := BR.out.cell 1 (by simp)
  simp only [List.getD_cons_zero, List.getD_cons_succ] at cBR_0 cBR_1
  go_wp2_with fail
  clear cHC_0 cHC_1 cHC_2 cHC_3 cHC_4 cHC_5 cHC_6
  clear cBV_0 cBV_1 cBV_2 cBV_3
  clear cBP_0 cBP_1
  clear cBQ_0 cBQ_1
  clear cBR_0 cBR_1
  generalize ((w5.alloc (.cells #[.int .i64 pa, .int .i64 pb] 35)).alloc (.cells #[.int .i64 qa, .int .i64 qb] 35)).alloc (.cells #[.int .i64 ra, .int .i64 rb] 35) = w6 at *
  obtain ⟨gP, hgP⟩ : ∃ g, w5.heap.size = g := ⟨_, rfl⟩
  rw [hgP] at BP BQ BR ⊢
  clear hgP
  go_at_call 13
  (with_reducible refine (mvOK_any x A n c s t o g pa pb qa qb _ hn8 hlz.out HMS.out HOK.out HSP.out KP.out KQ.out R1.out.si HQ.out HV1.out).mono ?_)
  rintro e w7 ⟨rfl, hb⟩
  replace H := Lib.hid ((H.out.below hb).more hb.size)
  replace H' := Lib.hid ((H'.out.below hb).more hb.size)
  replace HQ := Lib.hid (HQ.out.late hb)
  replace HB := Lib.hid (gr_then hb HB.out)
  replace HC := Lib.hid (HC.out.late hb)
  replace BV := Lib.hid (BV.out.late hb)
  replace BP := Lib.hid (BP.out.late hb)
  replace BQ := Lib.hid (BQ.out.late hb)
  replace BR := Lib.hid (BR.out.late hb)
  replace R1 := Lib.hid (R1.out.late hb)
  clear hb
  obtain ⟨cHC_0, cHC_1, cHC_2, cHC_3, cHC_4, cHC_5, cHC_6⟩ := HC.out
  have cBV_0 := BV.out.cell 0 (by simp)
  have cBV_1 := BV.out.cell 1 (by simp)
  have cBV_2 := BV.out.cell 2 (by simp)
  have cBV_3 := BV.out.cell 3 (by simp)
  simp only [List.getD_cons_zero, List.getD_cons_succ] at cBV_0 cBV_1 cBV_2 cBV_3
  have cBP_0 := BP.out.cell 0 (by simp)
  have cBP_1 := BP.out.cell 1 (by simp)
  simp only [List.getD_cons_zero, List.getD_cons_succ] at cBP_0 cBP_1
  have cBQ_0 := BQ.out.cell 0 (by simp)
  have cBQ_1 := BQ.out.cell 1 (by simp)
  simp only [List.getD_cons_zero, List.getD_cons_succ] at cBQ_0 cBQ_1
  have cBR_0 := BR.out.cell 0 (by simp)
  have cBR_1 := BR.out.cell 1 (by simp)
  simp only [List.getD_cons_zero, List.getD_cons_succ] at cBR_0 cBR_1
  go_wp2_with fail
  clear cHC_0 cHC_1 cHC_2 cHC_3 cHC_4 cHC_5 cHC_6
  clear cBV_0 cBV_1 cBV_2 cBV_3
  clear cBP_0 cBP_1
  clear cBQ_0 cBQ_1
  clear cBR_0 cBR_1
  go_at_call 13
  (with_reducible refine (mvOK_any x A n c s t o g qa qb pa pb _ hn8 hlz.out HMS.out HOK.out HSP.out KQ.out KP.out R1.out.si HQ.out HV2.out).mono ?_)
  rintro e w8 ⟨rfl, hb⟩
  replace H := Lib.hid ((H.out.below hb).more hb.size)
  replace H' := Lib.hid ((H'.out.below hb).more hb.size)
  replace HQ := Lib.hid (HQ.out.late hb)
  replace HB := Lib.hid (gr_then hb HB.out)
  replace HC := Lib.hid (HC.out.late hb)
  replace BV := Lib.hid (BV.out.late hb)
  replace BP := Lib.hid (BP.out.late hb)
  replace BQ := Lib.hid (BQ.out.late hb)
  replace BR := Lib.hid (BR.out.late hb)
  replace R1 := Lib.hid (R1.out.late hb)
  clear hb
  obtain ⟨cHC_0, cHC_1, cHC_2, cHC_3, cHC_4, cHC_5, cHC_6⟩ := HC.out
  have cBV_0 := BV.out.cell 0 (by simp)
  have cBV_1 := BV.out.cell 1 (by simp)
  have cBV_2 := BV.out.cell 2 (by simp)
  have cBV_3 := BV.out.cell 3 (by simp)
  simp only [List.getD_cons_zero, List.getD_cons_succ] at cBV_0 cBV_1 cBV_2 cBV_3
  have cBP_0 := BP.out.cell 0 (by simp)
  have cBP_1 := BP.out.cell 1 (by simp)
  simp only [List.getD_cons_zero, List.getD_cons_succ] at cBP_0 cBP_1
  have cBQ_0 := BQ.out.cell 0 (by simp)
  have cBQ_1 := BQ.out.cell 1 (by simp)
  simp only [List.getD_cons_zero, List.getD_cons_succ] at cBQ_0 cBQ_1
  have cBR_0 := BR.out.cell 0 (by simp)
  have cBR_1 := BR.out.cell 1 (by simp)
  simp only [List.getD_cons_zero, List.getD_cons_succ] at cBR_0 cBR_1
  go_wp2_with fail
  clear cHC_0 cHC_1 cHC_2 cHC_3 cHC_4 cHC_5 cHC_6
  clear cBV_0 cBV_1 cBV_2 cBV_3
  clear cBP_0 cBP_1
  clear cBQ_0 cBQ_1
  clear cBR_0 cBR_1
  go_at_call 13
  (with_reducible refine (mvOK_any x A n c s t o g qa qb ra rb _ hn8 hlz.out HMS.out HOK.out HSP.out KQ.out KR.out R1.out.si HQ.out HV3.out).mono ?_)
  rintro e w9 ⟨rfl, hb⟩
  replace H := Lib.hid ((H.out.below hb).more hb.size)
  replace H' := Lib.hid ((H'.out.below hb).more hb.size)
  replace HQ := Lib.hid (HQ.out.late hb)
  replace HB := Lib.hid (gr_then hb HB.out)
  replace HC := Lib.hid (HC.out.late hb)
  replace BV := Lib.hid (BV.out.late hb)
  replace BP := Lib.hid (BP.out.late hb)
  replace BQ := Lib.hid (BQ.out.late hb)
  replace BR := Lib.hid (BR.out.late hb)
  replace R1 := Lib.hid (R1.out.late hb)
  clear hb
  obtain ⟨cHC_0, cHC_1, cHC_2, cHC_3, cHC_4, cHC_5, cHC_6⟩ := HC.out
  have cBV_0 := BV.out.cell 0 (by simp)
  have cBV_1 := BV.out.cell 1 (by simp)
  have cBV_2 := BV.out.cell 2 (by simp)
  have cBV_3 := BV.out.cell 3 (by simp)
  simp only [List.getD_cons_zero, List.getD_cons_succ] at cBV_0 cBV_1 cBV_2 cBV_3
  have cBP_0 := BP.out.cell 0 (by simp)
  have cBP_1 := BP.out.cell 1 (by simp)
  simp only [List.getD_cons_zero, List.getD_cons_succ] at cBP_0 cBP_1
  have cBQ_0 := BQ.out.cell 0 (by simp)
  have cBQ_1 := BQ.out.cell 1 (by simp)
  simp only [List.getD_cons_zero, List.getD_cons_succ] at cBQ_0 cBQ_1
  have cBR_0 := BR.out.cell 0 (by simp)
  have cBR_1 := BR.out.cell 1 (by simp)
  simp only [List.getD_cons_zero, List.getD_cons_succ] at cBR_0 cBR_1
  go_wp2_with fail
  clear cHC_0 cHC_1 cHC_2 cHC_3 cHC_4 cHC_5 cHC_6
  clear cBV_0 cBV_1 cBV_2 cBV_3
  clear cBP_0 cBP_1
  clear cBQ_0 cBQ_1
  clear cBR_0 cBR_1
  go_at_call 13
  (with_reducible refine (mvOK_any x A n c s t o g pa pb ra rb _ hn8 hlz.out HMS.out HOK.out HSP.out KP.out KR.out R1.out.si HQ.out HV4.out).mono ?_)
  rintro e w10 ⟨rfl, hb⟩
  replace H := Lib.hid ((H.out.below hb).more hb.size)
  replace H' := Lib.hid ((H'.out.below hb).more hb.size)
  replace HQ := Lib.hid (HQ.out.late hb)
  replace HB := Lib.hid (gr_then hb HB.out)
  replace HC := Lib.hid (HC.out.late hb)
  replace BV := Lib.hid (BV.out.late hb)
  replace BP := Lib.hid (BP.out.late hb)
  replace BQ := Lib.hid (BQ.out.late hb)
  replace BR := Lib.hid (BR.out.late hb)
  replace R1 := Lib.hid (R1.out.late hb)
  clear hb
  have hw : IntKind.i64.wrap (100 + K1) = 100 + K1 := IntWalk.i64_in _ (by omega)
  obtain ⟨cHC_0, cHC_1, cHC_2, cHC_3, cHC_4, cHC_5, cHC_6⟩ := HC.out
  have cBV_0 := BV.out.cell 0 (by simp)
  have cBV_1 := BV.out.cell 1 (by simp)
  have cBV_2 := BV.out.cell 2 (by simp)
  have cBV_3 := BV.out.cell 3 (by simp)
  simp only [List.getD_cons_zero, List.getD_cons_succ] at cBV_0 cBV_1 cBV_2 cBV_3
  have cBP_0 := BP.out.cell 0 (by simp)
  have cBP_1 := BP.out.cell 1 (by simp)
  simp only [List.getD_cons_zero, List.getD_cons_succ] at cBP_0 cBP_1
  have cBQ_0 := BQ.out.cell 0 (by simp)
  have cBQ_1 := BQ.out.cell 1 (by simp)
  simp only [List.getD_cons_zero, List.getD_cons_succ] at cBQ_0 cBQ_1
  have cBR_0 := BR.out.cell 0 (by simp)
  have cBR_1 := BR.out.cell 1 (by simp)
  simp only [List.getD_cons_zero, List.getD_cons_succ] at cBR_0 cBR_1
  go_wp2_with fail
  clear cHC_0 cHC_1 cHC_2 cHC_3 cHC_4 cHC_5 cHC_6
  clear cBV_0 cBV_1 cBV_2 cBV_3
  clear cBP_0 cBP_1
  clear cBQ_0 cBQ_1
  clear cBR_0 cBR_1
  have cBV_0 := BV.out.cell 0 (by simp)
  have cBV_1 := BV.out.cell 1 (by simp)
  have cBV_2 := BV.out.cell 2 (by simp)
  have cBV_3 := BV.out.cell 3 (by simp)
  simp only [List.getD_cons_zero, List.getD_cons_succ] at cBV_0 cBV_1 cBV_2 cBV_3
  go_cut [19, 20] (fun p19 e20 wx => ∃ gg, p19 = .pointer (some ⟨gg, 0, none⟩) ∧ e20 = .int .i64 E ∧ wx.heap[gg]? = some (.cells #[.int .i64 s2, .int .i64 t2, .int .i64 o2, .int .i64 g2] 40 (0, 0)) ∧ Below w10.heap.size w10 wx)
  case first =>
    have hBB : Below w10.heap.size w10 w10 := gr_refl _
    go_region_held3 (fun w' => w'.cell? ⟨gBV, 0, none⟩ = some (.int .i64 s) ∧ w'.cell? ⟨gBV, 1, none⟩ = some (.int .i64 t) ∧ w'.cell? ⟨gBV, 2, none⟩ = some (.int .i64 o) ∧ w'.cell? ⟨gBV, 3, none⟩ = some (.int .i64 g)) ((refine ⟨keepc (W := w10) ?_ cBV_0, keepc (W := w10) ?_ cBV_1, keepc (W := w10) ?_ cBV_2, keepc (W := w10) ?_ cBV_3⟩; all_goals (repeat' first | exact gr_refl _ | with_reducible assumption | with_reducible apply gr_alloc | with_reducible apply gr_set | with_reducible apply gr_drew | with_reducible apply gr_drewN | (dsimp only; omega) | (dsimp only; simp only [World.size_alloc, World.size_setCell]; omega)); done)) (first | (go_at_call 20; (with_reducible refine (at_is A0 c0 bs 0 200 _ (by omega) (by omega) (by omega) (by omega) (by omega) HQb.out (SV.later H.out (by repeat' first | exact gr_refl _ | with_reducible assumption | with_reducible apply gr_alloc | with_reducible apply gr_set | with_reducible apply gr_drew | with_reducible apply gr_drewN | (dsimp only; omega) | (dsimp only; simp only [World.size_alloc, World.size_setCell]; omega))) HK1.out).mono ?_); rintro r u1 ⟨rfl, rfl⟩) | (go_at_call 19; (with_reducible refine (slow_is s t o g (100 + K1) _ Hs2.out Ht2.out Ho2.out Hg2.out HE.out).mono ?_); rintro r u2 ⟨rfl, hb⟩; have hBB : Below w10.heap.size w10 u2 := gr_then hb (by repeat' first | exact gr_refl _ | with_reducible assumption | with_reducible apply gr_alloc | with_reducible apply gr_set | with_reducible apply gr_drew | with_reducible apply gr_drewN | (dsimp only; omega) | (dsimp only; simp only [World.size_alloc, World.size_setCell]; omega)); have hzz := hBB.size; (first | have hF := late hF hb | have hF := late (heap_alloc_new _ (.cells #[.int .i64 0, .int .i64 0, .int .i64 0, .int .i64 0] 40)) hb | have hF := late (heap_drew_new _ (.cells #[.int .i64 0, .int .i64 0, .int .i64 0, .int .i64 0] 40)) hb | skip); (first | (have hG := four_cells hF; obtain ⟨i0, ⟨i1, i2, i3, i4⟩, i5, i6, i7, i8⟩ := hG) | skip)))
    all_goals (go_wp2; go_meet; refine ⟨_, rfl, rfl, ?_, by repeat' first | exact gr_refl _ | with_reducible assumption | with_reducible apply gr_alloc | with_reducible apply gr_set | with_reducible apply gr_drew | with_reducible apply gr_drewN | (dsimp only; omega) | (dsimp only; simp only [World.size_alloc, World.size_setCell]; omega)⟩; first | exact heap_alloc_new _ _ | exact put4 hF _ _ _ _)
  case rest =>
    clear cBV_0 cBV_1 cBV_2 cBV_3
    obtain ⟨gg, rfl, rfl, hg9, hb⟩ := hcut
    have BW := Lib.hid (show BI wc gg 40 [s2, t2, o2, g2] from hg9)
    clear hg9 hw
    replace H := Lib.hid ((H.out.below hb).more hb.size)
    replace H' := Lib.hid ((H'.out.below hb).more hb.size)
    replace HQ := Lib.hid (HQ.out.late hb)
    replace HB := Lib.hid (gr_then hb HB.out)
    replace HC := Lib.hid (HC.out.late hb)
    replace BV := Lib.hid (BV.out.late hb)
    replace BP := Lib.hid (BP.out.late hb)
    replace BQ := Lib.hid (BQ.out.late hb)
    replace BR := Lib.hid (BR.out.late hb)
    replace R1 := Lib.hid (R1.out.late hb)
    clear hb
    have q1 : decide (V1 < 0) = false := decide_eq_false (by omega)
    have q2 : decide (V1 + V3 < V4) = false := decide_eq_false (by omega)
    rcases HCASE.out with ⟨rfl, hk2, hs3, ht3, ho3⟩ | rfl
    rotate_left
    · clear HCASE
      obtain ⟨cHC_0, cHC_1, cHC_2, cHC_3, cHC_4, cHC_5, cHC_6⟩ := HC.out
      have cBV_0 := BV.out.cell 0 (by simp)
      have cBV_1 := BV.out.cell 1 (by simp)
      have cBV_2 := BV.out.cell 2 (by simp)
      have cBV_3 := BV.out.cell 3 (by simp)
      simp only [List.getD_cons_zero, List.getD_cons_succ] at cBV_0 cBV_1 cBV_2 cBV_3
      have cBP_0 := BP.out.cell 0 (by simp)
      have cBP_1 := BP.out.cell 1 (by simp)
      simp only [List.getD_cons_zero, List.getD_cons_succ] at cBP_0 cBP_1
      have cBQ_0 := BQ.out.cell 0 (by simp)
      have cBQ_1 := BQ.out.cell 1 (by simp)
      simp only [List.getD_cons_zero, List.getD_cons_succ] at cBQ_0 cBQ_1
      have cBR_0 := BR.out.cell 0 (by simp)
      have cBR_1 := BR.out.cell 1 (by simp)
      simp only [List.getD_cons_zero, List.getD_cons_succ] at cBR_0 cBR_1
      have cBW_0 := BW.out.cell 0 (by simp)
      have cBW_1 := BW.out.cell 1 (by simp)
      have cBW_2 := BW.out.cell 2 (by simp)
      have cBW_3 := BW.out.cell 3 (by simp)
      simp only [List.getD_cons_zero, List.getD_cons_succ] at cBW_0 cBW_1 cBW_2 cBW_3
      go_wp2_with fail
      go_returns
      exact ⟨rfl, HB.out⟩
    have HSP2 := Lib.hid hk2
    have hsb2 := okSp_t hk2
    clear hk2 HCASE
    obtain ⟨V5, hV5⟩ : ∃ q, mvI s2 t2 (pa - x.px) (pb - x.py) (qa - x.px) (qb - x.py) = q := ⟨_, rfl⟩
    have y5 : V1 ≤ V5 := by rw [← hV5, ← HV1.out]; exact mv_slow hs3 hsb2.2.2.1 ht3 _ _ _ _
    have HV5 := Lib.hid hV5
    clear hV5
    obtain ⟨G1, hG1⟩ : ∃ q, upI 100 o = q := ⟨_, rfl⟩
    obtain ⟨G2, hG2⟩ : ∃ q, upI 100 o2 = q := ⟨_, rfl⟩
    have y6 : G1 ≤ G2 := by rw [← hG1, ← hG2]; exact upI_slow (by omega) hsb2.2.2.2.2.1 ho3
    have HG1 := Lib.hid hG1
    have HG2 := Lib.hid hG2
    clear hG1 hG2
    obtain ⟨cHC_0, cHC_1, cHC_2, cHC_3, cHC_4, cHC_5, cHC_6⟩ := HC.out
    have cBV_0 := BV.out.cell 0 (by simp)
    have cBV_1 := BV.out.cell 1 (by simp)
    have cBV_2 := BV.out.cell 2 (by simp)
    have cBV_3 := BV.out.cell 3 (by simp)
    simp only [List.getD_cons_zero, List.getD_cons_succ] at cBV_0 cBV_1 cBV_2 cBV_3
    have cBP_0 := BP.out.cell 0 (by simp)
    have cBP_1 := BP.out.cell 1 (by simp)
    simp only [List.getD_cons_zero, List.getD_cons_succ] at cBP_0 cBP_1
    have cBQ_0 := BQ.out.cell 0 (by simp)
    have cBQ_1 := BQ.out.cell 1 (by simp)
    simp only [List.getD_cons_zero, List.getD_cons_succ] at cBQ_0 cBQ_1
    have cBR_0 := BR.out.cell 0 (by simp)
    have cBR_1 := BR.out.cell 1 (by simp)
    simp only [List.getD_cons_zero, List.getD_cons_succ] at cBR_0 cBR_1
    have cBW_0 := BW.out.cell 0 (by simp)
    have cBW_1 := BW.out.cell 1 (by simp)
    have cBW_2 := BW.out.cell 2 (by simp)
    have cBW_3 := BW.out.cell 3 (by simp)
    simp only [List.getD_cons_zero, List.getD_cons_succ] at cBW_0 cBW_1 cBW_2 cBW_3
    go_wp2_with fail
    clear cHC_0 cHC_1 cHC_2 cHC_3 cHC_4 cHC_5 cHC_6
    clear cBV_0 cBV_1 cBV_2 cBV_3
    clear cBP_0 cBP_1
    clear cBQ_0 cBQ_1
    clear cBR_0 cBR_1
    clear cBW_0 cBW_1 cBW_2 cBW_3
    go_at_call 21
    (with_reducible refine (specVS_any s2 t2 o2 g2 _ HSP2.out).mono ?_)
    rintro e w11 ⟨rfl, hb⟩
    replace H := Lib.hid ((H.out.below hb).more hb.size)
    replace H' := Lib.hid ((H'.out.below hb).more hb.size)
    replace HQ := Lib.hid (HQ.out.late hb)
    replace HB := Lib.hid (gr_then hb HB.out)
    replace HC := Lib.hid (HC.out.late hb)
    replace BV := Lib.hid (BV.out.late hb)
    replace BP := Lib.hid (BP.out.late hb)
    replace BQ := Lib.hid (BQ.out.late hb)
    replace BR := Lib.hid (BR.out.late hb)
    replace BW := Lib.hid (BW.out.late hb)
    replace R1 := Lib.hid (R1.out.late hb)
    clear hb
    obtain ⟨cHC_0, cHC_1, cHC_2, cHC_3, cHC_4, cHC_5, cHC_6⟩ := HC.out
    have cBV_0 := BV.out.cell 0 (by simp)
    have cBV_1 := BV.out.cell 1 (by simp)
    have cBV_2 := BV.out.cell 2 (by simp)
    have cBV_3 := BV.out.cell 3 (by simp)
    simp only [List.getD_cons_zero, List.getD_cons_succ] at cBV_0 cBV_1 cBV_2 cBV_3
    have cBP_0 := BP.out.cell 0 (by simp)
    have cBP_1 := BP.out.cell 1 (by simp)
    simp only [List.getD_cons_zero, List.getD_cons_succ] at cBP_0 cBP_1
    have cBQ_0 := BQ.out.cell 0 (by simp)
    have cBQ_1 := BQ.out.cell 1 (by simp)
    simp only [List.getD_cons_zero, List.getD_cons_succ] at cBQ_0 cBQ_1
    have cBR_0 := BR.out.cell 0 (by simp)
    have cBR_1 := BR.out.cell 1 (by simp)
    simp only [List.getD_cons_zero, List.getD_cons_succ] at cBR_0 cBR_1
    have cBW_0 := BW.out.cell 0 (by simp)
    have cBW_1 := BW.out.cell 1 (by simp)
    have cBW_2 := BW.out.cell 2 (by simp)
    have cBW_3 := BW.out.cell 3 (by simp)
    simp only [List.getD_cons_zero, List.getD_cons_succ] at cBW_0 cBW_1 cBW_2 cBW_3
    go_wp2_with fail
    clear cHC_0 cHC_1 cHC_2 cHC_3 cHC_4 cHC_5 cHC_6
    clear cBV_0 cBV_1 cBV_2 cBV_3
    clear cBP_0 cBP_1
    clear cBQ_0 cBQ_1
    clear cBR_0 cBR_1
    clear cBW_0 cBW_1 cBW_2 cBW_3
    go_at_call 13
    (with_reducible refine (mvOK_any x A n c s2 t2 o2 g2 pa pb qa qb _ hn8 hlz.out HMS.out HOK.out HSP2.out KP.out KQ.out R1.out.si HQ.out HV5.out).mono ?_)
    rintro e w12 ⟨rfl, hb⟩
    replace H := Lib.hid ((H.out.below hb).more hb.size)
    replace H' := Lib.hid ((H'.out.below hb).more hb.size)
    replace HQ := Lib.hid (HQ.out.late hb)
    replace HB := Lib.hid (gr_then hb HB.out)
    replace HC := Lib.hid (HC.out.late hb)
    replace BV := Lib.hid (BV.out.late hb)
    replace BP := Lib.hid (BP.out.late hb)
    replace BQ := Lib.hid (BQ.out.late hb)
    replace BR := Lib.hid (BR.out.late hb)
    replace BW := Lib.hid (BW.out.late hb)
    replace R1 := Lib.hid (R1.out.late hb)
    clear hb
    obtain ⟨cHC_0, cHC_1, cHC_2, cHC_3, cHC_4, cHC_5, cHC_6⟩ := HC.out
    have cBV_0 := BV.out.cell 0 (by simp)
    have cBV_1 := BV.out.cell 1 (by simp)
    have cBV_2 := BV.out.cell 2 (by simp)
    have cBV_3 := BV.out.cell 3 (by simp)
    simp only [List.getD_cons_zero, List.getD_cons_succ] at cBV_0 cBV_1 cBV_2 cBV_3
    have cBP_0 := BP.out.cell 0 (by simp)
    have cBP_1 := BP.out.cell 1 (by simp)
    simp only [List.getD_cons_zero, List.getD_cons_succ] at cBP_0 cBP_1
    have cBQ_0 := BQ.out.cell 0 (by simp)
    have cBQ_1 := BQ.out.cell 1 (by simp)
    simp only [List.getD_cons_zero, List.getD_cons_succ] at cBQ_0 cBQ_1
    have cBR_0 := BR.out.cell 0 (by simp)
    have cBR_1 := BR.out.cell 1 (by simp)
    simp only [List.getD_cons_zero, List.getD_cons_succ] at cBR_0 cBR_1
    have cBW_0 := BW.out.cell 0 (by simp)
    have cBW_1 := BW.out.cell 1 (by simp)
    have cBW_2 := BW.out.cell 2 (by simp)
    have cBW_3 := BW.out.cell 3 (by simp)
    simp only [List.getD_cons_zero, List.getD_cons_succ] at cBW_0 cBW_1 cBW_2 cBW_3
    go_wp2_with fail
    clear cHC_0 cHC_1 cHC_2 cHC_3 cHC_4 cHC_5 cHC_6
    clear cBV_0 cBV_1 cBV_2 cBV_3
    clear cBP_0 cBP_1
    clear cBQ_0 cBQ_1
    clear cBR_0 cBR_1
    clear cBW_0 cBW_1 cBW_2 cBW_3
    go_at_call 22
    (with_reducible refine (hoist_is s t o g _ HSP.out HG1.out).mono ?_)
    rintro e w13 ⟨rfl, hb⟩
    replace H := Lib.hid ((H.out.below hb).more hb.size)
    replace H' := Lib.hid ((H'.out.below hb).more hb.size)
    replace HQ := Lib.hid (HQ.out.late hb)
    replace HB := Lib.hid (gr_then hb HB.out)
    replace HC := Lib.hid (HC.out.late hb)
    replace BV := Lib.hid (BV.out.late hb)
    replace BP := Lib.hid (BP.out.late hb)
    replace BQ := Lib.hid (BQ.out.late hb)
    replace BR := Lib.hid (BR.out.late hb)
    replace BW := Lib.hid (BW.out.late hb)
    replace R1 := Lib.hid (R1.out.late hb)
    clear hb
    obtain ⟨cHC_0, cHC_1, cHC_2, cHC_3, cHC_4, cHC_5, cHC_6⟩ := HC.out
    have cBV_0 := BV.out.cell 0 (by simp)
    have cBV_1 := BV.out.cell 1 (by simp)
    have cBV_2 := BV.out.cell 2 (by simp)
    have cBV_3 := BV.out.cell 3 (by simp)
    simp only [List.getD_cons_zero, List.getD_cons_succ] at cBV_0 cBV_1 cBV_2 cBV_3
    have cBP_0 := BP.out.cell 0 (by simp)
    have cBP_1 := BP.out.cell 1 (by simp)
    simp only [List.getD_cons_zero, List.getD_cons_succ] at cBP_0 cBP_1
    have cBQ_0 := BQ.out.cell 0 (by simp)
    have cBQ_1 := BQ.out.cell 1 (by simp)
    simp only [List.getD_cons_zero, List.getD_cons_succ] at cBQ_0 cBQ_1
    have cBR_0 := BR.out.cell 0 (by simp)
    have cBR_1 := BR.out.cell 1 (by simp)
    simp only [List.getD_cons_zero, List.getD_cons_succ] at cBR_0 cBR_1
    have cBW_0 := BW.out.cell 0 (by simp)
    have cBW_1 := BW.out.cell 1 (by simp)
    have cBW_2 := BW.out.cell 2 (by simp)
    have cBW_3 := BW.out.cell 3 (by simp)
    simp only [List.getD_cons_zero, List.getD_cons_succ] at cBW_0 cBW_1 cBW_2 cBW_3
    go_wp2_with fail
    clear cHC_0 cHC_1 cHC_2 cHC_3 cHC_4 cHC_5 cHC_6
    clear cBV_0 cBV_1 cBV_2 cBV_3
    clear cBP_0 cBP_1
    clear cBQ_0 cBQ_1
    clear cBR_0 cBR_1
    clear cBW_0 cBW_1 cBW_2 cBW_3
    go_at_call 22
    (with_reducible refine (hoist_is s2 t2 o2 g2 _ HSP2.out HG2.out).mono ?_)
    rintro e w14 ⟨rfl, hb⟩
    replace H := Lib.hid ((H.out.below hb).more hb.size)
    replace H' := Lib.hid ((H'.out.below hb).more hb.size)
    replace HQ := Lib.hid (HQ.out.late hb)
    replace HB := Lib.hid (gr_then hb HB.out)
    replace HC := Lib.hid (HC.out.late hb)
    replace BV := Lib.hid (BV.out.late hb)
    replace BP := Lib.hid (BP.out.late hb)
    replace BQ := Lib.hid (BQ.out.late hb)
    replace BR := Lib.hid (BR.out.late hb)
    replace BW := Lib.hid (BW.out.late hb)
    replace R1 := Lib.hid (R1.out.late hb)
    clear hb
    obtain ⟨X1, hX1⟩ : ∃ q, atV bs 1 24 = q := ⟨_, rfl⟩
    have bX1 := atV_bd bs 1 (m := 24) (by omega)
    rw [hX1] at bX1
    have HX1 := Lib.hid hX1
    clear hX1
    obtain ⟨X2, hX2⟩ : ∃ q, atV bs 2 24 = q := ⟨_, rfl⟩
    have bX2 := atV_bd bs 2 (m := 24) (by omega)
    rw [hX2] at bX2
    have HX2 := Lib.hid hX2
    clear hX2
    obtain ⟨X3, hX3⟩ : ∃ q, atV bs 3 200 = q := ⟨_, rfl⟩
    have bX3 := atV_bd bs 3 (m := 200) (by omega)
    rw [hX3] at bX3
    have HX3 := Lib.hid hX3
    clear hX3
    obtain ⟨X4, hX4⟩ : ∃ q, atV bs 4 200 = q := ⟨_, rfl⟩
    have bX4 := atV_bd bs 4 (m := 200) (by omega)
    rw [hX4] at bX4
    have HX4 := Lib.hid hX4
    clear hX4
    obtain ⟨M, hM⟩ : ∃ q, absI (turnI X1 X2) * s = q := ⟨_, rfl⟩
    obtain ⟨N, hN⟩ : ∃ q, upI (absI (X4 - X3)) t = q := ⟨_, rfl⟩
    have yM : 0 ≤ M ∧ M ≤ 12 * s := by have h1 := turn_abs X1 X2; rw [← hM]; exact ⟨Int.mul_nonneg h1.1 (by omega), Int.mul_le_mul_of_nonneg_right h1.2 (by omega)⟩
    have yN : 0 ≤ N ∧ N ≤ 200 := by have h1 := upI_pos (absI_nn (X4 - X3)) hsb.2.2.1; have h2 : absI (X4 - X3) ≤ 199 := (by unfold absI; split <;> omega); rw [← hN]; omega
    have HM := Lib.hid hM
    have HN := Lib.hid hN
    clear hM hN
    obtain ⟨cHC_0, cHC_1, cHC_2, cHC_3, cHC_4, cHC_5, cHC_6⟩ := HC.out
    have cBV_0 := BV.out.cell 0 (by simp)
    have cBV_1 := BV.out.cell 1 (by simp)
    have cBV_2 := BV.out.cell 2 (by simp)
    have cBV_3 := BV.out.cell 3 (by simp)
    simp only [List.getD_cons_zero, List.getD_cons_succ] at cBV_0 cBV_1 cBV_2 cBV_3
    have cBP_0 := BP.out.cell 0 (by simp)
    have cBP_1 := BP.out.cell 1 (by simp)
    simp only [List.getD_cons_zero, List.getD_cons_succ] at cBP_0 cBP_1
    have cBQ_0 := BQ.out.cell 0 (by simp)
    have cBQ_1 := BQ.out.cell 1 (by simp)
    simp only [List.getD_cons_zero, List.getD_cons_succ] at cBQ_0 cBQ_1
    have cBR_0 := BR.out.cell 0 (by simp)
    have cBR_1 := BR.out.cell 1 (by simp)
    simp only [List.getD_cons_zero, List.getD_cons_succ] at cBR_0 cBR_1
    have cBW_0 := BW.out.cell 0 (by simp)
    have cBW_1 := BW.out.cell 1 (by simp)
    have cBW_2 := BW.out.cell 2 (by simp)
    have cBW_3 := BW.out.cell 3 (by simp)
    simp only [List.getD_cons_zero, List.getD_cons_succ] at cBW_0 cBW_1 cBW_2 cBW_3
    go_wp2_with fail
    have gw0 : ∀ X, (grw (w14) X).cell? ⟨gBV, 0, none⟩ = some (.int .i64 s) := grw_cell (by assumption)
    have gw1 : ∀ X, (grw (w14) X).cell? ⟨gBV, 1, none⟩ = some (.int .i64 t) := grw_cell (by assumption)
    have gw2 : ∀ X, (grw (w14) X).cell? ⟨gBV, 2, none⟩ = some (.int .i64 o) := grw_cell (by assumption)
    have gw3 : ∀ X, (grw (w14) X).cell? ⟨gBV, 3, none⟩ = some (.int .i64 g) := grw_cell (by assumption)
    refine wp_region_grow (by kernel_rfl) (by kernel_rfl) ?_
    repeat (go_big_quiet_step (first | (go_at_call 20; with_reducible refine grow_same (at_is A0 c0 bs 1 24 _ (by omega) (by omega) (by omega) (by omega) (by omega) HQb.out ?_ HX1.out); exact SV.later H.out (grw_below _ _)) | (go_at_call 20; with_reducible refine grow_same (at_is A0 c0 bs 2 24 _ (by omega) (by omega) (by omega) (by omega) (by omega) HQb.out ?_ HX2.out); exact SV.later H.out (grw_below _ _)) | (go_at_call 23; with_reducible refine grow_of (slew_is s t o g X1 X2 _ HSP.out (by omega) (by omega) HM.out)) | fail))
    refine wpQuiet_nil ?_
    rintro v1 ⟨X, hX⟩
    have hQ_v1 : Below (w14).heap.size (w14) v1 := by rw [hX]; exact grw_below _ _
    clear hX gw0 gw1 gw2 gw3
    clear cHC_0 cHC_1 cHC_2 cHC_3 cHC_4 cHC_5 cHC_6
    clear cBV_0 cBV_1 cBV_2 cBV_3
    clear cBP_0 cBP_1
    clear cBQ_0 cBQ_1
    clear cBR_0 cBR_1
    clear cBW_0 cBW_1 cBW_2 cBW_3
    replace H := Lib.hid ((H.out.below hQ_v1).more hQ_v1.size)
    replace H' := Lib.hid ((H'.out.below hQ_v1).more hQ_v1.size)
    replace HQ := Lib.hid (HQ.out.late hQ_v1)
    replace HB := Lib.hid (gr_then hQ_v1 HB.out)
    replace HC := Lib.hid (HC.out.late hQ_v1)
    replace BV := Lib.hid (BV.out.late hQ_v1)
    replace BP := Lib.hid (BP.out.late hQ_v1)
    replace BQ := Lib.hid (BQ.out.late hQ_v1)
    replace BR := Lib.hid (BR.out.late hQ_v1)
    replace BW := Lib.hid (BW.out.late hQ_v1)
    replace R1 := Lib.hid (R1.out.late hQ_v1)
    clear hQ_v1
    obtain ⟨cHC_0, cHC_1, cHC_2, cHC_3, cHC_4, cHC_5, cHC_6⟩ := HC.out
    have cBV_0 := BV.out.cell 0 (by simp)
    have cBV_1 := BV.out.cell 1 (by simp)
    have cBV_2 := BV.out.cell 2 (by simp)
    have cBV_3 := BV.out.cell 3 (by simp)
    simp only [List.getD_cons_zero, List.getD_cons_succ] at cBV_0 cBV_1 cBV_2 cBV_3
    have cBP_0 := BP.out.cell 0 (by simp)
    have cBP_1 := BP.out.cell 1 (by simp)
    simp only [List.getD_cons_zero, List.getD_cons_succ] at cBP_0 cBP_1
    have cBQ_0 := BQ.out.cell 0 (by simp)
    have cBQ_1 := BQ.out.cell 1 (by simp)
    simp only [List.getD_cons_zero, List.getD_cons_succ] at cBQ_0 cBQ_1
    have cBR_0 := BR.out.cell 0 (by simp)
    have cBR_1 := BR.out.cell 1 (by simp)
    simp only [List.getD_cons_zero, List.getD_cons_succ] at cBR_0 cBR_1
    have cBW_0 := BW.out.cell 0 (by simp)
    have cBW_1 := BW.out.cell 1 (by simp)
    have cBW_2 := BW.out.cell 2 (by simp)
    have cBW_3 := BW.out.cell 3 (by simp)
    simp only [List.getD_cons_zero, List.getD_cons_succ] at cBW_0 cBW_1 cBW_2 cBW_3
    go_wp2_with fail
    have gw0 : ∀ X, (grw (v1) X).cell? ⟨gBV, 0, none⟩ = some (.int .i64 s) := grw_cell (by assumption)
    have gw1 : ∀ X, (grw (v1) X).cell? ⟨gBV, 1, none⟩ = some (.int .i64 t) := grw_cell (by assumption)
    have gw2 : ∀ X, (grw (v1) X).cell? ⟨gBV, 2, none⟩ = some (.int .i64 o) := grw_cell (by assumption)
    have gw3 : ∀ X, (grw (v1) X).cell? ⟨gBV, 3, none⟩ = some (.int .i64 g) := grw_cell (by assumption)
    refine wp_region_grow (by kernel_rfl) (by kernel_rfl) ?_
    repeat (go_big_quiet_step (first | (go_at_call 20; with_reducible refine grow_same (at_is A0 c0 bs 3 200 _ (by omega) (by omega) (by omega) (by omega) (by omega) HQb.out ?_ HX3.out); exact SV.later H.out (grw_below _ _)) | (go_at_call 20; with_reducible refine grow_same (at_is A0 c0 bs 4 200 _ (by omega) (by omega) (by omega) (by omega) (by omega) HQb.out ?_ HX4.out); exact SV.later H.out (grw_below _ _)) | (go_at_call 24; with_reducible refine grow_of (trol_is s t o g X3 X4 _ HSP.out (by omega) (by omega) HN.out)) | fail))
    refine wpQuiet_nil ?_
    rintro v2 ⟨X, hX⟩
    have hQ_v2 : Below (v1).heap.size (v1) v2 := by rw [hX]; exact grw_below _ _
    clear hX gw0 gw1 gw2 gw3
    clear cHC_0 cHC_1 cHC_2 cHC_3 cHC_4 cHC_5 cHC_6
    clear cBV_0 cBV_1 cBV_2 cBV_3
    clear cBP_0 cBP_1
    clear cBQ_0 cBQ_1
    clear cBR_0 cBR_1
    clear cBW_0 cBW_1 cBW_2 cBW_3
    replace H := Lib.hid ((H.out.below hQ_v2).more hQ_v2.size)
    replace H' := Lib.hid ((H'.out.below hQ_v2).more hQ_v2.size)
    replace HQ := Lib.hid (HQ.out.late hQ_v2)
    replace HB := Lib.hid (gr_then hQ_v2 HB.out)
    replace HC := Lib.hid (HC.out.late hQ_v2)
    replace BV := Lib.hid (BV.out.late hQ_v2)
    replace BP := Lib.hid (BP.out.late hQ_v2)
    replace BQ := Lib.hid (BQ.out.late hQ_v2)
    replace BR := Lib.hid (BR.out.late hQ_v2)
    replace BW := Lib.hid (BW.out.late hQ_v2)
    replace R1 := Lib.hid (R1.out.late hQ_v2)
    clear hQ_v2
    have z0 : decide (V1 ≤ V5) = true := decide_eq_true (by omega)
    have z1 : decide (G1 ≤ G2) = true := decide_eq_true (by omega)
    have z2 : decide (0 ≤ M) = true := decide_eq_true (by omega)
    have z3 : decide (M ≤ 12 * s) = true := decide_eq_true (by omega)
    have z4 : decide (0 ≤ N) = true := decide_eq_true (by omega)
    have z5 : decide (N ≤ 200) = true := decide_eq_true (by omega)
    obtain ⟨cHC_0, cHC_1, cHC_2, cHC_3, cHC_4, cHC_5, cHC_6⟩ := HC.out
    have cBV_0 := BV.out.cell 0 (by simp)
    have cBV_1 := BV.out.cell 1 (by simp)
    have cBV_2 := BV.out.cell 2 (by simp)
    have cBV_3 := BV.out.cell 3 (by simp)
    simp only [List.getD_cons_zero, List.getD_cons_succ] at cBV_0 cBV_1 cBV_2 cBV_3
    have cBP_0 := BP.out.cell 0 (by simp)
    have cBP_1 := BP.out.cell 1 (by simp)
    simp only [List.getD_cons_zero, List.getD_cons_succ] at cBP_0 cBP_1
    have cBQ_0 := BQ.out.cell 0 (by simp)
    have cBQ_1 := BQ.out.cell 1 (by simp)
    simp only [List.getD_cons_zero, List.getD_cons_succ] at cBQ_0 cBQ_1
    have cBR_0 := BR.out.cell 0 (by simp)
    have cBR_1 := BR.out.cell 1 (by simp)
    simp only [List.getD_cons_zero, List.getD_cons_succ] at cBR_0 cBR_1
    have cBW_0 := BW.out.cell 0 (by simp)
    have cBW_1 := BW.out.cell 1 (by simp)
    have cBW_2 := BW.out.cell 2 (by simp)
    have cBW_3 := BW.out.cell 3 (by simp)
    simp only [List.getD_cons_zero, List.getD_cons_succ] at cBW_0 cBW_1 cBW_2 cBW_3
    go_wp2_with fail
    go_returns
    exact ⟨rfl, HB.out⟩
end Go.Proofs.YtoglmeiffidcbaaDoor.fnTimes
