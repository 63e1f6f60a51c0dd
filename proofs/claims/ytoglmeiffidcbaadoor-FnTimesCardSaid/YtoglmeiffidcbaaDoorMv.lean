/- The time of a move, both sides. -/
import Derived.Test.YtoglmeiffidcbaaDoorDir
import Derived.Test.YtoglmeiffidcbaaDoorSq
import Derived.Test.YtoglmeiffidcbaaDoorTimes
import Derived.Test.YtoglmeiffidcbaaDoorTmP
import Derived.Test.YtoglmeiffidcbaaDoorOpenCrane
import Derived.Test.YtoglmeiffidcbaaDoorGrow
import Derived.Deep.QuietTactic
import Derived.BigQuiet
namespace Go.Proofs.YtoglmeiffidcbaaDoor
open Go.RowKit Go.Deep
theorem rad_rev (a b c d : Int) : rt (sqI (a - c) (b - d)) = radN (c - a) (d - b) := by rw [show a - c = -(c - a) by omega, show b - d = -(d - b) by omega]; exact radN_neg _ _
theorem okPl_d {a b c d : Int} (h : okPl a b = true) (k : okPl c d = true) : (-400000 ≤ c - a ∧ c - a ≤ 400000) ∧ (-400000 ≤ d - b ∧ d - b ≤ 400000) := by have h1 := okPl_t h; have h2 := okPl_t k; omega
set_option maxHeartbeats 2000000 in
set_option maxRecDepth 20000 in
theorem dirOf_any (x : Cr) (A : Option Addr) (n c : Nat) (fx fy : Int) (w : World) (hx : okPl x.px x.py = true) (hf : okPl fx fy = true) (hQ : Quar w) : Calls Tryd.prog 67 #[.agg #[.string x.nm, .int .i64 x.px, .int .i64 x.py, .int .i64 x.hg, .int .i64 x.jb, .int .i64 x.bk, .slice A n c], .agg #[.int .i64 fx, .int .i64 fy]] w fun e w' => e = .returned (.int .i64 ((dirN (fx - x.px) (fy - x.py) : Nat) : Int)) ∧ Below w.heap.size w w' := by
  obtain ⟨E, hE⟩ : ∃ q, eqPC x.px x.py fx fy = q := ⟨_, rfl⟩
  obtain ⟨D, hD⟩ : ∃ q, dirN (fx - x.px) (fy - x.py) = q := ⟨_, rfl⟩
  rw [hD]
  have HE := Lib.hid hE
  have HD := Lib.hid hD
  clear hE hD
  have HX := Lib.hid hx
  have HF := Lib.hid hf
  obtain ⟨hu, hv⟩ := okPl_d hx hf
  clear hx hf
  have HC := Lib.hid ((Cc.box w 38 x A n c).late (show Below (w.alloc (.cells #[.string x.nm, .int .i64 x.px, .int .i64 x.py, .int .i64 x.hg, .int .i64 x.jb, .int .i64 x.bk, .slice A n c] 38)).heap.size (w.alloc (.cells #[.string x.nm, .int .i64 x.px, .int .i64 x.py, .int .i64 x.hg, .int .i64 x.jb, .int .i64 x.bk, .slice A n c] 38)) ((w.alloc (.cells #[.string x.nm, .int .i64 x.px, .int .i64 x.py, .int .i64 x.hg, .int .i64 x.jb, .int .i64 x.bk, .slice A n c] 38)).alloc (.cells #[.int .i64 fx, .int .i64 fy] 35)) from gr_alloc (gr_refl _)))
  have HP := Lib.hid (show Box2 ((w.alloc (.cells #[.string x.nm, .int .i64 x.px, .int .i64 x.py, .int .i64 x.hg, .int .i64 x.jb, .int .i64 x.bk, .slice A n c] 38)).alloc (.cells #[.int .i64 fx, .int .i64 fy] 35)) (w.heap.size + 1) 35 (.int .i64 fx) (.int .i64 fy) by have h := Box2.new (w.alloc (.cells #[.string x.nm, .int .i64 x.px, .int .i64 x.py, .int .i64 x.hg, .int .i64 x.jb, .int .i64 x.bk, .slice A n c] 38)) 35 (.int .i64 fx) (.int .i64 fy); simp only [World.size_alloc] at h; exact h)
  have HB := Lib.hid (show Below w.heap.size w ((w.alloc (.cells #[.string x.nm, .int .i64 x.px, .int .i64 x.py, .int .i64 x.hg, .int .i64 x.jb, .int .i64 x.bk, .slice A n c] 38)).alloc (.cells #[.int .i64 fx, .int .i64 fy] 35)) from gr_alloc (gr_alloc (gr_refl _)))
  have HQ := Lib.hid (hQ.late HB.out)
  clear hQ
  obtain ⟨c0, c1, c2, c3, c4, c5, c6⟩ := HC.out
  have p0 := HP.out.c0
  have p1 := HP.out.c1
  go_enter Tryd.func67, Tryd.ntmps67; go_wp2_with fail
  generalize (w.alloc (.cells #[.string x.nm, .int .i64 x.px, .int .i64 x.py, .int .i64 x.hg, .int .i64 x.jb, .int .i64 x.bk, .slice A n c] 38)).alloc (.cells #[.int .i64 fx, .int .i64 fy] 35) = v0 at *
  go_at_call 81
  (with_reducible refine (dirTo_any x.px x.py fx fy _ HX.out HF.out HQ.out).mono ?_)
  rw [HE.out, HD.out]
  rintro e w1 ⟨rfl, hb⟩
  have HB1 := Lib.hid (gr_then hb HB.out)
  clear hb c0 c1 c2 c3 c4 c5 c6 p0 p1
  go_wp2
  go_returns
  exact ⟨rfl, HB1.out⟩
set_option maxHeartbeats 2000000 in
set_option maxRecDepth 20000 in
theorem radOf_any (x : Cr) (A : Option Addr) (n c : Nat) (fx fy : Int) (w : World) (hx : okPl x.px x.py = true) (hf : okPl fx fy = true) : Calls Tryd.prog 68 #[.agg #[.string x.nm, .int .i64 x.px, .int .i64 x.py, .int .i64 x.hg, .int .i64 x.jb, .int .i64 x.bk, .slice A n c], .agg #[.int .i64 fx, .int .i64 fy]] w fun e w' => e = .returned (.int .i64 (radN (fx - x.px) (fy - x.py))) ∧ Below w.heap.size w w' := by
  have hrv := rad_rev x.px x.py fx fy
  rw [← hrv]
  clear hrv
  have HX := Lib.hid hx
  have HF := Lib.hid hf
  obtain ⟨hu, hv⟩ := okPl_d hx hf
  clear hx hf
  have HC := Lib.hid ((Cc.box w 38 x A n c).late (show Below (w.alloc (.cells #[.string x.nm, .int .i64 x.px, .int .i64 x.py, .int .i64 x.hg, .int .i64 x.jb, .int .i64 x.bk, .slice A n c] 38)).heap.size (w.alloc (.cells #[.string x.nm, .int .i64 x.px, .int .i64 x.py, .int .i64 x.hg, .int .i64 x.jb, .int .i64 x.bk, .slice A n c] 38)) ((w.alloc (.cells #[.string x.nm, .int .i64 x.px, .int .i64 x.py, .int .i64 x.hg, .int .i64 x.jb, .int .i64 x.bk, .slice A n c] 38)).alloc (.cells #[.int .i64 fx, .int .i64 fy] 35)) from gr_alloc (gr_refl _)))
  have HP := Lib.hid (show Box2 ((w.alloc (.cells #[.string x.nm, .int .i64 x.px, .int .i64 x.py, .int .i64 x.hg, .int .i64 x.jb, .int .i64 x.bk, .slice A n c] 38)).alloc (.cells #[.int .i64 fx, .int .i64 fy] 35)) (w.heap.size + 1) 35 (.int .i64 fx) (.int .i64 fy) by have h := Box2.new (w.alloc (.cells #[.string x.nm, .int .i64 x.px, .int .i64 x.py, .int .i64 x.hg, .int .i64 x.jb, .int .i64 x.bk, .slice A n c] 38)) 35 (.int .i64 fx) (.int .i64 fy); simp only [World.size_alloc] at h; exact h)
  have HB := Lib.hid (show Below w.heap.size w ((w.alloc (.cells #[.string x.nm, .int .i64 x.px, .int .i64 x.py, .int .i64 x.hg, .int .i64 x.jb, .int .i64 x.bk, .slice A n c] 38)).alloc (.cells #[.int .i64 fx, .int .i64 fy] 35)) from gr_alloc (gr_alloc (gr_refl _)))
  obtain ⟨c0, c1, c2, c3, c4, c5, c6⟩ := HC.out
  have p0 := HP.out.c0
  have p1 := HP.out.c1
  go_enter Tryd.func68, Tryd.ntmps68; go_wp2_with fail
  generalize (w.alloc (.cells #[.string x.nm, .int .i64 x.px, .int .i64 x.py, .int .i64 x.hg, .int .i64 x.jb, .int .i64 x.bk, .slice A n c] 38)).alloc (.cells #[.int .i64 fx, .int .i64 fy] 35) = v0 at *
  have hu2 : -400000 ≤ x.px - fx ∧ x.px - fx ≤ 400000 := by omega
  have hv2 : -400000 ≤ x.py - fy ∧ x.py - fy ≤ 400000 := by omega
  have hsq := (sqI_bd hu2 hv2).2.2
  go_at_call 83
  (with_reducible refine (square_any x.px x.py fx fy _ hu2 hv2).mono ?_)
  rintro e w1 ⟨rfl, hb⟩
  have HB1 := Lib.hid (gr_then hb HB.out)
  clear hb c0 c1 c2 c3 c4 c5 c6 p0 p1
  go_wp2_with fail
  go_at_call 82
  (with_reducible refine (rootUp_any _ _ (by omega) (by omega)).mono ?_)
  rintro e w2 ⟨rfl, rfl⟩
  go_wp2
  go_returns
  exact ⟨rfl, HB1.out⟩
theorem dirOf_is (x : Cr) (A : Option Addr) (n c : Nat) (fx fy : Int) (w : World) (hx : okPl x.px x.py = true) (hf : okPl fx fy = true) (hQ : Quar w) {D : Nat} (hD : dirN (fx - x.px) (fy - x.py) = D) : Calls Tryd.prog 67 #[.agg #[.string x.nm, .int .i64 x.px, .int .i64 x.py, .int .i64 x.hg, .int .i64 x.jb, .int .i64 x.bk, .slice A n c], .agg #[.int .i64 fx, .int .i64 fy]] w fun e w' => e = .returned (.int .i64 (D : Int)) ∧ Below w.heap.size w w' := by rw [← hD]; exact dirOf_any x A n c fx fy w hx hf hQ
theorem radOf_is (x : Cr) (A : Option Addr) (n c : Nat) (fx fy : Int) (w : World) (hx : okPl x.px x.py = true) (hf : okPl fx fy = true) {R : Int} (hR : radN (fx - x.px) (fy - x.py) = R) : Calls Tryd.prog 68 #[.agg #[.string x.nm, .int .i64 x.px, .int .i64 x.py, .int .i64 x.hg, .int .i64 x.jb, .int .i64 x.bk, .slice A n c], .agg #[.int .i64 fx, .int .i64 fy]] w fun e w' => e = .returned (.int .i64 R) ∧ Below w.heap.size w w' := by rw [← hR]; exact radOf_any x A n c fx fy w hx hf
set_option maxHeartbeats 2000000 in
set_option maxRecDepth 20000 in
theorem slewOf_any (s t o g : Int) (j k : Nat) (w : World) (hs : 1 ≤ s ∧ s ≤ 600) (hj : j ≤ 23) (hk : k ≤ 23) : Calls Tryd.prog 50 #[.agg #[.int .i64 s, .int .i64 t, .int .i64 o, .int .i64 g], .int .i64 (j : Int), .int .i64 (k : Int)] w fun e w' => e = .returned (.int .i64 (absI (turnI j k) * s)) ∧ Below w.heap.size w w' := by
  have ha := turn_abs j k
  have hb := turnI_bd j k
  have hm1 : 0 ≤ absI (turnI j k) * s := Int.mul_nonneg ha.1 (by omega)
  have hm2 : absI (turnI j k) * s ≤ 12 * 600 := Int.mul_le_mul ha.2 hs.2 (by omega) (by omega)
  have hw : IntKind.i64.wrap (absI (turnI j k) * s) = absI (turnI j k) * s := IntWalk.i64_in _ (by omega)
  go_enter Tryd.func50, Tryd.ntmps50; go_wp2
  go_quiet ((first | (go_at_call 75; exact quiet_left (turnBetween_any _ _ _ (by omega) (by omega))) | (go_at_call 74; exact quiet_left (abs_any _ _ (by omega)))))
  go_wp2
  go_returns
  exact ⟨rfl, by repeat' first | exact gr_refl _ | with_reducible apply gr_drewN | with_reducible apply gr_alloc⟩
set_option maxHeartbeats 2000000 in
set_option maxRecDepth 20000 in
theorem trolOf_any (s t o g a b : Int) (w : World) (ht : 1 ≤ t ∧ t ≤ 600) (ha : 0 ≤ a ∧ a ≤ 1000000) (hb : 0 ≤ b ∧ b ≤ 1000000) : Calls Tryd.prog 51 #[.agg #[.int .i64 s, .int .i64 t, .int .i64 o, .int .i64 g], .int .i64 a, .int .i64 b] w fun e w' => e = .returned (.int .i64 (upI (absI (a - b)) t)) ∧ Below w.heap.size w w' := by
  have hw : IntKind.i64.wrap (a - b) = a - b := IntWalk.i64_in _ (by omega)
  have hab : 0 ≤ absI (a - b) ∧ absI (a - b) ≤ 1000000 := by unfold absI; split <;> omega
  go_enter Tryd.func51, Tryd.ntmps51; go_wp2
  go_quiet ((first | (go_at_call 74; exact quiet_left (abs_any _ _ (by omega))) | (go_at_call 47; exact quiet_left (ceil_any _ _ _ (by omega) (by omega) (by omega)))))
  go_wp2
  go_returns
  exact ⟨rfl, by repeat' first | exact gr_refl _ | with_reducible apply gr_drewN | with_reducible apply gr_alloc⟩
set_option maxHeartbeats 8000000 in
set_option maxRecDepth 20000 in
theorem move_any (x : Cr) (A : Option Addr) (n c : Nat) (s t o g : Int) (a b d e : Int) (w : World) (hx : okPl x.px x.py = true) (hf : okPl a b = true) (hg : okPl d e = true) (hs : 1 ≤ s ∧ s ≤ 600) (ht : 1 ≤ t ∧ t ≤ 600) (hQ : Quar w) : Calls Tryd.prog 40 #[.agg #[.string x.nm, .int .i64 x.px, .int .i64 x.py, .int .i64 x.hg, .int .i64 x.jb, .int .i64 x.bk, .slice A n c, .int .i64 s, .int .i64 t, .int .i64 o, .int .i64 g], .agg #[.int .i64 a, .int .i64 b], .agg #[.int .i64 d, .int .i64 e]] w fun r w' => r = .returned (.int .i64 (mvI s t (a - x.px) (b - x.py) (d - x.px) (e - x.py))) ∧ Below w.heap.size w w' := by
  have HX := Lib.hid hx
  have HF := Lib.hid hf
  have HG := Lib.hid hg
  obtain ⟨u1, u2⟩ := okPl_d hx hf
  obtain ⟨u3, u4⟩ := okPl_d hx hg
  have r1 := radN_bd u1 u2
  have r2 := radN_bd u3 u4
  clear hx hf hg u1 u2 u3 u4
  obtain ⟨R1, e1⟩ : ∃ q, radN (a - x.px) (b - x.py) = q := ⟨_, rfl⟩
  obtain ⟨R2, e2⟩ : ∃ q, radN (d - x.px) (e - x.py) = q := ⟨_, rfl⟩
  obtain ⟨D1, e3⟩ : ∃ q, dirN (a - x.px) (b - x.py) = q := ⟨_, rfl⟩
  obtain ⟨D2, e4⟩ : ∃ q, dirN (d - x.px) (e - x.py) = q := ⟨_, rfl⟩
  have hd1 : D1 ≤ 23 := by rw [← e3]; exact dirN_le _ _
  have hd2 : D2 ≤ 23 := by rw [← e4]; exact dirN_le _ _
  rw [e1] at r1
  rw [e2] at r2
  have HV := Lib.hid (show mvI s t (a - x.px) (b - x.py) (d - x.px) (e - x.py) = max (absI (turnI D1 D2) * s) (upI (absI (R1 - R2)) t) by unfold mvI; rw [e1, e2, e3, e4])
  rw [HV.out]
  have HE1 := Lib.hid e1
  have HE2 := Lib.hid e2
  have HE3 := Lib.hid e3
  have HE4 := Lib.hid e4
  clear e1 e2 e3 e4
  have HB := Lib.hid (show Below w.heap.size w (((w.alloc (.cells #[.string x.nm, .int .i64 x.px, .int .i64 x.py, .int .i64 x.hg, .int .i64 x.jb, .int .i64 x.bk, .slice A n c, .int .i64 s, .int .i64 t, .int .i64 o, .int .i64 g] 68)).alloc (.cells #[.int .i64 a, .int .i64 b] 35)).alloc (.cells #[.int .i64 d, .int .i64 e] 35)) from gr_alloc (gr_alloc (gr_alloc (gr_refl _))))
  have HQ := Lib.hid (hQ.late HB.out)
  clear hQ
  have k0 : (((w.alloc (.cells #[.string x.nm, .int .i64 x.px, .int .i64 x.py, .int .i64 x.hg, .int .i64 x.jb, .int .i64 x.bk, .slice A n c, .int .i64 s, .int .i64 t, .int .i64 o, .int .i64 g] 68)).alloc (.cells #[.int .i64 a, .int .i64 b] 35)).alloc (.cells #[.int .i64 d, .int .i64 e] 35)).cell? ⟨w.heap.size, 0, none⟩ = some (.string x.nm) := by simp [go_sem]
  have k1 : (((w.alloc (.cells #[.string x.nm, .int .i64 x.px, .int .i64 x.py, .int .i64 x.hg, .int .i64 x.jb, .int .i64 x.bk, .slice A n c, .int .i64 s, .int .i64 t, .int .i64 o, .int .i64 g] 68)).alloc (.cells #[.int .i64 a, .int .i64 b] 35)).alloc (.cells #[.int .i64 d, .int .i64 e] 35)).cell? ⟨w.heap.size, 1, none⟩ = some (.int .i64 x.px) := by simp [go_sem]
  have k2 : (((w.alloc (.cells #[.string x.nm, .int .i64 x.px, .int .i64 x.py, .int .i64 x.hg, .int .i64 x.jb, .int .i64 x.bk, .slice A n c, .int .i64 s, .int .i64 t, .int .i64 o, .int .i64 g] 68)).alloc (.cells #[.int .i64 a, .int .i64 b] 35)).alloc (.cells #[.int .i64 d, .int .i64 e] 35)).cell? ⟨w.heap.size, 2, none⟩ = some (.int .i64 x.py) := by simp [go_sem]
  have k3 : (((w.alloc (.cells #[.string x.nm, .int .i64 x.px, .int .i64 x.py, .int .i64 x.hg, .int .i64 x.jb, .int .i64 x.bk, .slice A n c, .int .i64 s, .int .i64 t, .int .i64 o, .int .i64 g] 68)).alloc (.cells #[.int .i64 a, .int .i64 b] 35)).alloc (.cells #[.int .i64 d, .int .i64 e] 35)).cell? ⟨w.heap.size, 3, none⟩ = some (.int .i64 x.hg) := by simp [go_sem]
  have k4 : (((w.alloc (.cells #[.string x.nm, .int .i64 x.px, .int .i64 x.py, .int .i64 x.hg, .int .i64 x.jb, .int .i64 x.bk, .slice A n c, .int .i64 s, .int .i64 t, .int .i64 o, .int .i64 g] 68)).alloc (.cells #[.int .i64 a, .int .i64 b] 35)).alloc (.cells #[.int .i64 d, .int .i64 e] 35)).cell? ⟨w.heap.size, 4, none⟩ = some (.int .i64 x.jb) := by simp [go_sem]
  have k5 : (((w.alloc (.cells #[.string x.nm, .int .i64 x.px, .int .i64 x.py, .int .i64 x.hg, .int .i64 x.jb, .int .i64 x.bk, .slice A n c, .int .i64 s, .int .i64 t, .int .i64 o, .int .i64 g] 68)).alloc (.cells #[.int .i64 a, .int .i64 b] 35)).alloc (.cells #[.int .i64 d, .int .i64 e] 35)).cell? ⟨w.heap.size, 5, none⟩ = some (.int .i64 x.bk) := by simp [go_sem]
  have k6 : (((w.alloc (.cells #[.string x.nm, .int .i64 x.px, .int .i64 x.py, .int .i64 x.hg, .int .i64 x.jb, .int .i64 x.bk, .slice A n c, .int .i64 s, .int .i64 t, .int .i64 o, .int .i64 g] 68)).alloc (.cells #[.int .i64 a, .int .i64 b] 35)).alloc (.cells #[.int .i64 d, .int .i64 e] 35)).cell? ⟨w.heap.size, 6, none⟩ = some (.slice A n c) := by simp [go_sem]
  have k7 : (((w.alloc (.cells #[.string x.nm, .int .i64 x.px, .int .i64 x.py, .int .i64 x.hg, .int .i64 x.jb, .int .i64 x.bk, .slice A n c, .int .i64 s, .int .i64 t, .int .i64 o, .int .i64 g] 68)).alloc (.cells #[.int .i64 a, .int .i64 b] 35)).alloc (.cells #[.int .i64 d, .int .i64 e] 35)).cell? ⟨w.heap.size, 7, none⟩ = some (.int .i64 s) := by simp [go_sem]
  have k8 : (((w.alloc (.cells #[.string x.nm, .int .i64 x.px, .int .i64 x.py, .int .i64 x.hg, .int .i64 x.jb, .int .i64 x.bk, .slice A n c, .int .i64 s, .int .i64 t, .int .i64 o, .int .i64 g] 68)).alloc (.cells #[.int .i64 a, .int .i64 b] 35)).alloc (.cells #[.int .i64 d, .int .i64 e] 35)).cell? ⟨w.heap.size, 8, none⟩ = some (.int .i64 t) := by simp [go_sem]
  have k9 : (((w.alloc (.cells #[.string x.nm, .int .i64 x.px, .int .i64 x.py, .int .i64 x.hg, .int .i64 x.jb, .int .i64 x.bk, .slice A n c, .int .i64 s, .int .i64 t, .int .i64 o, .int .i64 g] 68)).alloc (.cells #[.int .i64 a, .int .i64 b] 35)).alloc (.cells #[.int .i64 d, .int .i64 e] 35)).cell? ⟨w.heap.size, 9, none⟩ = some (.int .i64 o) := by simp [go_sem]
  have k10 : (((w.alloc (.cells #[.string x.nm, .int .i64 x.px, .int .i64 x.py, .int .i64 x.hg, .int .i64 x.jb, .int .i64 x.bk, .slice A n c, .int .i64 s, .int .i64 t, .int .i64 o, .int .i64 g] 68)).alloc (.cells #[.int .i64 a, .int .i64 b] 35)).alloc (.cells #[.int .i64 d, .int .i64 e] 35)).cell? ⟨w.heap.size, 10, none⟩ = some (.int .i64 g) := by simp [go_sem]
  have k11 : (((w.alloc (.cells #[.string x.nm, .int .i64 x.px, .int .i64 x.py, .int .i64 x.hg, .int .i64 x.jb, .int .i64 x.bk, .slice A n c, .int .i64 s, .int .i64 t, .int .i64 o, .int .i64 g] 68)).alloc (.cells #[.int .i64 a, .int .i64 b] 35)).alloc (.cells #[.int .i64 d, .int .i64 e] 35)).cell? ⟨w.heap.size + 1, 0, none⟩ = some (.int .i64 a) := by simp [go_sem]
  have k12 : (((w.alloc (.cells #[.string x.nm, .int .i64 x.px, .int .i64 x.py, .int .i64 x.hg, .int .i64 x.jb, .int .i64 x.bk, .slice A n c, .int .i64 s, .int .i64 t, .int .i64 o, .int .i64 g] 68)).alloc (.cells #[.int .i64 a, .int .i64 b] 35)).alloc (.cells #[.int .i64 d, .int .i64 e] 35)).cell? ⟨w.heap.size + 1, 1, none⟩ = some (.int .i64 b) := by simp [go_sem]
  have k13 : (((w.alloc (.cells #[.string x.nm, .int .i64 x.px, .int .i64 x.py, .int .i64 x.hg, .int .i64 x.jb, .int .i64 x.bk, .slice A n c, .int .i64 s, .int .i64 t, .int .i64 o, .int .i64 g] 68)).alloc (.cells #[.int .i64 a, .int .i64 b] 35)).alloc (.cells #[.int .i64 d, .int .i64 e] 35)).cell? ⟨w.heap.size + 2, 0, none⟩ = some (.int .i64 d) := by simp [go_sem]
  have k14 : (((w.alloc (.cells #[.string x.nm, .int .i64 x.px, .int .i64 x.py, .int .i64 x.hg, .int .i64 x.jb, .int .i64 x.bk, .slice A n c, .int .i64 s, .int .i64 t, .int .i64 o, .int .i64 g] 68)).alloc (.cells #[.int .i64 a, .int .i64 b] 35)).alloc (.cells #[.int .i64 d, .int .i64 e] 35)).cell? ⟨w.heap.size + 2, 1, none⟩ = some (.int .i64 e) := by simp [go_sem]
  go_enter Tryd.func40, Tryd.ntmps40; go_wp2_with fail
  generalize ((w.alloc (.cells #[.string x.nm, .int .i64 x.px, .int .i64 x.py, .int .i64 x.hg, .int .i64 x.jb, .int .i64 x.bk, .slice A n c, .int .i64 s, .int .i64 t, .int .i64 o, .int .i64 g] 68)).alloc (.cells #[.int .i64 a, .int .i64 b] 35)).alloc (.cells #[.int .i64 d, .int .i64 e] 35) = v0 at *
  have gw0 : ∀ X, (grw (v0) X).cell? ⟨w.heap.size, 0, none⟩ = some (.string x.nm) := grw_cell (by assumption)
  have gw1 : ∀ X, (grw (v0) X).cell? ⟨w.heap.size, 1, none⟩ = some (.int .i64 x.px) := grw_cell (by assumption)
  have gw2 : ∀ X, (grw (v0) X).cell? ⟨w.heap.size, 2, none⟩ = some (.int .i64 x.py) := grw_cell (by assumption)
  have gw3 : ∀ X, (grw (v0) X).cell? ⟨w.heap.size, 3, none⟩ = some (.int .i64 x.hg) := grw_cell (by assumption)
  have gw4 : ∀ X, (grw (v0) X).cell? ⟨w.heap.size, 4, none⟩ = some (.int .i64 x.jb) := grw_cell (by assumption)
  have gw5 : ∀ X, (grw (v0) X).cell? ⟨w.heap.size, 5, none⟩ = some (.int .i64 x.bk) := grw_cell (by assumption)
  have gw6 : ∀ X, (grw (v0) X).cell? ⟨w.heap.size, 6, none⟩ = some (.slice A n c) := grw_cell (by assumption)
  have gw7 : ∀ X, (grw (v0) X).cell? ⟨w.heap.size, 7, none⟩ = some (.int .i64 s) := grw_cell (by assumption)
  have gw8 : ∀ X, (grw (v0) X).cell? ⟨w.heap.size, 8, none⟩ = some (.int .i64 t) := grw_cell (by assumption)
  have gw9 : ∀ X, (grw (v0) X).cell? ⟨w.heap.size, 9, none⟩ = some (.int .i64 o) := grw_cell (by assumption)
  have gw10 : ∀ X, (grw (v0) X).cell? ⟨w.heap.size, 10, none⟩ = some (.int .i64 g) := grw_cell (by assumption)
  have gw11 : ∀ X, (grw (v0) X).cell? ⟨w.heap.size + 1, 0, none⟩ = some (.int .i64 a) := grw_cell (by assumption)
  have gw12 : ∀ X, (grw (v0) X).cell? ⟨w.heap.size + 1, 1, none⟩ = some (.int .i64 b) := grw_cell (by assumption)
  have gw13 : ∀ X, (grw (v0) X).cell? ⟨w.heap.size + 2, 0, none⟩ = some (.int .i64 d) := grw_cell (by assumption)
  have gw14 : ∀ X, (grw (v0) X).cell? ⟨w.heap.size + 2, 1, none⟩ = some (.int .i64 e) := grw_cell (by assumption)
  refine wp_region_grow (by kernel_rfl) (by kernel_rfl) ?_
  repeat (go_big_quiet_step (first | (go_at_call 67; (with_reducible refine grow_of (dirOf_is x A n c a b _ HX.out HF.out ?_ HE3.out)); exact HQ.out.late (grw_below _ _)) | (go_at_call 67; (with_reducible refine grow_of (dirOf_is x A n c d e _ HX.out HG.out ?_ HE4.out)); exact HQ.out.late (grw_below _ _)) | (go_at_call 68; with_reducible refine grow_of (radOf_is x A n c a b _ HX.out HF.out HE1.out)) | (go_at_call 68; with_reducible refine grow_of (radOf_is x A n c d e _ HX.out HG.out HE2.out)) | (go_at_call 50; with_reducible refine grow_of (slewOf_any s t o g D1 D2 _ hs hd1 hd2)) | (go_at_call 51; with_reducible refine grow_of (trolOf_any s t o g R1 R2 _ ht r1 r2)) | fail))
  refine wpQuiet_nil ?_
  rintro wq ⟨X, hX⟩
  have hQ_wq : Below (v0).heap.size (v0) wq := by rw [hX]; exact grw_below _ _
  clear hX gw0 gw1 gw2 gw3 gw4 gw5 gw6 gw7 gw8 gw9 gw10 gw11 gw12 gw13 gw14
  clear k0 k1 k2 k3 k4 k5 k6 k7 k8 k9 k10 k11 k12 k13 k14
  go_wp2
  all_goals (go_returns; exact ⟨ret_int (by omega), gr_then hQ_wq HB.out⟩)
def tV (q : Bool) (v : Int) : Int := if q = true then v else 0
def tC (q : Bool) : Int := if q = true then 0 else 1
def mvOk (x : Cr) (n : Nat) (s t o g a b d e : Int) : Bool := okSp s t o g && (okCr x n && (okPl a b && okPl d e))
theorem mvOk_t {x : Cr} {n : Nat} {s t o g a b d e : Int} (h : mvOk x n s t o g a b d e = true) : okSp s t o g = true ∧ okCr x n = true ∧ okPl a b = true ∧ okPl d e = true := by unfold mvOk at h; simp only [Bool.and_eq_true] at h; exact h
theorem maxI_max (a b : Int) : maxI a b = max a b := by unfold maxI; split <;> omega
theorem validSpeeds_is {a b c d : Int} {r : Bool} (hr : okSp a b c d = r) (w : World) : Calls Tryd.prog 37 #[.agg #[.int .i64 a, .int .i64 b, .int .i64 c, .int .i64 d]] w fun e w' => e = .returned (.bool r) ∧ Below w.heap.size w w' := by rw [← hr]; exact validSpeeds_any a b c d w
theorem l10Ok_is {a b c d : Int} {r : Bool} (hr : okSp a b c d = r) (w : World) : Calls Tryd.prog 32 #[.agg #[.int .i64 a, .int .i64 b, .int .i64 c, .int .i64 d]] w fun e w' => e = .returned (.bool r) ∧ Below w.heap.size w w' := by rw [← hr]; exact l10Ok_any a b c d w
theorem validCr_is {x : Cr} {A : Option Addr} {n c : Nat} {r : Bool} (hr : okCr x n = r) {w : World} (hn : n ≤ 1048576) (hz : x.zs.length = n * 2) (hk : x.nm.size ≤ 9223372036854775806) (h : SI w w.heap.size A x.zs) : Calls Tryd.prog 38 #[.agg #[.string x.nm, .int .i64 x.px, .int .i64 x.py, .int .i64 x.hg, .int .i64 x.jb, .int .i64 x.bk, .slice A n c]] w fun e w' => e = .returned (.bool r) ∧ Below w.heap.size w w' := by rw [← hr]; exact validCr_any x A n c w hn hz hk h
theorem okCr04_is {x : Cr} {A : Option Addr} {n c : Nat} {r : Bool} (hr : okCr x n = r) {w : World} {b : Nat} (hc : Cc w b x A n c) (hn : n ≤ 1048576) (hz : x.zs.length = n * 2) (hk : x.nm.size ≤ 9223372036854775806) (h : SI w w.heap.size A x.zs) : Calls Tryd.prog 33 #[.pointer (some ⟨b, 0, none⟩)] w fun e w' => e = .returned (.bool r) ∧ Below w.heap.size w w' := by rw [← hr]; exact okCr04_any x A n c b w hn hz hk hc h
theorem dir09_is (a b c d : Int) (w : World) (hu : -400000 ≤ c - a ∧ c - a ≤ 400000) (hv : -400000 ≤ d - b ∧ d - b ≤ 400000) {D : Nat} (hD : dirN (c - a) (d - b) = D) : Calls Tryd.prog 59 #[.agg #[.int .i64 a, .int .i64 b], .agg #[.int .i64 c, .int .i64 d]] w fun e w' => e = .returned (.int .i64 (D : Int)) ∧ Below w.heap.size w w' := by rw [← hD]; exact dir09_any a b c d w hu hv
theorem sq02_is (a b c d : Int) (w : World) (hu : -400000 ≤ a - c ∧ a - c ≤ 400000) (hv : -400000 ≤ b - d ∧ b - d ≤ 400000) {q : Int} (hq : sqI (a - c) (b - d) = q) : Calls Tryd.prog 61 #[.agg #[.int .i64 a, .int .i64 b], .agg #[.int .i64 c, .int .i64 d]] w fun e w' => e = .returned (.int .i64 q) ∧ Below w.heap.size w w' := by rw [← hq]; exact sq02_any a b c d w hu hv
theorem root02_is (n : Int) (w : World) (h0 : 0 ≤ n ∧ n ≤ 320000000000) {q : Int} (hq : rt n = q) : Calls Tryd.prog 60 #[.int .i64 n] w fun e w' => e = .returned (.int .i64 q) ∧ w = w' := by rw [← hq]; exact root02_any n w (by omega) (by omega)
set_option maxHeartbeats 8000000 in
set_option maxRecDepth 20000 in
theorem move10_any (x : Cr) (A : Option Addr) (n c cb : Nat) (s t o g : Int) (a b d e : Int) (w : World) (hx : okPl x.px x.py = true) (hf : okPl a b = true) (hg : okPl d e = true) (hs : 1 ≤ s ∧ s ≤ 600) (ht : 1 ≤ t ∧ t ≤ 600) (hc : Cc w cb x A n c) : Calls Tryd.prog 35 #[.pointer (some ⟨cb, 0, none⟩), .agg #[.int .i64 s, .int .i64 t, .int .i64 o, .int .i64 g], .agg #[.int .i64 a, .int .i64 b], .agg #[.int .i64 d, .int .i64 e]] w fun r w' => r = .returned (.int .i64 (mvI s t (a - x.px) (b - x.py) (d - x.px) (e - x.py))) ∧ Below w.heap.size w w' := by
  obtain ⟨u1, u2⟩ := okPl_d hx hf
  obtain ⟨u3, u4⟩ := okPl_d hx hg
  have r1 := radN_bd u1 u2
  have r2 := radN_bd u3 u4
  have v1 : -400000 ≤ x.px - a ∧ x.px - a ≤ 400000 := by omega
  have v2 : -400000 ≤ x.py - b ∧ x.py - b ≤ 400000 := by omega
  have v3 : -400000 ≤ x.px - d ∧ x.px - d ≤ 400000 := by omega
  have v4 : -400000 ≤ x.py - e ∧ x.py - e ≤ 400000 := by omega
  have q1 := (sqI_bd v1 v2).2.2
  have q2 := (sqI_bd v3 v4).2.2
  obtain ⟨S1, e5⟩ : ∃ q, sqI (x.px - a) (x.py - b) = q := ⟨_, rfl⟩
  obtain ⟨S2, e6⟩ : ∃ q, sqI (x.px - d) (x.py - e) = q := ⟨_, rfl⟩
  rw [e5] at q1
  rw [e6] at q2
  obtain ⟨R1, e1⟩ : ∃ q, radN (a - x.px) (b - x.py) = q := ⟨_, rfl⟩
  obtain ⟨R2, e2⟩ : ∃ q, radN (d - x.px) (e - x.py) = q := ⟨_, rfl⟩
  obtain ⟨D1, e3⟩ : ∃ q, dirN (a - x.px) (b - x.py) = q := ⟨_, rfl⟩
  obtain ⟨D2, e4⟩ : ∃ q, dirN (d - x.px) (e - x.py) = q := ⟨_, rfl⟩
  have hd1 : D1 ≤ 23 := by rw [← e3]; exact dirN_le _ _
  have hd2 : D2 ≤ 23 := by rw [← e4]; exact dirN_le _ _
  rw [e1] at r1
  rw [e2] at r2
  have HS1 := Lib.hid (show rt S1 = R1 by rw [← e5, rad_rev, e1])
  have HS2 := Lib.hid (show rt S2 = R2 by rw [← e6, rad_rev, e2])
  have HV := Lib.hid (show mvI s t (a - x.px) (b - x.py) (d - x.px) (e - x.py) = maxI (absI (turnI D1 D2) * s) (upI (absI (R2 - R1)) t) by unfold mvI; rw [e1, e2, e3, e4, absI_sym R1 R2, maxI_max])
  rw [HV.out]
  have HE3 := Lib.hid e3
  have HE4 := Lib.hid e4
  have HE5 := Lib.hid e5
  have HE6 := Lib.hid e6
  clear e1 e2 e3 e4 e5 e6 hx hf hg
  have ha := turn_abs D1 D2
  have hbt := turnI_bd D1 D2
  have hm1 : 0 ≤ absI (turnI D1 D2) * s := Int.mul_nonneg ha.1 (by omega)
  have hm2 : absI (turnI D1 D2) * s ≤ 12 * 600 := Int.mul_le_mul ha.2 hs.2 (by omega) (by omega)
  have hab : 0 ≤ absI (R2 - R1) ∧ absI (R2 - R1) ≤ 1000000 := by unfold absI; split <;> omega
  have HB := Lib.hid (show Below w.heap.size w (((w.alloc (.cells #[.int .i64 s, .int .i64 t, .int .i64 o, .int .i64 g] 40)).alloc (.cells #[.int .i64 a, .int .i64 b] 35)).alloc (.cells #[.int .i64 d, .int .i64 e] 35)) from gr_alloc (gr_alloc (gr_alloc (gr_refl _))))
  have HC := Lib.hid (hc.late HB.out)
  clear hc
  obtain ⟨_, k0, k1, _, _, _, _⟩ := HC.out
  have k2 : (((w.alloc (.cells #[.int .i64 s, .int .i64 t, .int .i64 o, .int .i64 g] 40)).alloc (.cells #[.int .i64 a, .int .i64 b] 35)).alloc (.cells #[.int .i64 d, .int .i64 e] 35)).cell? ⟨w.heap.size, 0, none⟩ = some (.int .i64 s) := by simp [go_sem]
  have k3 : (((w.alloc (.cells #[.int .i64 s, .int .i64 t, .int .i64 o, .int .i64 g] 40)).alloc (.cells #[.int .i64 a, .int .i64 b] 35)).alloc (.cells #[.int .i64 d, .int .i64 e] 35)).cell? ⟨w.heap.size, 1, none⟩ = some (.int .i64 t) := by simp [go_sem]
  have k4 : (((w.alloc (.cells #[.int .i64 s, .int .i64 t, .int .i64 o, .int .i64 g] 40)).alloc (.cells #[.int .i64 a, .int .i64 b] 35)).alloc (.cells #[.int .i64 d, .int .i64 e] 35)).cell? ⟨w.heap.size, 2, none⟩ = some (.int .i64 o) := by simp [go_sem]
  have k5 : (((w.alloc (.cells #[.int .i64 s, .int .i64 t, .int .i64 o, .int .i64 g] 40)).alloc (.cells #[.int .i64 a, .int .i64 b] 35)).alloc (.cells #[.int .i64 d, .int .i64 e] 35)).cell? ⟨w.heap.size, 3, none⟩ = some (.int .i64 g) := by simp [go_sem]
  have k6 : (((w.alloc (.cells #[.int .i64 s, .int .i64 t, .int .i64 o, .int .i64 g] 40)).alloc (.cells #[.int .i64 a, .int .i64 b] 35)).alloc (.cells #[.int .i64 d, .int .i64 e] 35)).cell? ⟨w.heap.size + 1, 0, none⟩ = some (.int .i64 a) := by simp [go_sem]
  have k7 : (((w.alloc (.cells #[.int .i64 s, .int .i64 t, .int .i64 o, .int .i64 g] 40)).alloc (.cells #[.int .i64 a, .int .i64 b] 35)).alloc (.cells #[.int .i64 d, .int .i64 e] 35)).cell? ⟨w.heap.size + 1, 1, none⟩ = some (.int .i64 b) := by simp [go_sem]
  have k8 : (((w.alloc (.cells #[.int .i64 s, .int .i64 t, .int .i64 o, .int .i64 g] 40)).alloc (.cells #[.int .i64 a, .int .i64 b] 35)).alloc (.cells #[.int .i64 d, .int .i64 e] 35)).cell? ⟨w.heap.size + 2, 0, none⟩ = some (.int .i64 d) := by simp [go_sem]
  have k9 : (((w.alloc (.cells #[.int .i64 s, .int .i64 t, .int .i64 o, .int .i64 g] 40)).alloc (.cells #[.int .i64 a, .int .i64 b] 35)).alloc (.cells #[.int .i64 d, .int .i64 e] 35)).cell? ⟨w.heap.size + 2, 1, none⟩ = some (.int .i64 e) := by simp [go_sem]
  have hcb := lt_of_cell k0
  dsimp only at hcb
  go_enter Tryd.func35, Tryd.ntmps35; go_wp2_with fail
  generalize ((w.alloc (.cells #[.int .i64 s, .int .i64 t, .int .i64 o, .int .i64 g] 40)).alloc (.cells #[.int .i64 a, .int .i64 b] 35)).alloc (.cells #[.int .i64 d, .int .i64 e] 35) = v0 at *
  have gw0 : ∀ X, (grw (v0) X).cell? ⟨cb, 1, none⟩ = some (.int .i64 x.px) := grw_cell (by assumption)
  have gw1 : ∀ X, (grw (v0) X).cell? ⟨cb, 2, none⟩ = some (.int .i64 x.py) := grw_cell (by assumption)
  have gw2 : ∀ X, (grw (v0) X).cell? ⟨w.heap.size, 0, none⟩ = some (.int .i64 s) := grw_cell (by assumption)
  have gw3 : ∀ X, (grw (v0) X).cell? ⟨w.heap.size, 1, none⟩ = some (.int .i64 t) := grw_cell (by assumption)
  have gw4 : ∀ X, (grw (v0) X).cell? ⟨w.heap.size, 2, none⟩ = some (.int .i64 o) := grw_cell (by assumption)
  have gw5 : ∀ X, (grw (v0) X).cell? ⟨w.heap.size, 3, none⟩ = some (.int .i64 g) := grw_cell (by assumption)
  have gw6 : ∀ X, (grw (v0) X).cell? ⟨w.heap.size + 1, 0, none⟩ = some (.int .i64 a) := grw_cell (by assumption)
  have gw7 : ∀ X, (grw (v0) X).cell? ⟨w.heap.size + 1, 1, none⟩ = some (.int .i64 b) := grw_cell (by assumption)
  have gw8 : ∀ X, (grw (v0) X).cell? ⟨w.heap.size + 2, 0, none⟩ = some (.int .i64 d) := grw_cell (by assumption)
  have gw9 : ∀ X, (grw (v0) X).cell? ⟨w.heap.size + 2, 1, none⟩ = some (.int .i64 e) := grw_cell (by assumption)
  refine wp_region_grow (by kernel_rfl) (by kernel_rfl) ?_
  repeat (go_big_quiet_step (first | (go_at_call 59; with_reducible refine grow_of (dir09_is x.px x.py a b _ u1 u2 HE3.out)) | (go_at_call 59; with_reducible refine grow_of (dir09_is x.px x.py d e _ u3 u4 HE4.out)) | (go_at_call 58; with_reducible refine grow_same (turn02_any (D1 : Int) (D2 : Int) _ (by omega) (by omega))) | (go_at_call 57; with_reducible refine grow_same (size_any _ _ (by omega))) | fail))
  refine wpQuiet_nil ?_
  rintro x1 ⟨X, hX⟩
  have hQ_x1 : Below (v0).heap.size (v0) x1 := by rw [hX]; exact grw_below _ _
  clear hX gw0 gw1 gw2 gw3 gw4 gw5 gw6 gw7 gw8 gw9
  replace k0 := keepc hQ_x1 k0
  replace k1 := keepc hQ_x1 k1
  replace k2 := keepc hQ_x1 k2
  replace k3 := keepc hQ_x1 k3
  replace k4 := keepc hQ_x1 k4
  replace k5 := keepc hQ_x1 k5
  replace k6 := keepc hQ_x1 k6
  replace k7 := keepc hQ_x1 k7
  replace k8 := keepc hQ_x1 k8
  replace k9 := keepc hQ_x1 k9
  replace HB := Lib.hid (gr_then hQ_x1 HB.out)
  have zx1 := hQ_x1.size
  clear hQ_x1
  go_wp2_with fail
  have gw0 : ∀ X, (grw (x1) X).cell? ⟨cb, 1, none⟩ = some (.int .i64 x.px) := grw_cell (by assumption)
  have gw1 : ∀ X, (grw (x1) X).cell? ⟨cb, 2, none⟩ = some (.int .i64 x.py) := grw_cell (by assumption)
  have gw2 : ∀ X, (grw (x1) X).cell? ⟨w.heap.size, 0, none⟩ = some (.int .i64 s) := grw_cell (by assumption)
  have gw3 : ∀ X, (grw (x1) X).cell? ⟨w.heap.size, 1, none⟩ = some (.int .i64 t) := grw_cell (by assumption)
  have gw4 : ∀ X, (grw (x1) X).cell? ⟨w.heap.size, 2, none⟩ = some (.int .i64 o) := grw_cell (by assumption)
  have gw5 : ∀ X, (grw (x1) X).cell? ⟨w.heap.size, 3, none⟩ = some (.int .i64 g) := grw_cell (by assumption)
  have gw6 : ∀ X, (grw (x1) X).cell? ⟨w.heap.size + 1, 0, none⟩ = some (.int .i64 a) := grw_cell (by assumption)
  have gw7 : ∀ X, (grw (x1) X).cell? ⟨w.heap.size + 1, 1, none⟩ = some (.int .i64 b) := grw_cell (by assumption)
  have gw8 : ∀ X, (grw (x1) X).cell? ⟨w.heap.size + 2, 0, none⟩ = some (.int .i64 d) := grw_cell (by assumption)
  have gw9 : ∀ X, (grw (x1) X).cell? ⟨w.heap.size + 2, 1, none⟩ = some (.int .i64 e) := grw_cell (by assumption)
  refine wp_region_grow (by kernel_rfl) (by kernel_rfl) ?_
  repeat (go_big_quiet_step (first | (go_at_call 61; with_reducible refine grow_of (sq02_is x.px x.py a b _ v1 v2 HE5.out)) | (go_at_call 60; with_reducible refine grow_same (root02_is S1 _ q1 HS1.out)) | fail))
  refine wpQuiet_nil ?_
  rintro x2 ⟨X, hX⟩
  have hQ_x2 : Below (x1).heap.size (x1) x2 := by rw [hX]; exact grw_below _ _
  clear hX gw0 gw1 gw2 gw3 gw4 gw5 gw6 gw7 gw8 gw9
  replace k0 := keepc hQ_x2 k0
  replace k1 := keepc hQ_x2 k1
  replace k2 := keepc hQ_x2 k2
  replace k3 := keepc hQ_x2 k3
  replace k4 := keepc hQ_x2 k4
  replace k5 := keepc hQ_x2 k5
  replace k6 := keepc hQ_x2 k6
  replace k7 := keepc hQ_x2 k7
  replace k8 := keepc hQ_x2 k8
  replace k9 := keepc hQ_x2 k9
  replace HB := Lib.hid (gr_then hQ_x2 HB.out)
  have zx2 := hQ_x2.size
  clear hQ_x2
  go_wp2_with fail
  have gw0 : ∀ X, (grw (x2) X).cell? ⟨cb, 1, none⟩ = some (.int .i64 x.px) := grw_cell (by assumption)
  have gw1 : ∀ X, (grw (x2) X).cell? ⟨cb, 2, none⟩ = some (.int .i64 x.py) := grw_cell (by assumption)
  have gw2 : ∀ X, (grw (x2) X).cell? ⟨w.heap.size, 0, none⟩ = some (.int .i64 s) := grw_cell (by assumption)
  have gw3 : ∀ X, (grw (x2) X).cell? ⟨w.heap.size, 1, none⟩ = some (.int .i64 t) := grw_cell (by assumption)
  have gw4 : ∀ X, (grw (x2) X).cell? ⟨w.heap.size, 2, none⟩ = some (.int .i64 o) := grw_cell (by assumption)
  have gw5 : ∀ X, (grw (x2) X).cell? ⟨w.heap.size, 3, none⟩ = some (.int .i64 g) := grw_cell (by assumption)
  have gw6 : ∀ X, (grw (x2) X).cell? ⟨w.heap.size + 1, 0, none⟩ = some (.int .i64 a) := grw_cell (by assumption)
  have gw7 : ∀ X, (grw (x2) X).cell? ⟨w.heap.size + 1, 1, none⟩ = some (.int .i64 b) := grw_cell (by assumption)
  have gw8 : ∀ X, (grw (x2) X).cell? ⟨w.heap.size + 2, 0, none⟩ = some (.int .i64 d) := grw_cell (by assumption)
  have gw9 : ∀ X, (grw (x2) X).cell? ⟨w.heap.size + 2, 1, none⟩ = some (.int .i64 e) := grw_cell (by assumption)
  refine wp_region_grow (by kernel_rfl) (by kernel_rfl) ?_
  repeat (go_big_quiet_step (first | (go_at_call 61; with_reducible refine grow_of (sq02_is x.px x.py d e _ v3 v4 HE6.out)) | (go_at_call 60; with_reducible refine grow_same (root02_is S2 _ q2 HS2.out)) | fail))
  refine wpQuiet_nil ?_
  rintro x3 ⟨X, hX⟩
  have hQ_x3 : Below (x2).heap.size (x2) x3 := by rw [hX]; exact grw_below _ _
  clear hX gw0 gw1 gw2 gw3 gw4 gw5 gw6 gw7 gw8 gw9
  replace k0 := keepc hQ_x3 k0
  replace k1 := keepc hQ_x3 k1
  replace k2 := keepc hQ_x3 k2
  replace k3 := keepc hQ_x3 k3
  replace k4 := keepc hQ_x3 k4
  replace k5 := keepc hQ_x3 k5
  replace k6 := keepc hQ_x3 k6
  replace k7 := keepc hQ_x3 k7
  replace k8 := keepc hQ_x3 k8
  replace k9 := keepc hQ_x3 k9
  replace HB := Lib.hid (gr_then hQ_x3 HB.out)
  have zx3 := hQ_x3.size
  clear hQ_x3
  go_wp2_with fail
  have hw1 : IntKind.i64.wrap (absI (turnI D1 D2) * s) = absI (turnI D1 D2) * s := IntWalk.i64_in _ (by omega)
  have hw2 : IntKind.i64.wrap (R2 - R1) = R2 - R1 := IntWalk.i64_in _ (by omega)
  have gw0 : ∀ X, (grw (x3) X).cell? ⟨cb, 1, none⟩ = some (.int .i64 x.px) := grw_cell (by assumption)
  have gw1 : ∀ X, (grw (x3) X).cell? ⟨cb, 2, none⟩ = some (.int .i64 x.py) := grw_cell (by assumption)
  have gw2 : ∀ X, (grw (x3) X).cell? ⟨w.heap.size, 0, none⟩ = some (.int .i64 s) := grw_cell (by assumption)
  have gw3 : ∀ X, (grw (x3) X).cell? ⟨w.heap.size, 1, none⟩ = some (.int .i64 t) := grw_cell (by assumption)
  have gw4 : ∀ X, (grw (x3) X).cell? ⟨w.heap.size, 2, none⟩ = some (.int .i64 o) := grw_cell (by assumption)
  have gw5 : ∀ X, (grw (x3) X).cell? ⟨w.heap.size, 3, none⟩ = some (.int .i64 g) := grw_cell (by assumption)
  have gw6 : ∀ X, (grw (x3) X).cell? ⟨w.heap.size + 1, 0, none⟩ = some (.int .i64 a) := grw_cell (by assumption)
  have gw7 : ∀ X, (grw (x3) X).cell? ⟨w.heap.size + 1, 1, none⟩ = some (.int .i64 b) := grw_cell (by assumption)
  have gw8 : ∀ X, (grw (x3) X).cell? ⟨w.heap.size + 2, 0, none⟩ = some (.int .i64 d) := grw_cell (by assumption)
  have gw9 : ∀ X, (grw (x3) X).cell? ⟨w.heap.size + 2, 1, none⟩ = some (.int .i64 e) := grw_cell (by assumption)
  refine wp_region_grow (by kernel_rfl) (by kernel_rfl) ?_
  repeat (go_big_quiet_step (first | (go_at_call 57; with_reducible refine grow_same (size_any _ _ (by omega))) | (go_at_call 63; with_reducible refine grow_same (up_any _ _ _ (by omega) (by omega) (by omega))) | (go_at_call 62; with_reducible refine grow_same (max00_any _ _ _)) | fail))
  refine wpQuiet_nil ?_
  rintro x4 ⟨X, hX⟩
  have hQ_x4 : Below (x3).heap.size (x3) x4 := by rw [hX]; exact grw_below _ _
  clear hX gw0 gw1 gw2 gw3 gw4 gw5 gw6 gw7 gw8 gw9
  replace HB := Lib.hid (gr_then hQ_x4 HB.out)
  clear k0 k1 k2 k3 k4 k5 k6 k7 k8 k9 hQ_x4
  go_wp2
  go_returns
  exact ⟨rfl, HB.out⟩
end Go.Proofs.YtoglmeiffidcbaaDoor
