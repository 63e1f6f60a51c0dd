/- SlowerSpeeds, the program. -/
import Derived.Test.YtoglmeiffidcbaaDoorSlow
import Derived.Deep.DeepCutAuto
namespace Go.Proofs.YtoglmeiffidcbaaDoor
open Go.RowKit
theorem lt_of_cell {w : World} {a : Addr} {v : Value} (h : w.cell? a = some v) : a.block < w.heap.size := by
  rcases Nat.lt_or_ge a.block w.heap.size with hl | hg
  · exact hl
  · simp [World.cell?, Array.getElem?_eq_none hg] at h
theorem keepc {W w1 : World} {b o : Nat} {v : Value} (hb : Below W.heap.size W w1) (h : W.cell? ⟨b, o, none⟩ = some v) : w1.cell? ⟨b, o, none⟩ = some v :=
  (hb.cell (p := ⟨b, o, none⟩) (lt_of_cell h)).trans h
/-- block b is a struct of four integers -/
def Box4 (w : World) (b t : Nat) (x y z u : Int) : Prop := w.heap[b]? = some (.cells #[.int .i64 x, .int .i64 y, .int .i64 z, .int .i64 u] t (0, 0))
theorem Box4.lt {w : World} {b t : Nat} {x y z u : Int} (h : Box4 w b t x y z u) : b < w.heap.size := by
  rcases Nat.lt_or_ge b w.heap.size with hl | hg
  · exact hl
  · unfold Box4 at h; rw [Array.getElem?_eq_none hg] at h; cases h
theorem Box4.cs {w : World} {b t : Nat} {x y z u : Int} (h : Box4 w b t x y z u) : w.cell? ⟨b, 0, none⟩ = some (.int .i64 x) ∧ w.cell? ⟨b, 1, none⟩ = some (.int .i64 y) ∧ w.cell? ⟨b, 2, none⟩ = some (.int .i64 z) ∧ w.cell? ⟨b, 3, none⟩ = some (.int .i64 u) := by
  refine ⟨?_, ?_, ?_, ?_⟩ <;> (rw [cell_of_row _ _ _ _ _ _ h]; rfl)
theorem Box4.fr {w : World} {b t : Nat} {x y z u : Int} (h : Box4 w b t x y z u) (j : Nat) : w.frozen? ⟨b, j, none⟩ = false := by
  unfold Box4 at h
  simp [World.frozen?, h]
theorem Box4.late {w w' : World} {b t : Nat} {x y z u : Int} (h : Box4 w b t x y z u) (hb : Below w.heap.size w w') : Box4 w' b t x y z u := (hb.block b h.lt).trans h
set_option maxHeartbeats 8000000 in
set_option maxRecDepth 20000 in
theorem implSlow_any (a b c d p : Int) (w : World) : Calls Tryd.prog 19 #[.agg #[.int .i64 a, .int .i64 b, .int .i64 c, .int .i64 d], .int .i64 p] w fun e w' => e = .returned (.tuple #[.agg #[.int .i64 (slV (slowOk (okSp a b c d) a b c d p) (slowA a p)), .int .i64 (slV (slowOk (okSp a b c d) a b c d p) (slowB b p)), .int .i64 (slV (slowOk (okSp a b c d) a b c d p) (slowB c p)), .int .i64 (slV (slowOk (okSp a b c d) a b c d p) (slowA d p))], .int .i64 (slowE (okSp a b c d) a b c d p)]) ∧ Below w.heap.size w w' := by
  have HP := Lib.hid (show Box4 ((w.alloc (.cells #[.int .i64 a, .int .i64 b, .int .i64 c, .int .i64 d] 40)).alloc (.cells #[.int .i64 0, .int .i64 0, .int .i64 0, .int .i64 0] 40)) w.heap.size 40 a b c d from by have h := heap_alloc_new w (.cells #[.int .i64 a, .int .i64 b, .int .i64 c, .int .i64 d] 40); exact (Below.heap_alloc _ _ _ (by simp)).trans h)
  have HR := Lib.hid (show Box4 ((w.alloc (.cells #[.int .i64 a, .int .i64 b, .int .i64 c, .int .i64 d] 40)).alloc (.cells #[.int .i64 0, .int .i64 0, .int .i64 0, .int .i64 0] 40)) (w.heap.size + 1) 40 0 0 0 0 from by have h := heap_alloc_new (w.alloc (.cells #[.int .i64 a, .int .i64 b, .int .i64 c, .int .i64 d] 40)) (.cells #[.int .i64 0, .int .i64 0, .int .i64 0, .int .i64 0] 40); rw [World.size_alloc] at h; exact h)
  have HB := Lib.hid (show Below w.heap.size w ((w.alloc (.cells #[.int .i64 a, .int .i64 b, .int .i64 c, .int .i64 d] 40)).alloc (.cells #[.int .i64 0, .int .i64 0, .int .i64 0, .int .i64 0] 40)) from gr_alloc (gr_alloc (gr_refl w)))
  have hz : w.heap.size + 2 ≤ ((w.alloc (.cells #[.int .i64 a, .int .i64 b, .int .i64 c, .int .i64 d] 40)).alloc (.cells #[.int .i64 0, .int .i64 0, .int .i64 0, .int .i64 0] 40)).heap.size := by simp
  obtain ⟨G, hG⟩ : ∃ G, slowOk (okSp a b c d) a b c d p = G := ⟨_, rfl⟩
  obtain ⟨E, hE⟩ : ∃ E, slowE (okSp a b c d) a b c d p = E := ⟨_, rfl⟩
  rw [hG, hE]
  have HG := Lib.hid hG
  have HE := Lib.hid hE
  clear hG hE
  cases hok : okSp a b c d
  · have HV : Hid (∀ w : World, Calls Tryd.prog 37 #[.agg #[.int .i64 a, .int .i64 b, .int .i64 c, .int .i64 d]] w fun e w' => e = .returned (.bool false) ∧ Below w.heap.size w w') := fun w => by have h := validSpeeds_any a b c d w; rw [hok] at h; exact h
    have HG2 := Lib.hid (HG.out.symm.trans (show slowOk (okSp a b c d) a b c d p = false by simp [slowOk, hok]))
    have HE2 := Lib.hid (HE.out.symm.trans (show slowE (okSp a b c d) a b c d p = 1 from if_neg (by simp [hok])))
    clear hok
    go_enter Tryd.func19, Tryd.ntmps19; go_wp2_with fail
    generalize (w.alloc (.cells #[.int .i64 a, .int .i64 b, .int .i64 c, .int .i64 d] 40)).alloc (.cells #[.int .i64 0, .int .i64 0, .int .i64 0, .int .i64 0] 40) = v0 at *
    go_at_call 37
    (with_reducible refine (HV.out _).mono ?_)
    rintro e w1 ⟨rfl, hb1⟩
    replace HP := Lib.hid (HP.out.late hb1)
    replace HR := Lib.hid (HR.out.late hb1)
    replace HB := Lib.hid (gr_then hb1 HB.out)
    have hy := hb1.size
    clear hb1
    obtain ⟨p0, p1, p2, p3⟩ := HP.out.cs
    obtain ⟨r0, r1, r2, r3⟩ := HR.out.cs
    have f0 := HR.out.fr 0
    have f1 := HR.out.fr 1
    have f2 := HR.out.fr 2
    have f3 := HR.out.fr 3
    go_wp2
    refine bodyPost_ret (v := .tuple #[.agg #[.int .i64 (0), .int .i64 (0), .int .i64 (0), .int .i64 (0)], .int .i64 1]) (by simp [results, Tryd.results19, go_sem, *]) rfl ?_
    exact ⟨ret_slow (slV_n HG2.out).symm (slV_n HG2.out).symm (slV_n HG2.out).symm (slV_n HG2.out).symm HE2.out.symm, (((HB.out.setCell (by simp) _).setCell (by simp) _).setCell (by simp) _).setCell (by simp) _⟩
  have HV : Hid (∀ w : World, Calls Tryd.prog 37 #[.agg #[.int .i64 a, .int .i64 b, .int .i64 c, .int .i64 d]] w fun e w' => e = .returned (.bool true) ∧ Below w.heap.size w w') := fun w => by have h := validSpeeds_any a b c d w; rw [hok] at h; exact h
  cases hi : inI p 100 1000
  · have HI : Hid (∀ w : World, Calls Tryd.prog 28 #[.int .i64 p, .int .i64 100, .int .i64 1000] w fun e w' => e = .returned (.bool false) ∧ w = w') := fun w => by have h := within_any p 100 1000 w; rw [hi] at h; exact h
    have HG2 := Lib.hid (HG.out.symm.trans (show slowOk (okSp a b c d) a b c d p = false by simp [slowOk, hi]))
    have HE2 := Lib.hid (HE.out.symm.trans (show slowE (okSp a b c d) a b c d p = 2 from (if_pos hok).trans (if_neg (by simp [hi]))))
    clear hok hi
    go_enter Tryd.func19, Tryd.ntmps19; go_wp2_with fail
    generalize (w.alloc (.cells #[.int .i64 a, .int .i64 b, .int .i64 c, .int .i64 d] 40)).alloc (.cells #[.int .i64 0, .int .i64 0, .int .i64 0, .int .i64 0] 40) = v0 at *
    go_at_call 37
    (with_reducible refine (HV.out _).mono ?_)
    rintro e w1 ⟨rfl, hb1⟩
    replace HP := Lib.hid (HP.out.late hb1)
    replace HR := Lib.hid (HR.out.late hb1)
    replace HB := Lib.hid (gr_then hb1 HB.out)
    have hy := hb1.size
    clear hb1
    obtain ⟨p0, p1, p2, p3⟩ := HP.out.cs
    obtain ⟨r0, r1, r2, r3⟩ := HR.out.cs
    have f0 := HR.out.fr 0
    have f1 := HR.out.fr 1
    have f2 := HR.out.fr 2
    have f3 := HR.out.fr 3
    go_wp2_with (go_at_call 28; (with_reducible refine (HI.out _).mono ?_); rintro e w2 ⟨rfl, rfl⟩)
    refine bodyPost_ret (v := .tuple #[.agg #[.int .i64 (0), .int .i64 (0), .int .i64 (0), .int .i64 (0)], .int .i64 2]) (by simp [results, Tryd.results19, go_sem, *]) rfl ?_
    exact ⟨ret_slow (slV_n HG2.out).symm (slV_n HG2.out).symm (slV_n HG2.out).symm (slV_n HG2.out).symm HE2.out.symm, (((HB.out.setCell (by simp) _).setCell (by simp) _).setCell (by simp) _).setCell (by simp) _⟩
  have HI : Hid (∀ w : World, Calls Tryd.prog 28 #[.int .i64 p, .int .i64 100, .int .i64 1000] w fun e w' => e = .returned (.bool true) ∧ w = w') := fun w => by have h := within_any p 100 1000 w; rw [hi] at h; exact h
  obtain ⟨b1, b2, b3, b4, b5, b6, b7, b8⟩ := okSp_t hok
  obtain ⟨hp1, hp2⟩ := inI_t hi
  have HOK := Lib.hid hok
  have HII := Lib.hid hi
  clear hok hi
  have hpn : ¬ p = 0 := by omega
  have hpm : ¬ p = -1 := by omega
  have hpp : 0 < p := by omega
  have ha := slowA_bd b1 b2 hp1 hp2
  have hd := slowA_bd b7 b8 hp1 hp2
  have hb := slowB_bd b3 b4 hp1
  have hcc := slowB_bd b5 b6 hp1
  have wa : IntKind.i64.wrap (a * p) = a * p := IntWalk.i64_in _ (by omega)
  have wd : IntKind.i64.wrap (d * p) = d * p := IntWalk.i64_in _ (by omega)
  have wb : IntKind.i64.wrap (b * 100) = b * 100 := IntWalk.i64_in _ (by omega)
  have tb : (b * 100).tdiv p = b * 100 / p := Int.tdiv_eq_ediv_of_nonneg (by omega)
  have qb : IntKind.i64.wrap (b * 100 / p) = b * 100 / p := IntWalk.i64_in _ (by omega)
  have wc : IntKind.i64.wrap (c * 100) = c * 100 := IntWalk.i64_in _ (by omega)
  have tc : (c * 100).tdiv p = c * 100 / p := Int.tdiv_eq_ediv_of_nonneg (by omega)
  have qc : IntKind.i64.wrap (c * 100 / p) = c * 100 / p := IntWalk.i64_in _ (by omega)
  have HCa : Hid (∀ w : World, Calls Tryd.prog 47 #[.int .i64 (a * p), .int .i64 100] w fun e w' => e = .returned (.int .i64 (slowA a p)) ∧ w = w') := fun w => ceil_any (a * p) 100 w (by omega) (by omega) (by omega)
  have HCd : Hid (∀ w : World, Calls Tryd.prog 47 #[.int .i64 (d * p), .int .i64 100] w fun e w' => e = .returned (.int .i64 (slowA d p)) ∧ w = w') := fun w => ceil_any (d * p) 100 w (by omega) (by omega) (by omega)
  go_enter Tryd.func19, Tryd.ntmps19; go_wp2_with fail
  generalize (w.alloc (.cells #[.int .i64 a, .int .i64 b, .int .i64 c, .int .i64 d] 40)).alloc (.cells #[.int .i64 0, .int .i64 0, .int .i64 0, .int .i64 0] 40) = v0 at *
  go_at_call 37
  (with_reducible refine (HV.out _).mono ?_)
  rintro e w1 ⟨rfl, hb1⟩
  replace HP := Lib.hid (HP.out.late hb1)
  replace HR := Lib.hid (HR.out.late hb1)
  replace HB := Lib.hid (gr_then hb1 HB.out)
  have hy := hb1.size
  clear hb1
  obtain ⟨p0, p1, p2, p3⟩ := HP.out.cs
  obtain ⟨r0, r1, r2, r3⟩ := HR.out.cs
  have f0 := HR.out.fr 0
  have f1 := HR.out.fr 1
  have f2 := HR.out.fr 2
  have f3 := HR.out.fr 3
  go_wp2_with (go_at_call 28; (with_reducible refine (HI.out _).mono ?_); rintro e w2 ⟨rfl, rfl⟩)
  go_cut [6] (fun p6 wx => ∃ gg, p6 = .pointer (some ⟨gg, 0, none⟩) ∧ Box4 wx gg 40 (slowA a p) (slowB b p) (slowB c p) (slowA d p) ∧ Below w1.heap.size w1 wx)
  case first =>
    go_region_held3 (fun w' => w'.cell? ⟨w.heap.size, 0, none⟩ = some (.int .i64 a) ∧ w'.cell? ⟨w.heap.size, 1, none⟩ = some (.int .i64 b) ∧ w'.cell? ⟨w.heap.size, 2, none⟩ = some (.int .i64 c) ∧ w'.cell? ⟨w.heap.size, 3, none⟩ = some (.int .i64 d)) (exact ⟨keepc (by repeat' first | exact gr_refl _ | with_reducible assumption | with_reducible apply gr_alloc | with_reducible apply gr_set | with_reducible apply gr_drew | with_reducible apply gr_drewN | exact Nat.le_add_right _ _ | exact Nat.le_refl _ | (dsimp only; omega) | (refine gr_then (by with_reducible assumption) ?_)) p0, keepc (by repeat' first | exact gr_refl _ | with_reducible assumption | with_reducible apply gr_alloc | with_reducible apply gr_set | with_reducible apply gr_drew | with_reducible apply gr_drewN | exact Nat.le_add_right _ _ | exact Nat.le_refl _ | (dsimp only; omega) | (refine gr_then (by with_reducible assumption) ?_)) p1, keepc (by repeat' first | exact gr_refl _ | with_reducible assumption | with_reducible apply gr_alloc | with_reducible apply gr_set | with_reducible apply gr_drew | with_reducible apply gr_drewN | exact Nat.le_add_right _ _ | exact Nat.le_refl _ | (dsimp only; omega) | (refine gr_then (by with_reducible assumption) ?_)) p2, keepc (by repeat' first | exact gr_refl _ | with_reducible assumption | with_reducible apply gr_alloc | with_reducible apply gr_set | with_reducible apply gr_drew | with_reducible apply gr_drewN | exact Nat.le_add_right _ _ | exact Nat.le_refl _ | (dsimp only; omega) | (refine gr_then (by with_reducible assumption) ?_)) p3⟩) (first | (go_at_call 47; (with_reducible refine (HCa.out _).mono ?_); rintro e w2 ⟨rfl, rfl⟩) | (go_at_call 47; (with_reducible refine (HCd.out _).mono ?_); rintro e w2 ⟨rfl, rfl⟩))
    all_goals (go_wp2; go_meet; refine ⟨_, rfl, ?_, by repeat' first | exact gr_refl _ | with_reducible assumption | with_reducible apply gr_alloc | with_reducible apply gr_set | with_reducible apply gr_drew | with_reducible apply gr_drewN | exact Nat.le_add_right _ _ | exact Nat.le_refl _ | (refine gr_then (by with_reducible assumption) ?_)⟩; exact heap_alloc_new _ _)
  case rest =>
    obtain ⟨gg, rfl, hx, hbx⟩ := hcut
    clear p0 p1 p2 p3 r0 r1 r2 r3 f0 f1 f2 f3
    replace HR := Lib.hid (HR.out.late hbx)
    replace HB := Lib.hid (gr_then hbx HB.out)
    have HX := Lib.hid hx
    obtain ⟨s0, s1, s2, s3⟩ := hx.cs
    clear hx hbx
    cases hk : okSp (slowA a p) (slowB b p) (slowB c p) (slowA d p)
    · have HW : Hid (∀ w : World, Calls Tryd.prog 37 #[.agg #[.int .i64 (slowA a p), .int .i64 (slowB b p), .int .i64 (slowB c p), .int .i64 (slowA d p)]] w fun e w' => e = .returned (.bool false) ∧ Below w.heap.size w w') := fun w => by have h := validSpeeds_any (slowA a p) (slowB b p) (slowB c p) (slowA d p) w; rw [hk] at h; exact h
      have HG2 := Lib.hid (HG.out.symm.trans (show slowOk (okSp a b c d) a b c d p = false by simp [slowOk, HOK.out, HII.out, hk]))
      have HE2 := Lib.hid (HE.out.symm.trans (show slowE (okSp a b c d) a b c d p = 5 from (if_pos HOK.out).trans ((if_pos HII.out).trans (if_neg (by simp [hk])))))
      clear hk
      go_wp2_with fail
      go_at_call 37
      (with_reducible refine (HW.out _).mono ?_)
      rintro e w3 ⟨rfl, hb3⟩
      replace HR := Lib.hid (HR.out.late hb3)
      replace HX := Lib.hid (HX.out.late hb3)
      replace HB := Lib.hid (gr_then hb3 HB.out)
      clear hb3 s0 s1 s2 s3
      obtain ⟨s0, s1, s2, s3⟩ := HX.out.cs
      obtain ⟨r0, r1, r2, r3⟩ := HR.out.cs
      have f0 := HR.out.fr 0
      have f1 := HR.out.fr 1
      have f2 := HR.out.fr 2
      have f3 := HR.out.fr 3
      go_wp2
      refine bodyPost_ret (v := .tuple #[.agg #[.int .i64 (0), .int .i64 (0), .int .i64 (0), .int .i64 (0)], .int .i64 5]) (by simp [results, Tryd.results19, go_sem, *]) rfl ?_
      exact ⟨ret_slow (slV_n HG2.out).symm (slV_n HG2.out).symm (slV_n HG2.out).symm (slV_n HG2.out).symm HE2.out.symm, (((HB.out.setCell (by simp) _).setCell (by simp) _).setCell (by simp) _).setCell (by simp) _⟩
    · have HW : Hid (∀ w : World, Calls Tryd.prog 37 #[.agg #[.int .i64 (slowA a p), .int .i64 (slowB b p), .int .i64 (slowB c p), .int .i64 (slowA d p)]] w fun e w' => e = .returned (.bool true) ∧ Below w.heap.size w w') := fun w => by have h := validSpeeds_any (slowA a p) (slowB b p) (slowB c p) (slowA d p) w; rw [hk] at h; exact h
      have HG2 := Lib.hid (HG.out.symm.trans (show slowOk (okSp a b c d) a b c d p = true by simp [slowOk, HOK.out, HII.out, hk]))
      have HE2 := Lib.hid (HE.out.symm.trans (show slowE (okSp a b c d) a b c d p = 0 from (if_pos HOK.out).trans ((if_pos HII.out).trans (if_pos hk))))
      clear hk
      go_wp2_with fail
      go_at_call 37
      (with_reducible refine (HW.out _).mono ?_)
      rintro e w3 ⟨rfl, hb3⟩
      replace HR := Lib.hid (HR.out.late hb3)
      replace HX := Lib.hid (HX.out.late hb3)
      replace HB := Lib.hid (gr_then hb3 HB.out)
      clear hb3 s0 s1 s2 s3
      obtain ⟨s0, s1, s2, s3⟩ := HX.out.cs
      obtain ⟨r0, r1, r2, r3⟩ := HR.out.cs
      have f0 := HR.out.fr 0
      have f1 := HR.out.fr 1
      have f2 := HR.out.fr 2
      have f3 := HR.out.fr 3
      go_wp2
      refine bodyPost_ret (v := .tuple #[.agg #[.int .i64 (slowA a p), .int .i64 (slowB b p), .int .i64 (slowB c p), .int .i64 (slowA d p)], .int .i64 0]) (by simp [results, Tryd.results19, go_sem, *]) rfl ?_
      exact ⟨ret_slow (slV_y HG2.out).symm (slV_y HG2.out).symm (slV_y HG2.out).symm (slV_y HG2.out).symm HE2.out.symm, (((HB.out.setCell (by simp) _).setCell (by simp) _).setCell (by simp) _).setCell (by simp) _⟩
end Go.Proofs.YtoglmeiffidcbaaDoor
