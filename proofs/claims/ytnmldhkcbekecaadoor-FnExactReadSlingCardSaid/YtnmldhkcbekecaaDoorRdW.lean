/- The program's reader of slings: the walk. -/
import Derived.Test.YtnmldhkcbekecaaDoorRdP
import Derived.Deep.DeepCutAuto
namespace Go.Proofs.YtnmldhkcbekecaaDoor
open Go.RowKit Go.Deep
set_option maxHeartbeats 8000000 in
set_option maxRecDepth 20000 in
theorem implRd_any (t : ByteArray) (w : World) (hs : t.size ≤ 1048576) (hV : RVars w) : Calls Tryd.prog 9 #[.string t] w (RetRd t w) := by
  have HX := Lib.hid (Box4.new w 25 0 0 0 0)
  have HB := Lib.hid (show Below w.heap.size w (w.alloc (.cells #[.int .i64 0, .int .i64 0, .int .i64 0, .int .i64 0] 25)) from gr_alloc (gr_refl w))
  have HV := Lib.hid (hV.late HB.out)
  clear hV
  have hz : w.heap.size + 1 ≤ (w.alloc (.cells #[.int .i64 0, .int .i64 0, .int .i64 0, .int .i64 0] 25)).heap.size := by simp
  obtain ⟨g1, g2⟩ := ct_size t 120
  obtain ⟨c1, e9⟩ : ∃ q, ctA t 120 = q := ⟨_, rfl⟩
  rw [e9] at g1
  have HpA := Lib.hid e9
  clear e9
  obtain ⟨t1, e9⟩ : ∃ q, ctB t 120 = q := ⟨_, rfl⟩
  rw [e9] at g2
  have HpB := Lib.hid e9
  clear e9
  obtain ⟨kp, e9⟩ : ∃ q, ctK t 120 = q := ⟨_, rfl⟩
  have HpK := Lib.hid e9
  clear e9
  have zp1 := g1
  have zp2 := g2
  clear g1 g2
  obtain ⟨g1, g2⟩ := ct_size t1 47
  obtain ⟨c2, e9⟩ : ∃ q, ctA t1 47 = q := ⟨_, rfl⟩
  rw [e9] at g1
  have HqA := Lib.hid e9
  clear e9
  obtain ⟨t2, e9⟩ : ∃ q, ctB t1 47 = q := ⟨_, rfl⟩
  rw [e9] at g2
  have HqB := Lib.hid e9
  clear e9
  obtain ⟨kq, e9⟩ : ∃ q, ctK t1 47 = q := ⟨_, rfl⟩
  have HqK := Lib.hid e9
  clear e9
  have zq1 := g1
  have zq2 := g2
  clear g1 g2
  obtain ⟨g1, g2⟩ := ct_size t2 32
  obtain ⟨c3, e9⟩ : ∃ q, ctA t2 32 = q := ⟨_, rfl⟩
  rw [e9] at g1
  have HuA := Lib.hid e9
  clear e9
  obtain ⟨c4, e9⟩ : ∃ q, ctB t2 32 = q := ⟨_, rfl⟩
  rw [e9] at g2
  have HuB := Lib.hid e9
  clear e9
  obtain ⟨ku, e9⟩ : ∃ q, ctK t2 32 = q := ⟨_, rfl⟩
  have HuK := Lib.hid e9
  clear e9
  have zu1 := g1
  have zu2 := g2
  clear g1 g2
  have HN : Hid (¬ ([c1, c2, c3, c4].all okS = true ∧ okSl (numS c1) (numS c2) (numS c3) (numS c4) = true ∧ slT (numS c1) (numS c2) (numS c3) (numS c4) = t) → RdRel t 0 0 0 0 false) := rel_i HpA.out HpB.out HqA.out HqB.out HuA.out HuB.out
  have HS : Hid (∀ s ∈ [c1, c2, c3, c4], s.size ≤ 1048576) := by
    intro s hm
    simp only [List.mem_cons, List.not_mem_nil, or_false] at hm
    rcases hm with rfl | rfl | rfl | rfl <;> omega
  obtain ⟨K, hK⟩ : ∃ q, [c1, c2, c3, c4].all okS = q := ⟨_, rfl⟩
  have HK := Lib.hid hK
  clear hK
  go_enter Tryd.func9, Tryd.ntmps9; go_wp2_with fail
  generalize w.alloc (.cells #[.int .i64 0, .int .i64 0, .int .i64 0, .int .i64 0] 25) = wv at *
  go_at_call 18
  (with_reducible refine (cut_is t 120 _ (by omega) HV.out HpA.out HpB.out HpK.out).mono ?_)
  rintro r w1 ⟨rfl, hb⟩
  have hy1 := hb.size
  replace HX := Lib.hid (HX.out.late hb)
  replace HB := Lib.hid (gr_then hb HB.out)
  replace HV := Lib.hid (HV.out.late hb)
  clear hb
  go_wp2_with fail
  go_at_call 18
  (with_reducible refine (cut_is t1 47 _ (by omega) HV.out HqA.out HqB.out HqK.out).mono ?_)
  rintro r w2 ⟨rfl, hb⟩
  have hy2 := hb.size
  replace HX := Lib.hid (HX.out.late hb)
  replace HB := Lib.hid (gr_then hb HB.out)
  replace HV := Lib.hid (HV.out.late hb)
  clear hb
  go_wp2_with fail
  go_at_call 18
  (with_reducible refine (cut_is t2 32 _ (by omega) HV.out HuA.out HuB.out HuK.out).mono ?_)
  rintro r w3 ⟨rfl, hb⟩
  have hy3 := hb.size
  replace HX := Lib.hid (HX.out.late hb)
  replace HB := Lib.hid (gr_then hb HB.out)
  replace HV := Lib.hid (HV.out.late hb)
  clear hb
  have HSV := Lib.hid (show SV .string (w3.alloc (.cells #[.string c1, .string c2, .string c3, .string c4] 9)) (w3.alloc (.cells #[.string c1, .string c2, .string c3, .string c4] 9)).heap.size (some ⟨w3.heap.size, 0, none⟩) [c1, c2, c3, c4] by have h9 := SV.of_four (y0 := c1) (y1 := c2) (y2 := c3) (y3 := c4) (t := 9) w3; rw [World.size_alloc]; exact h9)
  have hza : w3.heap.size + 1 ≤ (w3.alloc (.cells #[.string c1, .string c2, .string c3, .string c4] 9)).heap.size := by simp
  replace HX := Lib.hid (HX.out.late (gr_alloc (o := .cells #[.string c1, .string c2, .string c3, .string c4] 9) (gr_refl w3)))
  replace HB := Lib.hid (gr_then (gr_alloc (o := .cells #[.string c1, .string c2, .string c3, .string c4] 9) (gr_refl w3)) HB.out)
  replace HV := Lib.hid (HV.out.late (gr_alloc (o := .cells #[.string c1, .string c2, .string c3, .string c4] 9) (gr_refl w3)))
  go_wp2_with fail
  generalize w3.alloc (.cells #[.string c1, .string c2, .string c3, .string c4] 9) = w4 at *
  go_at_call 19
  (with_reducible refine (readAll_any _ 4 4 [c1, c2, c3, c4] w4 rfl (by omega) HS.out HSV.out HV.out).mono ?_)
  rintro r w5 ⟨A, m, c, rfl, hr, hb⟩
  rw [HK.out] at hr
  rw [HK.out]
  have HRr := Lib.hid hr
  have hy5 := hb.size
  replace HX := Lib.hid (HX.out.late hb)
  replace HB := Lib.hid (gr_then hb HB.out)
  replace HV := Lib.hid (HV.out.late hb)
  clear hb hr HSV
  obtain ⟨r0, r1, r2, r3⟩ := HX.out.cs
  have f0 := HX.out.fr 0
  have f1 := HX.out.fr 1
  have f2 := HX.out.fr 2
  have f3 := HX.out.fr 3
  cases K
  · go_wp2
    refine bodyPost_ret (v := .tuple #[.agg #[.int .i64 (0), .int .i64 (0), .int .i64 (0), .int .i64 (0)], .bool false]) (by simp [results, Tryd.results9, go_sem, *]) rfl ?_
    exact ⟨0, 0, 0, 0, false, rfl, HN.out (by rw [HK.out]; simp), (((HB.out.setCell (by simp) _).setCell (by simp) _).setCell (by simp) _).setCell (by simp) _⟩
  obtain ⟨hm, hr⟩ := HRr.out rfl
  obtain rfl : m = 4 := hm
  obtain ⟨a, e9⟩ : ∃ q, numS c1 = q := ⟨_, rfl⟩
  have Ha := Lib.hid e9
  clear e9
  obtain ⟨p, e9⟩ : ∃ q, numS c2 = q := ⟨_, rfl⟩
  have Hp := Lib.hid e9
  clear e9
  obtain ⟨q, e9⟩ : ∃ q, numS c3 = q := ⟨_, rfl⟩
  have Hq := Lib.hid e9
  clear e9
  obtain ⟨m, e9⟩ : ∃ q, numS c4 = q := ⟨_, rfl⟩
  have Hm := Lib.hid e9
  clear e9
  replace hr : RS (.int .i64) 2 w5 w4.heap.size w5.heap.size A c [a, p, q, m] := by rw [← Ha.out, ← Hp.out, ← Hq.out, ← Hm.out]; exact hr
  replace HN : Hid (¬ (okSl a p q m = true ∧ slT a p q m = t) → RdRel t 0 0 0 0 false) := fun h => HN.out (by rw [Ha.out, Hp.out, Hq.out, Hm.out]; exact fun h9 => h h9.2)
  clear HRr
  obtain ⟨g, rfl, _, _, _, d0, _⟩ := hr.cellAt (k := 0) rfl
  obtain ⟨g', eg, _, _, _, d1, _⟩ := hr.cellAt (k := 1) rfl
  simp only [Option.some.injEq, Addr.mk.injEq, and_true] at eg
  subst eg
  obtain ⟨g', eg, _, _, _, d2, _⟩ := hr.cellAt (k := 2) rfl
  simp only [Option.some.injEq, Addr.mk.injEq, and_true] at eg
  subst eg
  obtain ⟨g', eg, _, _, _, d3, _⟩ := hr.cellAt (k := 3) rfl
  simp only [Option.some.injEq, Addr.mk.injEq, and_true] at eg
  subst eg
  clear hr
  obtain ⟨R, hR⟩ : ∃ q0, okSl a p q m = q0 := ⟨_, rfl⟩
  have HR := Lib.hid hR
  clear hR
  have HO : Hid (∀ w : World, Calls Tryd.prog 13 #[.agg #[.int .i64 a, .int .i64 p, .int .i64 q, .int .i64 m]] w fun e w' => e = .returned (.bool R) ∧ Below w.heap.size w w') := fun w => by have h9 := validSling_any a p q m w; rw [HR.out] at h9; exact h9
  go_wp2_with fail
  go_cut [14] (fun p14 wx => ∃ gg, p14 = .pointer (some ⟨gg, 0, none⟩) ∧ Box4 wx gg 25 a p q m ∧ Below w5.heap.size w5 wx)
  case first =>
    go_region
    all_goals (go_wp2; go_meet; refine ⟨_, rfl, ?_, by repeat' first | exact gr_refl _ | with_reducible assumption | with_reducible apply gr_alloc | with_reducible apply gr_set | with_reducible apply gr_drew | with_reducible apply gr_drewN | exact Nat.le_add_right _ _ | exact Nat.le_refl _ | (refine gr_then (by with_reducible assumption) ?_)⟩; exact heap_alloc_new _ _)
  case rest =>
    obtain ⟨gg, rfl, hx, hbx⟩ := hcut
    clear r0 r1 r2 r3 f0 f1 f2 f3 d0 d1 d2 d3
    have HP := Lib.hid hx
    have hy6 := hbx.size
    replace HX := Lib.hid (HX.out.late hbx)
    replace HB := Lib.hid (gr_then hbx HB.out)
    replace HV := Lib.hid (HV.out.late hbx)
    obtain ⟨s0, s1, s2, s3⟩ := hx.cs
    clear hx hbx
    go_wp2_with fail
    go_at_call 13
    (with_reducible refine (HO.out _).mono ?_)
    rintro r w7 ⟨rfl, hb⟩
    have hy7 := hb.size
    replace HX := Lib.hid (HX.out.late hb)
    replace HB := Lib.hid (gr_then hb HB.out)
    replace HV := Lib.hid (HV.out.late hb)
    replace HP := Lib.hid (HP.out.late hb)
    clear hb s0 s1 s2 s3
    obtain ⟨s0, s1, s2, s3⟩ := HP.out.cs
    obtain ⟨r0, r1, r2, r3⟩ := HX.out.cs
    have f0 := HX.out.fr 0
    have f1 := HX.out.fr 1
    have f2 := HX.out.fr 2
    have f3 := HX.out.fr 3
    cases R
    · have HRL := Lib.hid (HN.out (fun h => Bool.noConfusion (HR.out.symm.trans h.1)))
      go_wp2
      refine bodyPost_ret (v := .tuple #[.agg #[.int .i64 (0), .int .i64 (0), .int .i64 (0), .int .i64 (0)], .bool false]) (by simp [results, Tryd.results9, go_sem, *]) rfl ?_
      exact ⟨0, 0, 0, 0, false, rfl, HRL.out, (((HB.out.setCell (by simp) _).setCell (by simp) _).setCell (by simp) _).setCell (by simp) _⟩
    have HTX : Hid (∀ w : World, Pow10 w → Calls Tryd.prog 7 #[.agg #[.int .i64 a, .int .i64 p, .int .i64 q, .int .i64 m]] w fun e w' => e = .returned (.string (slT a p q m)) ∧ Below w.heap.size w w') := fun w h => by have h9 := implSlT_any a p q m w h; rw [show slTx a p q m = slT a p q m from if_pos HR.out] at h9; exact h9
    by_cases ht : slT a p q m = t
    case neg =>
      have HRL := Lib.hid (HN.out (fun h => ht h.2))
      have he2 : ((slT a p q m).toList == t.toList) = false := by rw [beq_eq_false_iff_ne]; intro h9; exact ht (txt_eq h9)
      clear ht
      go_wp2_with fail
      go_at_call 7
      (with_reducible refine (HTX.out _ (RVars.pow HV.out)).mono ?_)
      rintro r w8 ⟨rfl, hb⟩
      have hy8 := hb.size
      replace HX := Lib.hid (HX.out.late hb)
      replace HB := Lib.hid (gr_then hb HB.out)
      replace HV := Lib.hid (HV.out.late hb)
      replace HP := Lib.hid (HP.out.late hb)
      clear hb s0 s1 s2 s3 r0 r1 r2 r3 f0 f1 f2 f3
      obtain ⟨s0, s1, s2, s3⟩ := HP.out.cs
      obtain ⟨r0, r1, r2, r3⟩ := HX.out.cs
      have f0 := HX.out.fr 0
      have f1 := HX.out.fr 1
      have f2 := HX.out.fr 2
      have f3 := HX.out.fr 3
      go_wp2
      refine bodyPost_ret (v := .tuple #[.agg #[.int .i64 (0), .int .i64 (0), .int .i64 (0), .int .i64 (0)], .bool false]) (by simp [results, Tryd.results9, go_sem, *]) rfl ?_
      exact ⟨0, 0, 0, 0, false, rfl, HRL.out, (((HB.out.setCell (by simp) _).setCell (by simp) _).setCell (by simp) _).setCell (by simp) _⟩
    have HRL := Lib.hid (rel_yes HR.out ht)
    have he2 : ((slT a p q m).toList == t.toList) = true := by rw [ht]; exact beq_self_eq_true _
    clear ht
    go_wp2_with fail
    go_at_call 7
    (with_reducible refine (HTX.out _ (RVars.pow HV.out)).mono ?_)
    rintro r w8 ⟨rfl, hb⟩
    have hy8 := hb.size
    replace HX := Lib.hid (HX.out.late hb)
    replace HB := Lib.hid (gr_then hb HB.out)
    replace HV := Lib.hid (HV.out.late hb)
    replace HP := Lib.hid (HP.out.late hb)
    clear hb s0 s1 s2 s3 r0 r1 r2 r3 f0 f1 f2 f3
    obtain ⟨s0, s1, s2, s3⟩ := HP.out.cs
    obtain ⟨r0, r1, r2, r3⟩ := HX.out.cs
    have f0 := HX.out.fr 0
    have f1 := HX.out.fr 1
    have f2 := HX.out.fr 2
    have f3 := HX.out.fr 3
    go_wp2
    refine bodyPost_ret (v := .tuple #[.agg #[.int .i64 (a), .int .i64 (p), .int .i64 (q), .int .i64 (m)], .bool true]) (by simp [results, Tryd.results9, go_sem, *]) rfl ?_
    exact ⟨a, p, q, m, true, rfl, HRL.out, (((HB.out.setCell (by simp) _).setCell (by simp) _).setCell (by simp) _).setCell (by simp) _⟩
end Go.Proofs.YtnmldhkcbekecaaDoor
