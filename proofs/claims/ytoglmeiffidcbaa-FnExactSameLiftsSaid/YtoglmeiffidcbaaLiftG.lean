/- SameLifts of the program. -/
import Derived.Test.YtoglmeiffidcbaaLiftF
namespace Go.Proofs.Ytoglmeiffidcbaa
open Go.RowKit Go.Deep
set_option maxHeartbeats 8000000 in
set_option maxRecDepth 20000 in
theorem equalFunc_any (A A' : Option Addr) (c c' : Nat) (ls ms : List Lf) (w : World) (hz : SizesL ls) (hz' : SizesL ms) (h : LV w w.heap.size A ls) (h' : LV w w.heap.size A' ms) : Calls Try.prog 58 #[.slice A ls.length c, .slice A' ms.length c', .func (.func 59) #[] #[]] w fun e w' => e = .returned (.bool (decide (ls = ms))) ∧ Below w.heap.size w w' := by
  obtain ⟨hn, hsz⟩ := hz
  obtain ⟨hm, hsz'⟩ := hz'
  have HSZ := Lib.hid hsz
  have HSZ' := Lib.hid hsz'
  have H := Lib.hid h
  have H' := Lib.hid h'
  clear h h' hsz hsz'
  by_cases hl : ls.length = ms.length
  case neg =>
    have hb : ((ls.length : Int) != ms.length) = true := by rw [bne_iff_ne]; omega
    rw [decide_eq_false (fun hh : ls = ms => hl (by rw [hh]))]
    clear hl
    go_enter Try.func58, Try.ntmps58; go_wp2
    go_ret
    exact ⟨rfl, gr_refl w⟩
  obtain ⟨n, hn'⟩ : ∃ n, ls.length = n := ⟨_, rfl⟩
  have hm' : ms.length = n := by omega
  have HN := Lib.hid hn'
  have HM := Lib.hid hm'
  rw [hn'] at hn ⊢
  rw [hm'] at hm ⊢
  clear hn' hm' hl
  go_enter Try.func58, Try.ntmps58; go_wp2
  go_loopw [7, 8, 9, 17] (fun i7 p8 p9 i wr => ∃ k : Nat, k ≤ n ∧ i = .int .i64 (k : Int) ∧ Hid (∀ (j : Nat) x y, j < k → ls[j]? = some x → ms[j]? = some y → x = y) ∧ Below w.heap.size w wr) (fun _ _ _ i _ => n - (intOf i).toNat)
  case atStart => exact ⟨0, by omega, rfl, fun j x y hj => by omega, gr_refl w⟩
  case round =>
    obtain ⟨k, hk, rfl, HS, hbe⟩ := hrel
    have HB := Lib.hid hbe
    by_cases hlt : k < n
    · obtain ⟨x, hx⟩ := at_of_lt (xs := ls) (k := k) (by rw [HN.out]; exact hlt)
      obtain ⟨y, hy⟩ := at_of_lt (xs := ms) (k := k) (by rw [HM.out]; exact hlt)
      obtain ⟨b, off, Ar, cr, rfl, hbB, ⟨c0, c1, c2, c3, c4, c5, c6, c7, c8⟩, hsv⟩ := ((H.out.below hbe).more hbe.size).at_ hx
      obtain ⟨b', off', Ar', cr', rfl, hbB', ⟨d0, d1, d2, d3, d4, d5, d6, d7, d8⟩, hsv'⟩ := ((H'.out.below hbe).more hbe.size).at_ hy
      have HX := Lib.hid hx
      have HY := Lib.hid hy
      obtain ⟨r, hr⟩ : ∃ r, decide (x = y) = r := ⟨_, rfl⟩
      have hb1 : Below wr.heap.size wr ((wr.alloc (.cells #[.string x.nm, .int .i64 x.v0, .int .i64 x.v1, .int .i64 x.v2, .int .i64 x.v3, .int .i64 x.v4, .int .i64 x.v5, .int .i64 x.v6, .slice Ar x.xs.length cr] 70)).alloc (.cells #[.string y.nm, .int .i64 y.v0, .int .i64 y.v1, .int .i64 y.v2, .int .i64 y.v3, .int .i64 y.v4, .int .i64 y.v5, .int .i64 y.v6, .slice Ar' y.xs.length cr'] 70)) := gr_alloc (gr_alloc (gr_refl wr))
      have HT : Hid (Calls Try.prog 59 #[.agg #[.string x.nm, .int .i64 x.v0, .int .i64 x.v1, .int .i64 x.v2, .int .i64 x.v3, .int .i64 x.v4, .int .i64 x.v5, .int .i64 x.v6, .slice Ar x.xs.length cr], .agg #[.string y.nm, .int .i64 y.v0, .int .i64 y.v1, .int .i64 y.v2, .int .i64 y.v3, .int .i64 y.v4, .int .i64 y.v5, .int .i64 y.v6, .slice Ar' y.xs.length cr']] ((wr.alloc (.cells #[.string x.nm, .int .i64 x.v0, .int .i64 x.v1, .int .i64 x.v2, .int .i64 x.v3, .int .i64 x.v4, .int .i64 x.v5, .int .i64 x.v6, .slice Ar x.xs.length cr] 70)).alloc (.cells #[.string y.nm, .int .i64 y.v0, .int .i64 y.v1, .int .i64 y.v2, .int .i64 y.v3, .int .i64 y.v4, .int .i64 y.v5, .int .i64 y.v6, .slice Ar' y.xs.length cr'] 70)) fun e w' => e = .returned (.bool r) ∧ Below wr.heap.size wr w') := by rw [← hr]; exact (sameLift_any x.nm y.nm x.v0 x.v1 x.v2 x.v3 x.v4 x.v5 x.v6 y.v0 y.v1 y.v2 y.v3 y.v4 y.v5 y.v6 x.xs y.xs Ar Ar' cr cr' _ (HSZ.out x (List.mem_of_getElem? hx)).2 (HSZ'.out y (List.mem_of_getElem? hy)).2 ((hsv.below hb1).more hb1.size) ((hsv'.below hb1).more hb1.size)).mono (fun e w' h9 => ⟨h9.1, gr_then h9.2 hb1⟩)
      have i0' : (0 : Int) ≤ (k : Int) := by omega
      have i1 : (k : Int) < (n : Int) := by omega
      have HRR := Lib.hid hr
      clear hx hy hsv hsv' hr hb1 hbe
      cases r
      · have HO := Lib.hid (decide_eq_false (ne_of_atL HX.out HY.out HRR.out))
        go_wp2_with (go_at_call 59; (with_reducible refine HT.out.mono ?_); rintro e w1 ⟨rfl, hb⟩; have HB1 := Lib.hid (gr_then hb HB.out); clear hb)
        go_ret
        exact ⟨ret_bool HO.out.symm, HB1.out⟩
      · have HE := Lib.hid (of_decide_eq_true (p := x = y) HRR.out)
        go_wp2_with (go_at_call 59; (with_reducible refine HT.out.mono ?_); rintro e w1 ⟨rfl, hb⟩; have HB1 := Lib.hid (gr_then hb HB.out); clear hb)
        go_roundw
        case rel => exact ⟨k + 1, by omega, by go_num, fun j x' y' hj hx' hy' => by by_cases e : j = k; (subst e; have e1 := HX.out.symm.trans hx'; have e2 := HY.out.symm.trans hy'; simp only [Option.some.injEq] at e1 e2; rw [← e1, ← e2]; exact HE.out); exact HS.out j x' y' (by omega) hx' hy', HB1.out⟩
        case measure => simp [intOf]; omega
    · obtain rfl : k = n := by omega
      clear hbe
      have HO := Lib.hid (decide_eq_true (eq_of_atL (xs := ls) (ys := ms) (by rw [HN.out, HM.out]) (fun j x y hx hy => HS.out j x y (by rw [← HN.out]; exact lt_of_at hx) hx hy)))
      go_wp2
      go_ret
      exact ⟨ret_bool HO.out.symm, HB.out⟩
set_option maxHeartbeats 2000000 in
theorem implSl_any (A A' : Option Addr) (c c' : Nat) (ls ms : List Lf) (w : World) (hz : SizesL ls) (hz' : SizesL ms) (h : LV w w.heap.size A ls) (h' : LV w w.heap.size A' ms) : Calls Try.prog 36 #[.slice A ls.length c, .slice A' ms.length c'] w fun e w' => e = .returned (.bool (decide (ls = ms))) ∧ Below w.heap.size w w' := by
  have HS := Lib.hid (equalFunc_any A A' c c' ls ms w hz hz' h h')
  clear hz hz' h h'
  go_enter Try.func36, Try.ntmps36; go_wp2_with (go_at_call 58; (with_reducible refine HS.out.mono ?_); rintro e w1 ⟨rfl, hb⟩)
  go_ret
  exact ⟨rfl, hb⟩
end Go.Proofs.Ytoglmeiffidcbaa
