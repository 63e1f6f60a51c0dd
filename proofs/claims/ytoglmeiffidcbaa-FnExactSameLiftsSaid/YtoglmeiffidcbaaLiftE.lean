/- SameLifts: the reference. -/
import Derived.Test.YtoglmeiffidcbaaLiftD
namespace Go.Proofs.Ytoglmeiffidcbaa
open Go.RowKit Go.Deep
theorem quiet_add_more {P : Program} {f : FuncId} {args : Array Value} {w : World} {a n : Nat} {v : Value} (h : Calls P f args (w.drewN (a + n)) fun e w' => e = .returned v ∧ ∃ q, w' = (w.drewN (a + n)).drewN q) : Calls P f args (w.drewN (a + n)) fun e w'' => e = .returned v ∧ ∃ m, w'' = w.drewN (a + m) :=
  h.mono fun _ _ ⟨he, q, hq⟩ => ⟨he, n + q, by rw [hq, World.drewN_drewN, Nat.add_assoc]⟩
set_option maxHeartbeats 8000000 in
set_option maxRecDepth 20000 in
theorem l08Same_any (A A' : Option Addr) (c c' : Nat) (ls ms : List Lf) (w : World) (hz : SizesL ls) (hz' : SizesL ms) (h : LV w w.heap.size A ls) (h' : LV w w.heap.size A' ms) : Calls Try.prog 56 #[.slice A ls.length c, .slice A' ms.length c'] w fun e w' => e = .returned (.bool (decide (ls = ms))) ∧ ∃ q, w' = w.drewN q := by
  obtain ⟨hn, hsz⟩ := hz
  obtain ⟨hm, hsz'⟩ := hz'
  have HSZ := Lib.hid hsz
  have HSZ' := Lib.hid hsz'
  have H := Lib.hid h
  have H' := Lib.hid h'
  clear h h' hsz hsz'
  by_cases hl : ls.length = ms.length
  case neg =>
    have hb : ((ls.length : Int) != ms.length) = true := by rw [bne_iff_ne]; omega
    rw [decide_eq_false (fun hh : ls = ms => hl (by rw [hh]))]
    clear hl
    go_enter Try.func56, Try.ntmps56; go_wp2
    go_ret
    exact ⟨rfl, 0, rfl⟩
  obtain ⟨n, hn'⟩ : ∃ n, ls.length = n := ⟨_, rfl⟩
  have hm' : ms.length = n := by omega
  have HN := Lib.hid hn'
  have HM := Lib.hid hm'
  rw [hn'] at hn ⊢
  rw [hm'] at hm ⊢
  clear hn' hm' hl
  go_enter Try.func56, Try.ntmps56; go_wp2
  go_loopw [5] (fun i wr => ∃ k : Nat, k ≤ n ∧ i = .int .i64 (k : Int) ∧ Hid (∀ (j : Nat) x y, j < k → ls[j]? = some x → ms[j]? = some y → x = y) ∧ ∃ q, wr = w.drewN q) (fun i _ => n - (intOf i).toNat)
  case atStart => exact ⟨0, by omega, rfl, fun j x y hj => by omega, 0, rfl⟩
  case round =>
    obtain ⟨k, hk, rfl, HS, q, rfl⟩ := hrel
    by_cases hlt : k < n
    · obtain ⟨x, hx⟩ := at_of_lt (xs := ls) (k := k) (by rw [HN.out]; exact hlt)
      obtain ⟨y, hy⟩ := at_of_lt (xs := ms) (k := k) (by rw [HM.out]; exact hlt)
      obtain ⟨b, off, Ar, cr, rfl, hbB, hcl, hsv⟩ := H.out.at_ hx
      obtain ⟨b', off', Ar', cr', rfl, hbB', hcl', hsv'⟩ := H'.out.at_ hy
      have HX := Lib.hid hx
      have HY := Lib.hid hy
      obtain ⟨r, hr⟩ : ∃ r, decide (x = y) = r := ⟨_, rfl⟩
      have HT : Hid (∀ m : Nat, Calls Try.prog 67 #[.pointer (some ⟨b, off + k * 9, none⟩), .pointer (some ⟨b', off' + k * 9, none⟩)] (w.drewN (q + m)) fun e w' => e = .returned (.bool r) ∧ ∃ p, w' = (w.drewN (q + m)).drewN p) := fun m => by rw [← hr]; exact l08Lift_any b (off + k * 9) b' (off' + k * 9) x y Ar Ar' cr cr' (w.drewN (q + m)) (HSZ.out x (List.mem_of_getElem? hx)).2 (HSZ'.out y (List.mem_of_getElem? hy)).2 hsv hsv' hcl hcl'
      have i0' : (0 : Int) ≤ (k : Int) := by omega
      have i1 : (k : Int) < (n : Int) := by omega
      have HRR := Lib.hid hr
      clear hx hy hcl hcl' hsv hsv' hr
      cases r
      · have HO := Lib.hid (decide_eq_false (ne_of_atL HX.out HY.out HRR.out))
        go_wp2
        go_quiet ((go_at_call 67; (with_reducible refine quiet_add_more (HT.out _))))
        go_wp2
        go_ret
        exact ⟨ret_bool HO.out.symm, q + nq, by first | rfl | rw [World.drewN_drewN]⟩
      · have HE := Lib.hid (of_decide_eq_true (p := x = y) HRR.out)
        go_wp2
        go_quiet ((go_at_call 67; (with_reducible refine quiet_add_more (HT.out _))))
        go_wp2
        go_roundw
        case rel => exact ⟨k + 1, by omega, by go_num, fun j x' y' hj hx' hy' => by by_cases e : j = k; (subst e; have e1 := HX.out.symm.trans hx'; have e2 := HY.out.symm.trans hy'; simp only [Option.some.injEq] at e1 e2; rw [← e1, ← e2]; exact HE.out); exact HS.out j x' y' (by omega) hx' hy', q + nq, by first | rfl | rw [World.drewN_drewN]⟩
        case measure => simp [intOf]; omega
    · obtain rfl : k = n := by omega
      have HO := Lib.hid (decide_eq_true (eq_of_atL (xs := ls) (ys := ms) (by rw [HN.out, HM.out]) (fun j x y hx hy => HS.out j x y (by rw [← HN.out]; exact lt_of_at hx) hx hy)))
      go_wp2
      go_ret
      exact ⟨ret_bool HO.out.symm, q, rfl⟩
set_option maxHeartbeats 2000000 in
theorem specSl_any (A A' : Option Addr) (c c' : Nat) (ls ms : List Lf) (w : World) (hz : SizesL ls) (hz' : SizesL ms) (h : LV w w.heap.size A ls) (h' : LV w w.heap.size A' ms) : Calls Try.prog 34 #[.slice A ls.length c, .slice A' ms.length c'] w fun e w' => e = .returned (.bool (decide (ls = ms))) ∧ ∃ q, w' = w.drewN q := by
  have HS := Lib.hid (l08Same_any A A' c c' ls ms w hz hz' h h')
  clear hz hz' h h'
  go_enter Try.func34, Try.ntmps34; go_wp2_with (go_at_call 56; (with_reducible refine HS.out.mono ?_); rintro e w1 ⟨rfl, q, rfl⟩)
  go_ret
  exact ⟨rfl, q, rfl⟩
end Go.Proofs.Ytoglmeiffidcbaa
