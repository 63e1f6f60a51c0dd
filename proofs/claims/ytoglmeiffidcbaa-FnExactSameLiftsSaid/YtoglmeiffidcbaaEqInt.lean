/- Comparisons of slices of integers. -/
import Derived.Test.YtoglmeiffidcbaaInts
namespace Go.Proofs.Ytoglmeiffidcbaa
open Go.RowKit
theorem eq_of_at {xs ys : List Int} (hl : xs.length = ys.length) (h : ∀ (j : Nat) x y, xs[j]? = some x → ys[j]? = some y → x = y) : xs = ys := by
  apply List.ext_getElem? 
  intro j
  rcases Nat.lt_or_ge j xs.length with hj | hj
  · obtain ⟨x, hx⟩ := at_of_lt hj
    obtain ⟨y, hy⟩ := at_of_lt (xs := ys) (k := j) (by omega)
    rw [hx, hy, h j x y hx hy]
  · rw [List.getElem?_eq_none hj, List.getElem?_eq_none (by omega)]
theorem ne_of_at {xs ys : List Int} {j : Nat} {x y : Int} (hx : xs[j]? = some x) (hy : ys[j]? = some y) (h : ¬ x = y) : ¬ xs = ys := by
  rintro rfl
  rw [hx] at hy
  exact h (Option.some.inj hy)
set_option maxHeartbeats 3000000 in
theorem equal_any (A A' : Option Addr) (c c' : Nat) (xs ys : List Int) (w : World) (hn : xs.length ≤ 1048576) (hm : ys.length ≤ 1048576) (h : SV (.int .i64) w w.heap.size A xs) (h' : SV (.int .i64) w w.heap.size A' ys) : Calls Try.prog 70 #[.slice A xs.length c, .slice A' ys.length c'] w fun e w' => e = .returned (.bool (decide (xs = ys))) ∧ ∃ q, w' = w.drewN q := by
  have H := Lib.hid h
  have H' := Lib.hid h'
  clear h h'
  by_cases hl : xs.length = ys.length
  case neg =>
    have hb : ((xs.length : Int) != ys.length) = true := by rw [bne_iff_ne]; omega
    rw [decide_eq_false (fun hh : xs = ys => hl (by rw [hh]))]
    clear hl
    go_enter Try.func70, Try.ntmps70; go_wp2
    go_ret
    exact ⟨rfl, 0, rfl⟩
  obtain ⟨n, hn'⟩ : ∃ n, xs.length = n := ⟨_, rfl⟩
  have hm' : ys.length = n := by omega
  have HN := Lib.hid hn'
  have HM := Lib.hid hm'
  rw [hn'] at hn ⊢
  rw [hm'] at hm ⊢
  clear hn' hm' hl
  go_enter Try.func70, Try.ntmps70
  go_wp2
  go_loopw [13] (fun i wr => ∃ k : Nat, k ≤ n ∧ i = .int .i64 k ∧ Hid (∀ (j : Nat) x y, j < k → xs[j]? = some x → ys[j]? = some y → x = y) ∧ ∃ q, wr = (w).drewN q) (fun i _ => n - (intOf i).toNat)
  case atStart => exact ⟨0, by omega, rfl, fun j x y hj => by omega, 0, rfl⟩
  case round =>
    obtain ⟨k, hk, rfl, HS, q, rfl⟩ := hrel
    by_cases hlt : k < n
    · obtain ⟨x, hx⟩ := at_of_lt (xs := xs) (k := k) (by rw [HN.out]; exact hlt)
      obtain ⟨y, hy⟩ := at_of_lt (xs := ys) (k := k) (by rw [HM.out]; exact hlt)
      obtain ⟨b, off, rfl, hB, hc⟩ := H.out.at_ hx
      obtain ⟨b', off', rfl, hB', hc'⟩ := H'.out.at_ hy
      have HX := Lib.hid hx
      have HY := Lib.hid hy
      clear hx hy
      have i0 : (0 : Int) ≤ (k : Int) := by omega
      have i1 : (k : Int) < (n : Int) := by omega
      by_cases he : x = y
      · subst he
        go_wp2
        go_quiet (fail)
        go_wp2
        go_roundw
        case rel => exact ⟨k + 1, by omega, by go_num, fun j x' y' hj hx' hy' => by by_cases e : j = k; (subst e; have e1 := HX.out.symm.trans hx'; have e2 := HY.out.symm.trans hy'; simp only [Option.some.injEq] at e1 e2; rw [← e1, ← e2]); exact HS.out j x' y' (by omega) hx' hy', _, rfl⟩
        case measure => simp [intOf]; omega
      · have hb : (x != y) = true := by rw [bne_iff_ne]; exact he
        have HO := Lib.hid (decide_eq_false (ne_of_at HX.out HY.out he))
        clear he
        go_wp2
        go_quiet (fail)
        go_wp2
        go_ret
        exact ⟨ret_bool HO.out.symm, q + nq, by rw [World.drewN_drewN]⟩
    · obtain rfl : k = n := by omega
      have HO := Lib.hid (decide_eq_true (eq_of_at (xs := xs) (ys := ys) (by rw [HN.out, HM.out]) (fun j x y hx hy => HS.out j x y (by rw [← HN.out]; exact lt_of_at hx) hx hy)))
      go_wp2
      go_ret
      exact ⟨ret_bool HO.out.symm, q, rfl⟩
set_option maxHeartbeats 3000000 in
theorem same00_any (A A' : Option Addr) (c c' : Nat) (xs ys : List Int) (w : World) (hn : xs.length ≤ 1048576) (hm : ys.length ≤ 1048576) (h : SV (.int .i64) w w.heap.size A xs) (h' : SV (.int .i64) w w.heap.size A' ys) : Calls Try.prog 74 #[.slice A xs.length c, .slice A' ys.length c'] w fun e w' => e = .returned (.bool (decide (xs = ys))) ∧ ∃ q, w' = w.drewN q := by
  have H := Lib.hid h
  have H' := Lib.hid h'
  clear h h'
  by_cases hl : xs.length = ys.length
  case neg =>
    have hb : ((xs.length : Int) != ys.length) = true := by rw [bne_iff_ne]; omega
    rw [decide_eq_false (fun hh : xs = ys => hl (by rw [hh]))]
    clear hl
    go_enter Try.func74, Try.ntmps74; go_wp2
    go_ret
    exact ⟨rfl, 0, rfl⟩
  obtain ⟨n, hn'⟩ : ∃ n, xs.length = n := ⟨_, rfl⟩
  have hm' : ys.length = n := by omega
  have HN := Lib.hid hn'
  have HM := Lib.hid hm'
  rw [hn'] at hn ⊢
  rw [hm'] at hm ⊢
  clear hn' hm' hl
  go_enter Try.func74, Try.ntmps74
  go_wp2
  go_loopw [5] (fun i wr => ∃ k : Nat, k ≤ n ∧ i = .int .i64 k ∧ Hid (∀ (j : Nat) x y, j < k → xs[j]? = some x → ys[j]? = some y → x = y) ∧ ∃ q, wr = (w).drewN q) (fun i _ => n - (intOf i).toNat)
  case atStart => exact ⟨0, by omega, rfl, fun j x y hj => by omega, 0, rfl⟩
  case round =>
    obtain ⟨k, hk, rfl, HS, q, rfl⟩ := hrel
    by_cases hlt : k < n
    · obtain ⟨x, hx⟩ := at_of_lt (xs := xs) (k := k) (by rw [HN.out]; exact hlt)
      obtain ⟨y, hy⟩ := at_of_lt (xs := ys) (k := k) (by rw [HM.out]; exact hlt)
      obtain ⟨b, off, rfl, hB, hc⟩ := H.out.at_ hx
      obtain ⟨b', off', rfl, hB', hc'⟩ := H'.out.at_ hy
      have HX := Lib.hid hx
      have HY := Lib.hid hy
      clear hx hy
      have i0 : (0 : Int) ≤ (k : Int) := by omega
      have i1 : (k : Int) < (n : Int) := by omega
      by_cases he : x = y
      · subst he
        go_wp2
        go_quiet (fail)
        go_wp2
        go_roundw
        case rel => exact ⟨k + 1, by omega, by go_num, fun j x' y' hj hx' hy' => by by_cases e : j = k; (subst e; have e1 := HX.out.symm.trans hx'; have e2 := HY.out.symm.trans hy'; simp only [Option.some.injEq] at e1 e2; rw [← e1, ← e2]); exact HS.out j x' y' (by omega) hx' hy', _, rfl⟩
        case measure => simp [intOf]; omega
      · have hb : (x != y) = true := by rw [bne_iff_ne]; exact he
        have HO := Lib.hid (decide_eq_false (ne_of_at HX.out HY.out he))
        clear he
        go_wp2
        go_quiet (fail)
        go_wp2
        go_ret
        exact ⟨ret_bool HO.out.symm, q + nq, by rw [World.drewN_drewN]⟩
    · obtain rfl : k = n := by omega
      have HO := Lib.hid (decide_eq_true (eq_of_at (xs := xs) (ys := ys) (by rw [HN.out, HM.out]) (fun j x y hx hy => HS.out j x y (by rw [← HN.out]; exact lt_of_at hx) hx hy)))
      go_wp2
      go_ret
      exact ⟨ret_bool HO.out.symm, q, rfl⟩
end Go.Proofs.Ytoglmeiffidcbaa
