/- ClockText, both sides. -/
import Derived.Test.YtoglmeiffidcbaaDoorDecI
import Derived.Test.YtoglmeiffidcbaaDoorBase
import Derived.Test.YtoglmeiffidcbaaDoorGrow
namespace Go.Proofs.YtoglmeiffidcbaaDoor
open Go.RowKit
theorem dS_size {n : Int} (h : -9223372036854775808 ≤ n ∧ n ≤ 9223372036854775807) : (strB (dS n)).size ≤ 21 := by rw [strB_size]; exact dS_len h
/-- two digits -/
def twT (n : Int) : ByteArray := if n < 10 then ⟨#[48]⟩ ++ strB (dS n) else strB (dS n)
theorem twT_size {n : Int} (h : 0 ≤ n ∧ n ≤ 59) : (twT n).size ≤ 22 := by
  have := dS_size (n := n) (by constructor <;> omega)
  unfold twT
  split
  · rw [ByteArray.size_append]; show 1 + _ ≤ 22; omega
  · omega
def ckT (s : Int) : ByteArray := strB (dS (s / 3600)) ++ ⟨#[58]⟩ ++ twT (s / 60 % 60) ++ ⟨#[58]⟩ ++ twT (s % 60)
def ckS (s : Int) : ByteArray := if inI s 0 1000000000 = true then ckT s else ⟨#[]⟩
def ckC (s : Int) : Int := if inI s 0 1000000000 = true then 0 else 2
theorem in_is0 {n a b : Int} {r : Bool} (h : inI n a b = r) {P : Program} {f : FuncId} {w : World} (c : Calls P f #[.int .i64 n, .int .i64 a, .int .i64 b] w fun e w' => e = .returned (.bool (inI n a b)) ∧ w = w') : Calls P f #[.int .i64 n, .int .i64 a, .int .i64 b] w fun e w' => e = .returned (.bool r) ∧ w = w' := by subst h; exact c
set_option maxHeartbeats 2000000 in
theorem two10_any (n : Int) (h : 0 ≤ n ∧ n ≤ 59) (w : World) : Calls Tryd.prog 27 #[.int .i64 n] w fun e w' => e = .returned (.string (twT n)) ∧ Below w.heap.size w w' := by
  have HD : Hid (∀ w1 : World, Below w.heap.size w w1 → Calls Tryd.prog 26 #[.int .i64 n] w1 fun e w' => e = .returned (.string (strB (dS n))) ∧ Below w1.heap.size w1 w') := fun w1 hb => dec_any n (by constructor <;> omega) w1
  have hz := dS_size (n := n) (by constructor <;> omega)
  by_cases h0 : n < 10
  · rw [show twT n = ⟨#[48]⟩ ++ strB (dS n) from if_pos h0]
    go_enter Tryd.func27, Tryd.ntmps27; go_wp2_with (go_at_call 26; (with_reducible refine (HD.out _ (gr_refl w)).mono ?_); rintro e w1 ⟨rfl, hb⟩)
    go_ret
    exact ⟨rfl, hb⟩
  · rw [show twT n = strB (dS n) from if_neg h0]
    have hd := decide_eq_false h0
    go_enter Tryd.func27, Tryd.ntmps27; go_wp2_with (go_at_call 26; (with_reducible refine (HD.out _ (gr_refl w)).mono ?_); rintro e w1 ⟨rfl, hb⟩)
    go_ret
    exact ⟨rfl, hb⟩
set_option maxHeartbeats 2000000 in
theorem twoD_any (n : Int) (h : 0 ≤ n ∧ n ≤ 59) (w : World) (ht : Pow10 w) : Calls Tryd.prog 30 #[.int .i64 n] w fun e w' => e = .returned (.string (twT n)) ∧ Below w.heap.size w w' := by
  have HT := Lib.hid ht
  clear ht
  have HD : Hid (∀ w1 : World, Below w.heap.size w w1 → Calls Tryd.prog 29 #[.int .i64 n] w1 fun e w' => e = .returned (.string (strB (dS n))) ∧ Below w1.heap.size w1 w') := fun w1 hb => decimal_any n (by constructor <;> omega) w1 (HT.out.later hb)
  have hz := dS_size (n := n) (by constructor <;> omega)
  by_cases h0 : n < 10
  · rw [show twT n = ⟨#[48]⟩ ++ strB (dS n) from if_pos h0]
    go_enter Tryd.func30, Tryd.ntmps30; go_wp2_with (go_at_call 29; (with_reducible refine (HD.out _ (gr_refl w)).mono ?_); rintro e w1 ⟨rfl, hb⟩)
    go_ret
    exact ⟨rfl, hb⟩
  · rw [show twT n = strB (dS n) from if_neg h0]
    have hd := decide_eq_false h0
    go_enter Tryd.func30, Tryd.ntmps30; go_wp2_with (go_at_call 29; (with_reducible refine (HD.out _ (gr_refl w)).mono ?_); rintro e w1 ⟨rfl, hb⟩)
    go_ret
    exact ⟨rfl, hb⟩
set_option maxHeartbeats 4000000 in
set_option maxRecDepth 20000 in
theorem specCk_any (s : Int) (w : World) : Calls Tryd.prog 6 #[.int .i64 s] w fun e w' => e = .returned (.tuple #[.string (ckS s), .int .i64 (ckC s)]) ∧ Below w.heap.size w w' := by
  by_cases h : inI s 0 1000000000 = true
  case neg =>
    have h := (Bool.not_eq_true _).mp h
    rw [show ckS s = ⟨#[]⟩ from if_neg (by rw [h]; decide), show ckC s = 2 from if_neg (by rw [h]; decide)]
    have J := Lib.hid h
    clear h
    go_enter Tryd.func6, Tryd.ntmps6; go_wp2_with (go_at_call 25; (with_reducible refine (in_is0 J.out (in_any _ _ _ _)).mono ?_); rintro e w1 ⟨rfl, rfl⟩); go_returns; exact ⟨rfl, gr_refl w⟩
  rw [show ckS s = ckT s from if_pos h, show ckC s = 0 from if_pos h]
  have J := Lib.hid h
  have hb := inI_t h
  clear h
  obtain ⟨a, ha⟩ : ∃ a, s / 3600 = a := ⟨_, rfl⟩
  obtain ⟨t, ht⟩ : ∃ a, s / 60 = a := ⟨_, rfl⟩
  obtain ⟨b, hb'⟩ : ∃ a, t % 60 = a := ⟨_, rfl⟩
  obtain ⟨c, hc⟩ : ∃ a, s % 60 = a := ⟨_, rfl⟩
  unfold ckT
  rw [ha, ht, hb', hc]
  have e1 : s.tdiv 3600 = a := by rw [Int.tdiv_eq_ediv_of_nonneg hb.1]; exact ha
  have e2 : s.tdiv 60 = t := by rw [Int.tdiv_eq_ediv_of_nonneg hb.1]; exact ht
  have t0 : 0 ≤ t := by omega
  have e3 : t.tmod 60 = b := by rw [Int.tmod_eq_emod_of_nonneg t0]; exact hb'
  have e4 : s.tmod 60 = c := by rw [Int.tmod_eq_emod_of_nonneg hb.1]; exact hc
  have a0 : 0 ≤ a ∧ a ≤ 1000000 := by omega
  have b0 : 0 ≤ b ∧ b ≤ 59 := by omega
  have c0 : 0 ≤ c ∧ c ≤ 59 := by omega
  have t1 : t ≤ 100000000 := by omega
  have w1 : IntKind.i64.wrap a = a := IntWalk.i64_in _ (by omega)
  have w2 : IntKind.i64.wrap t = t := IntWalk.i64_in _ (by omega)
  have w3 : IntKind.i64.wrap b = b := IntWalk.i64_in _ (by omega)
  have w4 : IntKind.i64.wrap c = c := IntWalk.i64_in _ (by omega)
  have z0 := dS_size (n := a) (by constructor <;> omega)
  have z1 := twT_size b0
  have z2 := twT_size c0
  obtain ⟨a0, a1⟩ := a0
  obtain ⟨b0, b1⟩ := b0
  obtain ⟨c0, c1⟩ := c0
  clear ha ht hb' hc
  go_enter Tryd.func6, Tryd.ntmps6; go_wp2_with (go_at_call 25; (with_reducible refine (in_is0 J.out (in_any _ _ _ _)).mono ?_); rintro e w1 ⟨rfl, rfl⟩)
  have HB0 := Lib.hid (gr_refl w)
  go_at_call 26
  (with_reducible refine (dec_any a (by constructor <;> omega) _).mono ?_)
  rintro e u1 ⟨rfl, hb⟩
  have HB1 := Lib.hid (gr_then hb HB0.out)
  clear hb
  go_wp2_with fail
  go_at_call 27
  (with_reducible refine (two10_any b (by constructor <;> omega) _).mono ?_)
  rintro e u2 ⟨rfl, hb⟩
  have HB2 := Lib.hid (gr_then hb HB1.out)
  clear hb
  go_wp2_with fail
  go_at_call 27
  (with_reducible refine (two10_any c (by constructor <;> omega) _).mono ?_)
  rintro e u3 ⟨rfl, hb⟩
  have HB3 := Lib.hid (gr_then hb HB2.out)
  clear hb
  go_wp2
  go_returns
  exact ⟨rfl, HB3.out⟩
set_option maxHeartbeats 4000000 in
set_option maxRecDepth 20000 in
theorem implCk_any (s : Int) (w : World) (ht : Pow10 w) : Calls Tryd.prog 7 #[.int .i64 s] w fun e w' => e = .returned (.tuple #[.string (ckS s), .int .i64 (ckC s)]) ∧ Below w.heap.size w w' := by
  have HT := Lib.hid ht
  clear ht
  by_cases h : inI s 0 1000000000 = true
  case neg =>
    have h := (Bool.not_eq_true _).mp h
    rw [show ckS s = ⟨#[]⟩ from if_neg (by rw [h]; decide), show ckC s = 2 from if_neg (by rw [h]; decide)]
    have J := Lib.hid h
    clear h
    go_enter Tryd.func7, Tryd.ntmps7; go_wp2_with (go_at_call 28; (with_reducible refine (in_is0 J.out (within_any _ _ _ _)).mono ?_); rintro e w1 ⟨rfl, rfl⟩); go_returns; exact ⟨rfl, gr_refl w⟩
  rw [show ckS s = ckT s from if_pos h, show ckC s = 0 from if_pos h]
  have J := Lib.hid h
  have hb := inI_t h
  clear h
  obtain ⟨a, ha⟩ : ∃ a, s / 3600 = a := ⟨_, rfl⟩
  obtain ⟨t, ht⟩ : ∃ a, s / 60 = a := ⟨_, rfl⟩
  obtain ⟨b, hb'⟩ : ∃ a, t % 60 = a := ⟨_, rfl⟩
  obtain ⟨c, hc⟩ : ∃ a, s % 60 = a := ⟨_, rfl⟩
  unfold ckT
  rw [ha, ht, hb', hc]
  have e1 : s.tdiv 3600 = a := by rw [Int.tdiv_eq_ediv_of_nonneg hb.1]; exact ha
  have e2 : s.tdiv 60 = t := by rw [Int.tdiv_eq_ediv_of_nonneg hb.1]; exact ht
  have t0 : 0 ≤ t := by omega
  have e3 : t.tmod 60 = b := by rw [Int.tmod_eq_emod_of_nonneg t0]; exact hb'
  have e4 : s.tmod 60 = c := by rw [Int.tmod_eq_emod_of_nonneg hb.1]; exact hc
  have a0 : 0 ≤ a ∧ a ≤ 1000000 := by omega
  have b0 : 0 ≤ b ∧ b ≤ 59 := by omega
  have c0 : 0 ≤ c ∧ c ≤ 59 := by omega
  have t1 : t ≤ 100000000 := by omega
  have w1 : IntKind.i64.wrap a = a := IntWalk.i64_in _ (by omega)
  have w2 : IntKind.i64.wrap t = t := IntWalk.i64_in _ (by omega)
  have w3 : IntKind.i64.wrap b = b := IntWalk.i64_in _ (by omega)
  have w4 : IntKind.i64.wrap c = c := IntWalk.i64_in _ (by omega)
  have z0 := dS_size (n := a) (by constructor <;> omega)
  have z1 := twT_size b0
  have z2 := twT_size c0
  obtain ⟨a0, a1⟩ := a0
  obtain ⟨b0, b1⟩ := b0
  obtain ⟨c0, c1⟩ := c0
  clear ha ht hb' hc
  go_enter Tryd.func7, Tryd.ntmps7; go_wp2_with (go_at_call 28; (with_reducible refine (in_is0 J.out (within_any _ _ _ _)).mono ?_); rintro e w1 ⟨rfl, rfl⟩)
  have HB0 := Lib.hid (gr_refl w)
  go_at_call 29
  (with_reducible refine (decimal_any a (by constructor <;> omega) _ (HT.out.later HB0.out)).mono ?_)
  rintro e u1 ⟨rfl, hb⟩
  have HB1 := Lib.hid (gr_then hb HB0.out)
  clear hb
  go_wp2_with fail
  go_at_call 30
  (with_reducible refine (twoD_any b (by constructor <;> omega) _ (HT.out.later HB1.out)).mono ?_)
  rintro e u2 ⟨rfl, hb⟩
  have HB2 := Lib.hid (gr_then hb HB1.out)
  clear hb
  go_wp2_with fail
  go_at_call 30
  (with_reducible refine (twoD_any c (by constructor <;> omega) _ (HT.out.later HB2.out)).mono ?_)
  rintro e u3 ⟨rfl, hb⟩
  have HB3 := Lib.hid (gr_then hb HB2.out)
  clear hb
  go_wp2
  go_returns
  exact ⟨rfl, HB3.out⟩
end Go.Proofs.YtoglmeiffidcbaaDoor
