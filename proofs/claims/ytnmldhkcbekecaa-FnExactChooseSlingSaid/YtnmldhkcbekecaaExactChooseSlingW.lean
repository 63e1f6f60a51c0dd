/- The walk of the law FnExactChooseSling: whatever came in, both functions agree, and the arguments read as they did. No condition. -/
import Derived.Test.YtnmldhkcbekecaaConvSling
import Derived.Test.YtnmldhkcbekecaaChS
import Derived.Test.YtnmldhkcbekecaaChI
namespace Go.Proofs.Ytnmldhkcbekecaa.fnExactChooseSling
open Go.RowKit
set_option maxHeartbeats 4000000 in
set_option maxRecDepth 20000 in
theorem walk (A : Option Addr) (n c : Nat) (zs : List Int) (B : Option Addr) (m d : Nat) (xs : List Int) (wt : Int) (w : World) (hn : n ≤ 9223372036854775807) (hz : zs.length = n * 4) (h : SI w w.heap.size A zs) (h1 : m ≤ 9223372036854775807 ∧ xs.length = m ∧ (∀ x ∈ xs, I64 x) ∧ SV (.int .i64) w w.heap.size B xs) (_ : -9223372036854775808 ≤ wt ∧ wt ≤ 9223372036854775807) :
    Calls Try.prog 11 #[.slice A n c, .slice B m d, .int .i64 wt] w fun e w' => e = .returned (.bool true) ∧ Below w.heap.size w w' := by
  obtain ⟨hm, hl, _, hs⟩ := h1
  obtain rfl : m = xs.length := hl.symm
  have HZ := Lib.hid hz
  have H := Lib.hid h
  have H' := Lib.hid hs
  clear hz h hs hl
  by_cases hm1 : 1048576 < xs.length
  · go_enter Try.func11, Try.ntmps11; go_wp2; go_returns; exact ⟨rfl, gr_refl w⟩
  replace hm : xs.length ≤ 1048576 := by omega
  clear hm1
  by_cases hl : (1048576 : Int) < n
  · go_enter Try.func11, Try.ntmps11; go_wp2_with (go_at_call 31; refine (szSlingS_any _ _ _ _ _ (by assumption) (by omega) (by omega)).mono ?_; rintro e w1 ⟨rfl, rfl⟩); go_returns; exact ⟨rfl, gr_refl w⟩
  have hn2 : n ≤ 1048576 := by omega
  go_enter Try.func11, Try.ntmps11
  go_wp2_with (go_at_call 31; refine (szSlingS_any _ _ _ _ _ (by assumption) (by omega) (by omega)).mono ?_; rintro e w1 ⟨rfl, rfl⟩)
  refine (toSlingS_any _ _ _ zs _ HZ.out hn2 H.out).mono ?_; rintro e w1 ⟨rfl, hbi, hb⟩
  have HB1 := Lib.hid (hb)
  have S0 := Lib.hid hbi
  clear hbi hb
  go_wp2_with fail
  refine (toInt64S_any _ _ xs _ hm (H'.out.later HB1.out)).mono ?_; rintro e w2 ⟨rfl, hbv, hb⟩
  replace S0 := Lib.hid (S0.out.below hb S0.out.lt)
  have HB2 := Lib.hid (gr_then hb HB1.out)
  have I0 := Lib.hid hbv
  clear hbv hb
  go_wp2_with fail
  refine (specCs_any _ n _ zs _ _ xs wt _ hn2 HZ.out (S0.out.si.more S0.out.lt) hm (I0.out.sv I0.out.lt)).mono ?_; rintro e w3 ⟨rfl, hb⟩
  replace S0 := Lib.hid (S0.out.below hb S0.out.lt)
  replace I0 := Lib.hid (I0.out.late hb)
  have HB3 := Lib.hid (gr_then hb HB2.out)
  clear hb
  go_wp2_with fail
  refine (toSlingS_any _ _ _ zs _ HZ.out hn2 ((H.out.below HB3.out).more HB3.out.size)).mono ?_; rintro e w4 ⟨rfl, hbi, hb⟩
  replace S0 := Lib.hid (S0.out.below hb S0.out.lt)
  replace I0 := Lib.hid (I0.out.late hb)
  have HB4 := Lib.hid (gr_then hb HB3.out)
  have S1 := Lib.hid hbi
  clear hbi hb
  go_wp2_with fail
  refine (toInt64S_any _ _ xs _ hm (H'.out.later HB4.out)).mono ?_; rintro e w5 ⟨rfl, hbv, hb⟩
  replace S0 := Lib.hid (S0.out.below hb S0.out.lt)
  replace I0 := Lib.hid (I0.out.late hb)
  replace S1 := Lib.hid (S1.out.below hb S1.out.lt)
  have HB5 := Lib.hid (gr_then hb HB4.out)
  have I1 := Lib.hid hbv
  clear hbv hb
  go_wp2_with fail
  refine (implCs_any _ n _ zs _ _ xs wt _ hn2 HZ.out (S1.out.si.more S1.out.lt) hm (I1.out.sv I1.out.lt)).mono ?_; rintro e w6 ⟨rfl, hb⟩
  replace S0 := Lib.hid (S0.out.below hb S0.out.lt)
  replace I0 := Lib.hid (I0.out.late hb)
  replace S1 := Lib.hid (S1.out.below hb S1.out.lt)
  replace I1 := Lib.hid (I1.out.late hb)
  have HB6 := Lib.hid (gr_then hb HB5.out)
  clear hb
  go_wp2_with fail
  refine (toSlingS_any _ _ _ zs _ HZ.out hn2 ((H.out.below HB6.out).more HB6.out.size)).mono ?_; rintro e w7 ⟨rfl, hbi, hb⟩
  replace S0 := Lib.hid (S0.out.below hb S0.out.lt)
  replace I0 := Lib.hid (I0.out.late hb)
  replace S1 := Lib.hid (S1.out.below hb S1.out.lt)
  replace I1 := Lib.hid (I1.out.late hb)
  have HB7 := Lib.hid (gr_then hb HB6.out)
  have S2 := Lib.hid hbi
  clear hbi hb
  go_wp2_with fail
  refine (eqSlingS_same _ _ _ _ _ zs _ HZ.out hn2 (S1.out.si.more S1.out.lt) (S2.out.si.more S2.out.lt)).mono ?_; rintro e w8 ⟨rfl, hb⟩
  replace S0 := Lib.hid (S0.out.below hb S0.out.lt)
  replace I0 := Lib.hid (I0.out.late hb)
  replace S1 := Lib.hid (S1.out.below hb S1.out.lt)
  replace I1 := Lib.hid (I1.out.late hb)
  replace S2 := Lib.hid (S2.out.below hb S2.out.lt)
  have HB8 := Lib.hid (gr_then hb HB7.out)
  clear hb
  go_wp2_with fail
  refine (toInt64S_any _ _ xs _ hm (H'.out.later HB8.out)).mono ?_; rintro e w9 ⟨rfl, hbv, hb⟩
  replace S0 := Lib.hid (S0.out.below hb S0.out.lt)
  replace I0 := Lib.hid (I0.out.late hb)
  replace S1 := Lib.hid (S1.out.below hb S1.out.lt)
  replace I1 := Lib.hid (I1.out.late hb)
  replace S2 := Lib.hid (S2.out.below hb S2.out.lt)
  have HB9 := Lib.hid (gr_then hb HB8.out)
  have I2 := Lib.hid hbv
  clear hbv hb
  go_wp2_with fail
  refine (eqInt64S_same _ _ _ _ xs _ hm (I1.out.sv I1.out.lt) (I2.out.sv I2.out.lt)).mono ?_; rintro e w10 ⟨rfl, q, rfl⟩
  have HBz := Lib.hid (gr_drewN (n := q) HB9.out)
  go_wp2
  go_returns
  exact ⟨rfl, HBz.out⟩
end Go.Proofs.Ytnmldhkcbekecaa.fnExactChooseSling
