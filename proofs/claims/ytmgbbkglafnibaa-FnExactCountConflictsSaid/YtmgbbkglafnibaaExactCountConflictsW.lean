/- The walk of the law FnExactCountConflicts: whatever table came in, both functions agree. No condition. -/
import Derived.Test.YtmgbbkglafnibaaTabB
namespace Go.Proofs.Ytmgbbkglafnibaa.fnExactCountConflicts
open Go.RowKit
set_option maxHeartbeats 4000000 in
theorem walk (A : Option Addr) (n c : Nat) (rs : List (Option Addr × Nat × Nat)) (w : World) (h : n ≤ 9223372036854775807 ∧ rs.length = n ∧ (∀ p ∈ rs, IsRow Value.bool (fun _ => True) w p) ∧ SV sl w w.heap.size A rs) :
    Calls Try.prog 4 #[.slice A n c] w fun e w' => e = .returned (.bool true) ∧ Below w.heap.size w w' := by
  obtain ⟨hn, hl, hr, hs⟩ := h
  obtain ⟨T, hT, hTl, ht⟩ := TB_of hr hs
  obtain rfl : n = T.length := by omega
  have HT := Lib.hid ht
  have HL := Lib.hid (fun (j : Nat) bs (h : T[j]? = some bs) => (hTl j bs h).1)
  clear hl hr hs hT hTl ht
  go_enter Try.func4, Try.ntmps4
  go_wp2_with fail
  go_at_call 11
  (with_reducible refine (szBoolSS_any _ _ _ T _ HT.out hn HL.out (by omega) (by omega)).mono ?_)
  rintro e w1 ⟨r, rfl, rfl, hr1, hz⟩
  have HZ0 := Lib.hid hz
  clear hz
  by_cases hr0 : 0 ≤ r
  case neg =>
    have hr2 : r < 0 := by omega
    go_wp2
    go_ret
    exact ⟨rfl, gr_refl w⟩
  have hd : decide (r < 0) = false := decide_eq_false (by omega)
  have HZ := Lib.hid (HZ0.out hr0)
  have hn := HZ.out.1
  have HZ2 := Lib.hid HZ.out.2
  clear HZ0
  go_wp2_with fail
  go_at_call 13
  (with_reducible refine (toBoolSS_any _ _ T _ HZ.out HT.out).mono ?_)
  rintro e w1 ⟨rfl, hf1, hb1⟩
  have HF1 := Lib.hid hf1
  have HB1 := Lib.hid hb1
  have HT1 := Lib.hid ((HT.out.below hb1).more hb1.size)
  clear hf1 hb1
  go_wp2_with fail
  go_at_call 16
  (with_reducible refine (specCc_any _ _ T _ hn HF1.out.tb).mono ?_)
  rintro e w2 ⟨rfl, rfl⟩
  go_wp2_with fail
  go_at_call 13
  (with_reducible refine (toBoolSS_any _ _ T _ HZ.out HT1.out).mono ?_)
  rintro e w2 ⟨rfl, hf2, hb2⟩
  have HF2 := Lib.hid hf2
  have HB2 := Lib.hid (gr_then hb2 HB1.out)
  have HT2 := Lib.hid ((HT1.out.below hb2).more hb2.size)
  clear hf2 hb2
  go_wp2_with fail
  go_at_call 17
  (with_reducible refine (implCc_any _ _ T _ hn HF2.out.tb HZ2.out).mono ?_)
  rintro e w3 ⟨rfl, rfl⟩
  go_wp2_with fail
  go_at_call 13
  (with_reducible refine (toBoolSS_any _ _ T _ HZ.out HT2.out).mono ?_)
  rintro e w3 ⟨rfl, hf3, hb3⟩
  have HF3 := Lib.hid hf3
  have HG3 := Lib.hid (HF2.out.late hb3)
  have HB3 := Lib.hid (gr_then hb3 HB2.out)
  clear hf3 hb3
  go_wp2_with (go_at_call 15; (with_reducible refine (eqBoolSS_same _ _ _ _ T _ HZ.out HG3.out.tb HF3.out.tb).mono ?_); rintro e w4 ⟨rfl, q, rfl⟩)
  go_returns
  exact ⟨rfl, gr_drewN HB3.out⟩
end Go.Proofs.Ytmgbbkglafnibaa.fnExactCountConflicts
