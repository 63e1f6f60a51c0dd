/- The law FnExactChooseSling holds: called with whatever arguments it returns true, and each argument reads as it did before. No condition. -/
import Derived.Test.YtnmldhkcbekecaaRows
import Derived.Test.YtnmldhkcbekecaaKit
import Derived.Test.YtnmldhkcbekecaaOpen
import Derived.Test.YtnmldhkcbekecaaOpenVec
import Derived.Test.YtnmldhkcbekecaaExactChooseSlingW
namespace Go.Proofs.Ytnmldhkcbekecaa.fnExactChooseSling
open Go.ChangeShapes Go.WideShapes Go.ChangeAt Go.RowKit

set_option maxRecDepth 100000 in
theorem contract (H : Type) (enc : TypeId × Value → H) (W : World) (base : Nat) (args : Array Value) (ds gs : List (DataW H)) (before : List MemPlace)
    (hval : ∀ (j : Nat) t v, Try.f11.params[j]? = some t → args[j]? = some v → Value.okWide Try.prog W .any base t v)
    (hW : DataW.Whole enc Try.prog Try.f11.params.toList Rows.fnExactChooseSlingSpec.vars false W args.toList ds gs before) :
    Calls Try.prog 11 args W fun e W' => ∃ v, e = .returned v ∧ Rows.fnExactChooseSlingSpec.post enc Try.prog Try.f11 false true false false W args v W' := by
  have hW' := hW
  obtain ⟨p, q, hA0, hV, rfl, hfz, hnd⟩ := hW
  have hA : DataW.TrodAll enc Try.prog W 0 (fun _ => true) true Try.f11.params.toList args.toList ds p := hA0
  clear hA0
  rw [Try.params11] at hA hval
  obtain ⟨v0, vs0, d0, ds0, p0, q0, hargs, rfl, rfl, h0, r0⟩ := trodAll_cons hA
  obtain ⟨v1, vs1, d1, ds1, p1, q1, rfl, rfl, rfl, h1, r1⟩ := trodAll_cons r0
  obtain ⟨v2, vs2, d2, ds2, p2, q2, rfl, rfl, rfl, h2, r2⟩ := trodAll_cons r1
  obtain ⟨rfl, rfl, rfl⟩ := trodAll_nil r2
  obtain rfl : args = #[v0, v1, v2] := by cases args; simp_all
  obtain ⟨rfl, rfl⟩ := trodVars_none hV
  obtain ⟨A0, n0, c0, zs0, rfl, hn0, hz0, hw0, hs0⟩ := val_structs 4 rfl Try.underlying39 Try.underlying23 (by kernel_rfl) (by kernel_rfl) (by intro j f hj; match j, hj with | 0, hj => simp at hj; subst hj; exact Try.underlying2 | 1, hj => simp at hj; subst hj; exact Try.underlying2 | 2, hj => simp at hj; subst hj; exact Try.underlying2 | 3, hj => simp at hj; subst hj; exact Try.underlying2 | q + 4, hj => simp at hj) (hval 0 39 v0 rfl rfl) h0
  obtain ⟨ad1, n1, c1, x1, rfl, hr1⟩ := val_ints (hval 1 40 v1 rfl rfl) h1
  obtain ⟨a2, rfl, wa2⟩ := val_int Try.underlying2 (hval 2 2 v2 rfl rfl) h2
  refine (walk A0 n0 c0 zs0 ad1 n1 c1 x1 a2 W hn0 hz0 hs0 hr1 (bd wa2)).mono fun e W' ⟨he, hb⟩ => ?_
  subst he
  exact ⟨_, rfl, law_post laidOut (tb := 4) rfl rfl Try.underlying4 (fun t ht => by simp only [Try.params11, List.mem_cons, List.not_mem_nil, or_false] at ht; rcases ht with rfl | rfl | rfl <;> exact ⟨by kernel_rfl, of_decide_eq_true (by kernel_rfl)⟩) hW' rfl hb⟩

set_option maxRecDepth 100000 in
theorem lifted (os : Os) (started : os.Started) (H : Type) (enc : TypeId × Value → H) :
    ReturnsInHanded {} Try.checked os 11 .any (Rows.fnExactChooseSlingSpec.pre6 enc Try.prog Try.f11 Rows.fnExactChooseSlingRow.domain false) (Rows.fnExactChooseSlingSpec.post enc Try.prog Try.f11 false true false false) := by
  refine returnsInHanded_of_change (C := Try.checked) own started (by kernel_rfl) Try.func11
    (ChangeSpec.witness6 (enc := enc) (C := Try.checked) false ⟨#[], #[.slice none 0 0, .slice none 0 0, .int .i64 0], []⟩ 8 (by kernel_rfl) (by kernel_rfl) (by kernel_rfl) (by kernel_rfl)) ?_
  intro W base args ds gs before hval hW _ _
  exact contract H enc W base args ds gs before hval hW

theorem proved : Rows.FnExactChooseSlingSaid :=
  OpenClaim.holds_of_wide 11 Try.f11 rfl rfl rfl rfl rfl rfl rfl ⟨rfl, rfl, rfl, rfl, rfl⟩ rfl rfl rfl rfl rfl (by kernel_rfl) Try.func11 (by kernel_rfl)
    (of_decide_eq_true (by kernel_rfl)) (by unfold Func.isWrapper; first | (rw [if_pos (by decide +kernel)]; kernel_rfl) | (rw [if_neg (by decide +kernel)]; exact ⟨rfl, rfl⟩))
    (fun os started H enc _ => lifted os started H enc)
end Go.Proofs.Ytnmldhkcbekecaa.fnExactChooseSling
