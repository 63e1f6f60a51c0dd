/- The walk of the law FnExactReadSling: whatever came in, both readers agree. No condition but the library's variables. -/
import Derived.Test.YtnmldhkcbekecaaDoorRdV
import Derived.Test.YtnmldhkcbekecaaDoorRdW
namespace Go.Proofs.YtnmldhkcbekecaaDoor.fnExactReadSling
open Go.RowKit Go.Deep
set_option maxHeartbeats 1000000 in
theorem eqSling_eq (x0 x1 x2 x3 : Int) (w : World) : Calls Tryd.prog 10 #[.agg #[.int .i64 x0, .int .i64 x1, .int .i64 x2, .int .i64 x3], .agg #[.int .i64 x0, .int .i64 x1, .int .i64 x2, .int .i64 x3]] w fun e w' => e = .returned (.bool true) ∧ Below w.heap.size w w' := by
  go_enter Tryd.func10, Tryd.ntmps10; go_wp2; go_returns; exact ⟨rfl, by repeat' first | exact gr_refl _ | with_reducible assumption | with_reducible apply gr_alloc | with_reducible apply gr_set | with_reducible apply gr_drew | with_reducible apply gr_drewN | exact Nat.le_add_right _ _ | exact Nat.le_refl _ | (refine gr_then (by with_reducible assumption) ?_)⟩
set_option maxHeartbeats 4000000 in
set_option maxRecDepth 20000 in
theorem walk (t : ByteArray) (w : World) (hV : RVars w) : Calls Tryd.prog 4 #[.string t] w fun e w' => e = .returned (.bool true) ∧ Below w.heap.size w w' := by
  have HV := Lib.hid hV
  clear hV
  by_cases hs : 1048576 < t.size
  · have hd : decide ((1048576 : Int) < (t.size : Int)) = true := decide_eq_true (by omega)
    go_enter Tryd.func4, Tryd.ntmps4; go_wp2; go_returns; exact ⟨rfl, gr_refl w⟩
  have hd : decide ((1048576 : Int) < (t.size : Int)) = false := decide_eq_false (by omega)
  replace hs : t.size ≤ 1048576 := by omega
  go_enter Tryd.func4, Tryd.ntmps4; go_wp2_with fail
  go_at_call 8
  (with_reducible refine (specRd_any t _ hs).mono ?_)
  rintro e w1 ⟨l, p, r, m, ok, rfl, hrel, hb⟩
  have HR := Lib.hid hrel
  have HB := Lib.hid hb
  replace HV := Lib.hid (HV.out.late hb)
  clear hb hrel
  have HX := Lib.hid (Box4.new w1 25 l p r m)
  replace HB := Lib.hid (gr_alloc (o := .cells #[.int .i64 l, .int .i64 p, .int .i64 r, .int .i64 m] 25) HB.out)
  replace HV := Lib.hid (HV.out.late (gr_alloc (o := .cells #[.int .i64 l, .int .i64 p, .int .i64 r, .int .i64 m] 25) (gr_refl w1)))
  go_wp2_with fail
  generalize w1.alloc (.cells #[.int .i64 l, .int .i64 p, .int .i64 r, .int .i64 m] 25) = v1 at *
  go_at_call 9
  (with_reducible refine (implRd_any t _ hs HV.out).mono ?_)
  rintro e w2 ⟨l2, p2, r2, m2, ok2, rfl, hrel, hb⟩
  obtain ⟨rfl, rfl, rfl, rfl, rfl⟩ := HR.out.same hrel
  replace HX := Lib.hid ((HX.out.late hb).late (gr_alloc (o := .cells #[.int .i64 l2, .int .i64 p2, .int .i64 r2, .int .i64 m2] 25) (gr_refl w2)))
  replace HB := Lib.hid (gr_alloc (o := .cells #[.int .i64 l2, .int .i64 p2, .int .i64 r2, .int .i64 m2] 25) (gr_then hb HB.out))
  clear hb hrel HR
  obtain ⟨r0, r1, r2', r3⟩ := HX.out.cs
  go_wp2_with fail
  go_at_call 10
  (with_reducible refine (eqSling_eq _ _ _ _ _).mono ?_)
  rintro e w3 ⟨rfl, hb⟩
  replace HB := Lib.hid (gr_then hb HB.out)
  clear hb
  cases ok2 <;> (go_wp2; go_returns; exact ⟨rfl, HB.out⟩)
end Go.Proofs.YtnmldhkcbekecaaDoor.fnExactReadSling
