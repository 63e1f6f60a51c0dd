/- The program's decimal texts. -/
import Derived.Test.YtoojnfdphjdocaaDoorDec
import Derived.Test.YtoojnfdphjdocaaDoorShelf
import Derived.Lib.AppendIntMem
namespace Go.Proofs.YtoojnfdphjdocaaDoor
open Go.RowKit
/-- a listed table outlives what makes new memory alone -/
theorem tab_below {P : Program} {w w' : World} {name : String} {k : IntKind} {zs : List Int} (h : Lib.TabIs P w name k zs) (hb : Below w.heap.size w w') : Lib.TabIs P w' name k zs := by
  unfold Lib.TabIs World.var? at *
  cases hg : P.globalNamed name with
  | none => simp [hg] at h
  | some g =>
    simp only [hg, Option.bind_some] at h ⊢
    rcases Nat.lt_or_ge g w.heap.size with hl | hl
    · rw [hb.block g hl]; exact h
    · rw [Array.getElem?_eq_none hl] at h; cases h
/-- the table of powers of ten stands -/
def Pow10 (w : World) : Prop := Lib.TabIs Tryd.prog w "internal/strconv.uint64pow10" .u64 Lib.pow10Tab
theorem Pow10.later {w w' : World} (h : Pow10 w) (hb : Below w.heap.size w w') : Pow10 w' := tab_below h hb
set_option maxHeartbeats 1000000 in
theorem decimal_any (n : Int) (hn : -9223372036854775808 ≤ n ∧ n ≤ 9223372036854775807) (w : World) (ht : Pow10 w) : Calls Tryd.prog 20 #[.int .i64 n] w fun e w' => e = .returned (.string (strB (dS n))) ∧ Below w.heap.size w w' := by
  have HF := Lib.hid (strconv_FormatInt_10 n hn.1 hn.2 w ht)
  go_enter Tryd.func20, Tryd.ntmps20; go_wp2_with (go_at_call 39; (with_reducible refine HF.out.mono ?_); rintro e w1 ⟨rfl, k, os, rfl⟩)
  go_ret
  exact ⟨rfl, Lib.below_grow _ _ (Nat.le_refl _) _ _⟩
end Go.Proofs.YtoojnfdphjdocaaDoor
