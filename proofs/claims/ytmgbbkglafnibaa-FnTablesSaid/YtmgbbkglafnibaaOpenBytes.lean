/- Slices of bytes that came in. -/
import Derived.Test.YtmgbbkglafnibaaOpenVec
namespace Go.Proofs.Ytmgbbkglafnibaa
open Go.RowKit Go.Deep Go.ChangeShapes Go.WideShapes Go.Joins
def U8 (x : Int) : Prop := 0 ≤ x ∧ x ≤ 255
theorem bd8 {x : Int} (h : (Lit.int .u8 x).wf = true) : 0 ≤ x ∧ x ≤ 255 := by
  simpa [Lit.wf, IntKind.min, IntKind.max, IntKind.signed, IntKind.bits] using h
section
variable {H : Type} {enc : TypeId × Value → H} {w : World} {base : Nat} {held : Bool} {r : Reach} {b0 : Nat} {v : Value} {d : DataW H} {p : List MemPlace}
theorem el_byte {n : Nat} {cs : List Value} {y : DataW H × List MemPlace} (h : DataW.trod enc Try.prog w base (fun _ => true) held n 5 cs = some y) : ∃ x : Int, cs = [.int .u8 x] ∧ U8 x := by
  obtain ⟨x, e, _, wx⟩ := DataW.trod_int Try.underlying5 h
  exact ⟨x, e, bd8 wx⟩
set_option maxRecDepth 20000 in
theorem val_bytes (hv : Value.okWide Try.prog w r b0 45 v) (h : DataW.Trod enc Try.prog w base (fun _ => true) held 45 v d p) :
    ∃ (A : Option Addr) (n c : Nat) (xs : List Int), v = .slice A n c ∧ n ≤ 9223372036854775807 ∧ xs.length = n ∧ (∀ x ∈ xs, U8 x) ∧ SV (.int .u8) w w.heap.size A xs := by
  have ce : Try.prog.cellsOf 5 = 1 := by kernel_rfl
  exact val_vec (f := Value.int .u8) (Q := U8) Try.underlying45 ce el_byte hv h
end
end Go.Proofs.Ytmgbbkglafnibaa
