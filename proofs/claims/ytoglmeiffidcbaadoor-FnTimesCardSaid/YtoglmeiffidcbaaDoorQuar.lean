/- The table of the vectors of the directions 0 to 5, as the program's text lays it. -/
import Derived.Test.YtoglmeiffidcbaaDoorRows
import Derived.Test.YtoglmeiffidcbaaDoorOpen
import Derived.Lib.LaidTab
import Derived.MakeChecks
namespace Go.Proofs.YtoglmeiffidcbaaDoor
open Go.RowKit Go.Deep Go.ChangeShapes Go.Proofs.YtoglmeiffidcbaaDoor.Rows
def quarL : List (Int × Int) := [(1000, 0), (966, 259), (866, 500), (707, 707), (500, 866), (259, 966)]
def ptData {H : Type} (zs : List (Int × Int)) : DataW H := .agg (zs.map fun z => .agg [.lit (.int .i64 z.1), .lit (.int .i64 z.2)])
/-- the table's block holds the six vectors -/
def Quar (w : World) : Prop := 1 < w.heap.size ∧ ∀ (i : Nat) z, quarL[i]? = some z → w.cell? ⟨1, 2 * i, none⟩ = some (.int .i64 z.1) ∧ w.cell? ⟨1, 2 * i + 1, none⟩ = some (.int .i64 z.2)
theorem Quar.late {w w' : World} (h : Quar w) (hb : Below w.heap.size w w') : Quar w' :=
  ⟨Nat.lt_of_lt_of_le h.1 hb.size, fun i z hz => ⟨(hb.cell (p := ⟨_, _, none⟩) h.1).trans (h.2 i z hz).1, (hb.cell (p := ⟨_, _, none⟩) h.1).trans (h.2 i z hz).2⟩⟩
theorem Quar.drewN {w : World} (h : Quar w) (n : Nat) : Quar (w.drewN n) := h
section
variable {H : Type} {enc : TypeId × Value → H} {P : Program} {w : World} {base : Nat} {sp : Nat → Bool} {held : Bool}
theorem pt_cells {fuel : Nat} {t : TypeId} {f0 f1 : Field} {cs : List Value} {a b : Int} {p : List MemPlace} (ht : P.underlying t = some (.struct #[f0, f1])) (k0 : P.underlying f0.type = some (.int .i64)) (k1 : P.underlying f1.type = some (.int .i64))
    (o0 : f0.offset = 0) (o1 : f1.offset = 1) (n0 : P.cellsOf f0.type = 1) (n1 : P.cellsOf f1.type = 1) (nt : P.cellsOf t = 2)
    (h : DataW.trod enc P w base sp held fuel t cs = some (.agg [.lit (.int .i64 a), .lit (.int .i64 b)], p)) : cs = [.int .i64 a, .int .i64 b] := by
  obtain ⟨y0, y1, n, hx, hl, h0, h1⟩ := trod_struct2 ht h
  rw [nt] at hl
  match cs, hl with
  | [c0, c1], _ =>
    rw [o0, n0] at h0
    rw [o1, n1] at h1
    obtain ⟨z0, e0, g0, _⟩ := DataW.trod_int k0 h0
    obtain ⟨z1, e1, g1, _⟩ := DataW.trod_int k1 h1
    subst g0; subst g1
    simp at e0 e1 hx
    rw [e0, e1, hx.1.1, hx.1.2]
theorem cells_of_pts {fuel : Nat} {t e : TypeId} {n : Nat} {cs : List Value} {zs : List (Int × Int)} {p : List MemPlace}
    (ht : P.underlying t = some (.array n e)) (hce : P.cellsOf e = 2) (hct : P.cellsOf t = n * 2)
    (hpt : ∀ {fuel : Nat} {cs : List Value} {a b : Int} {p : List MemPlace}, DataW.trod enc P w base sp held fuel e cs = some (.agg [.lit (.int .i64 a), .lit (.int .i64 b)], p) → cs = [.int .i64 a, .int .i64 b])
    (h : DataW.trod enc P w base sp held fuel t cs = some (ptData zs, p)) : ∀ (i : Nat) z, zs[i]? = some z → cs[2 * i]? = some (.int .i64 z.1) ∧ cs[2 * i + 1]? = some (.int .i64 z.2) := by
  cases fuel with
  | zero => simp [DataW.trod] at h
  | succ fuel =>
    simp only [DataW.trod, ht, hce, hct] at h
    split at h
    · rename_i hl
      obtain ⟨xs, hm, hx⟩ := Option.map_eq_some_iff.1 h
      have hxs : xs.map (·.1) = zs.map fun z => (DataW.agg [.lit (.int .i64 z.1), .lit (.int .i64 z.2)] : DataW H) := by
        have := congrArg Prod.fst hx
        simpa [ptData] using this
      have hxl : xs.length = n := by simpa using Lib.mapM_length hm
      have hzl : zs.length = n := by
        have := congrArg List.length hxs
        simp at this
        omega
      intro i z hz
      have hi : i < n := by
        rcases Nat.lt_or_ge i n with h1 | h1
        · exact h1
        · rw [List.getElem?_eq_none (by omega)] at hz; cases hz
      obtain ⟨b, hb, hf⟩ := Lib.mapM_at hm i i (by simp [hi])
      have h2 : (xs.map (·.1))[i]? = some b.1 := by simp [hb]
      rw [hxs] at h2
      simp only [List.getElem?_map, hz, Option.map_some, Option.some.injEq] at h2
      obtain ⟨d, q⟩ := b
      simp only at h2
      subst h2
      have h3 := hpt hf
      have h4 := congrArg (·[0]?) h3
      have h5 := congrArg (·[1]?) h3
      simp [List.getElem?_drop] at h4 h5
      rw [Nat.mul_comm 2 i]
      exact ⟨h4, h5⟩
    · cases h
end
theorem quar_of_laid {W : World} {rest : List (String × DataW Unit)} (h0 : laidMetH Tryd.prog (("loop.example/g00932/impl.quarter", laid_loop_example_g00932_impl_quarter) :: rest) W)
    (hp : laidMetH Tryd.prog (("loop.example/g00932/impl.quarter", laid_loop_example_g00932_impl_quarter) :: rest) W = laidMet Tryd.prog (("loop.example/g00932/impl.quarter", laid_loop_example_g00932_impl_quarter) :: rest) W) : Quar W := by
  rw [hp] at h0
  obtain ⟨ps, ⟨g', t', cs, fuel, p, q, hg', ht', hvar, hd, _, _⟩, _⟩ := h0
  have hg : Tryd.prog.globalNamed "loop.example/g00932/impl.quarter" = some 1 := by kernel_rfl
  obtain rfl := Option.some.inj (hg.symm.trans hg')
  have hty : (Tryd.prog.globals[1]?).map (·.type) = some 114 := by kernel_rfl
  obtain rfl := Option.some.inj (hty.symm.trans ht')
  have hc := cells_of_pts (zs := quarL) Tryd.underlying114 (by kernel_rfl) (by kernel_rfl) (fun h => pt_cells Tryd.underlying35 Tryd.underlying2 Tryd.underlying2 rfl rfl (by kernel_rfl) (by kernel_rfl) (by kernel_rfl) h) hd
  have hcell : ∀ (i : Nat) z, quarL[i]? = some z → W.cell? ⟨1, 2 * i, none⟩ = some (.int .i64 z.1) ∧ W.cell? ⟨1, 2 * i + 1, none⟩ = some (.int .i64 z.2) := by
    intro i z hz
    obtain ⟨a, b⟩ := hc i z hz
    have h1 := World.var?_cell hg hvar (2 * i)
    have h2 := World.var?_cell hg hvar (2 * i + 1)
    exact ⟨by rw [h1]; simpa using a, by rw [h2]; simpa using b⟩
  refine ⟨?_, hcell⟩
  have := (hcell 0 (1000, 0) rfl).1
  exact lt_of_cell this
end Go.Proofs.YtoglmeiffidcbaaDoor
