/- Lifts in memory, and slices of lifts that came in. -/
import Derived.Test.YtoglmeiffidcbaaOpenVec
import Derived.Deep.Fields
namespace Go.Proofs.Ytoglmeiffidcbaa
open Go.RowKit Go.Deep Go.ChangeShapes Go.WideShapes
structure Lf where
  nm : ByteArray
  v0 : Int
  v1 : Int
  v2 : Int
  v3 : Int
  v4 : Int
  v5 : Int
  v6 : Int
  xs : List Int
deriving DecidableEq
def cellsL (x : Lf) (A : Option Addr) (c : Nat) : List Value := [.string x.nm, .int .i64 x.v0, .int .i64 x.v1, .int .i64 x.v2, .int .i64 x.v3, .int .i64 x.v4, .int .i64 x.v5, .int .i64 x.v6, .slice A x.xs.length c]
def Lf.ok (x : Lf) : Prop := x.nm.size ≤ maxLen ∧ I64 x.v0 ∧ I64 x.v1 ∧ I64 x.v2 ∧ I64 x.v3 ∧ I64 x.v4 ∧ I64 x.v5 ∧ I64 x.v6 ∧ x.xs.length ≤ 9223372036854775807 ∧ (∀ z ∈ x.xs, I64 z)
/-- the nine cells of a lift -/
def Cl (w : World) (b o : Nat) (x : Lf) (A : Option Addr) (c : Nat) : Prop := w.cell? ⟨b, o, none⟩ = some (.string x.nm) ∧ w.cell? ⟨b, o + 1, none⟩ = some (.int .i64 x.v0) ∧ w.cell? ⟨b, o + 2, none⟩ = some (.int .i64 x.v1) ∧ w.cell? ⟨b, o + 3, none⟩ = some (.int .i64 x.v2) ∧ w.cell? ⟨b, o + 4, none⟩ = some (.int .i64 x.v3) ∧ w.cell? ⟨b, o + 5, none⟩ = some (.int .i64 x.v4) ∧ w.cell? ⟨b, o + 6, none⟩ = some (.int .i64 x.v5) ∧ w.cell? ⟨b, o + 7, none⟩ = some (.int .i64 x.v6) ∧ w.cell? ⟨b, o + 8, none⟩ = some (.slice A x.xs.length c)
theorem Cl.below {w w' : World} {B b o c : Nat} {x : Lf} {A : Option Addr} (h : Cl w b o x A c) (hb : Below B w w') (hB : b < B) : Cl w' b o x A c := by
  obtain ⟨c0, c1, c2, c3, c4, c5, c6, c7, c8⟩ := h
  exact ⟨(hb.cell (p := ⟨b, o, none⟩) hB).trans c0, (hb.cell (p := ⟨b, o + 1, none⟩) hB).trans c1, (hb.cell (p := ⟨b, o + 2, none⟩) hB).trans c2, (hb.cell (p := ⟨b, o + 3, none⟩) hB).trans c3, (hb.cell (p := ⟨b, o + 4, none⟩) hB).trans c4, (hb.cell (p := ⟨b, o + 5, none⟩) hB).trans c5, (hb.cell (p := ⟨b, o + 6, none⟩) hB).trans c6, (hb.cell (p := ⟨b, o + 7, none⟩) hB).trans c7, (hb.cell (p := ⟨b, o + 8, none⟩) hB).trans c8⟩
theorem Cl.of {w : World} {b o c : Nat} {x : Lf} {A : Option Addr} (h : ∀ j u, (cellsL x A c)[j]? = some u → w.cell? ⟨b, o + j, none⟩ = some u) : Cl w b o x A c := by
  exact ⟨h 0 _ rfl, h 1 _ rfl, h 2 _ rfl, h 3 _ rfl, h 4 _ rfl, h 5 _ rfl, h 6 _ rfl, h 7 _ rfl, h 8 _ rfl⟩
/-- a slice of lifts, read -/
def LV (w : World) (B : Nat) (A : Option Addr) (ls : List Lf) : Prop := 0 < ls.length → ∃ b off, A = some ⟨b, off, none⟩ ∧ b < B ∧ ∀ j x, ls[j]? = some x → ∃ Ar cr, Cl w b (off + j * 9) x Ar cr ∧ SV (.int .i64) w B Ar x.xs
theorem LV.nil {w : World} {B : Nat} {A : Option Addr} : LV w B A [] := fun h => absurd h (by simp)
theorem LV.below {w w' : World} {B : Nat} {A : Option Addr} {ls : List Lf} (h : LV w B A ls) (hb : Below B w w') : LV w' B A ls := by
  intro hp
  obtain ⟨b, off, h1, h2, h3⟩ := h hp
  refine ⟨b, off, h1, h2, fun j x hx => ?_⟩
  obtain ⟨Ar, cr, h4, h5⟩ := h3 j x hx
  exact ⟨Ar, cr, h4.below hb h2, h5.below hb⟩
theorem LV.more {w : World} {B B' : Nat} {A : Option Addr} {ls : List Lf} (h : LV w B A ls) (hB : B ≤ B') : LV w B' A ls := by
  intro hp
  obtain ⟨b, off, h1, h2, h3⟩ := h hp
  refine ⟨b, off, h1, by omega, fun j x hx => ?_⟩
  obtain ⟨Ar, cr, h4, h5⟩ := h3 j x hx
  exact ⟨Ar, cr, h4, h5.more hB⟩
theorem LV.later {w w' : World} {A : Option Addr} {ls : List Lf} (h : LV w w.heap.size A ls) (hb : Below w.heap.size w w') : LV w' w'.heap.size A ls := (h.below hb).more hb.size
theorem LV.at_ {w : World} {B : Nat} {A : Option Addr} {ls : List Lf} (h : LV w B A ls) {j : Nat} {x : Lf} (hx : ls[j]? = some x) : ∃ b off Ar cr, A = some ⟨b, off, none⟩ ∧ b < B ∧ Cl w b (off + j * 9) x Ar cr ∧ SV (.int .i64) w B Ar x.xs := by
  have hp : 0 < ls.length := by
    rcases Nat.eq_zero_or_pos ls.length with h0 | h0
    · rw [List.eq_nil_of_length_eq_zero h0] at hx; simp at hx
    · exact h0
  obtain ⟨b, off, h1, h2, h3⟩ := h hp
  obtain ⟨Ar, cr, h4, h5⟩ := h3 j x hx
  exact ⟨b, off, Ar, cr, h1, h2, h4, h5⟩
section
variable {H : Type} {enc : TypeId × Value → H} {w : World} {base : Nat} {held : Bool} {r : Reach} {b0 : Nat} {v : Value} {d : DataW H} {p : List MemPlace}
set_option maxRecDepth 20000 in
theorem el_point {n : Nat} {cs : List Value} {y : DataW H × List MemPlace} (h : DataW.trod enc Try.prog w base (fun _ => true) held n 64 cs = some y) : ∃ a b : Int, cs = [.int .i64 a, .int .i64 b] ∧ I64 a ∧ I64 b := by
  obtain ⟨ys, n', _, _, hl, hlen, hg⟩ := DataW.trod_struct Try.underlying64 h
  have hl2 : cs.length = 2 := hl.trans (by kernel_rfl)
  match cs, hl2 with
  | [c0, c1], _ =>
    have k0 : Try.prog.cellsOf 2 = 1 := by kernel_rfl
    have h0 : DataW.trod enc Try.prog w base (fun _ => true) held n' 2 [c0] = ys[0]? := by have h := hg 0 _ rfl; simpa [k0] using h
    have h1 : DataW.trod enc Try.prog w base (fun _ => true) held n' 2 [c1] = ys[1]? := by have h := hg 1 _ rfl; simpa [k0] using h
    obtain ⟨z0, hz0⟩ : ∃ z, ys[0]? = some z := ⟨_, List.getElem?_eq_getElem (by rw [hlen]; decide)⟩
    obtain ⟨z1, hz1⟩ : ∃ z, ys[1]? = some z := ⟨_, List.getElem?_eq_getElem (by rw [hlen]; decide)⟩
    obtain ⟨s0, e0, _, w0⟩ := DataW.trod_int Try.underlying2 (h0.trans hz0)
    obtain ⟨s1, e1, _, w1⟩ := DataW.trod_int Try.underlying2 (h1.trans hz1)
    simp only [List.cons.injEq, and_true] at e0 e1
    exact ⟨s0, s1, by rw [e0, e1], bd w0, bd w1⟩
set_option maxRecDepth 20000 in
theorem el_lift {n : Nat} {cs : List Value} {y : DataW H × List MemPlace} (h : DataW.trod enc Try.prog w base (fun _ => true) held n 67 cs = some y) : ∃ (x : Lf) (A : Option Addr) (c : Nat), cs = cellsL x A c ∧ x.ok ∧ SV (.int .i64) w w.heap.size A x.xs := by
  obtain ⟨ys, n', _, _, hl, hlen, hg⟩ := DataW.trod_struct Try.underlying67 h
  have hl2 : cs.length = 9 := hl.trans (by kernel_rfl)
  match cs, hl2 with
  | [c0, c1, c2, c3, c4, c5, c6, c7, c8], _ =>
    have ks : Try.prog.cellsOf 9 = 1 := by kernel_rfl
    have k0 : Try.prog.cellsOf 2 = 1 := by kernel_rfl
    have kp : Try.prog.cellsOf 64 = 2 := by kernel_rfl
    have kl : Try.prog.cellsOf 65 = 1 := by kernel_rfl
    have h0 : DataW.trod enc Try.prog w base (fun _ => true) held n' 9 [c0] = ys[0]? := by have h := hg 0 _ rfl; simpa [ks, k0, kp, kl] using h
    obtain ⟨z0, hz0⟩ : ∃ z, ys[0]? = some z := ⟨_, List.getElem?_eq_getElem (by rw [hlen]; decide)⟩
    have h1 : DataW.trod enc Try.prog w base (fun _ => true) held n' 2 [c1] = ys[1]? := by have h := hg 1 _ rfl; simpa [ks, k0, kp, kl] using h
    obtain ⟨z1, hz1⟩ : ∃ z, ys[1]? = some z := ⟨_, List.getElem?_eq_getElem (by rw [hlen]; decide)⟩
    have h2 : DataW.trod enc Try.prog w base (fun _ => true) held n' 64 [c2, c3] = ys[2]? := by have h := hg 2 _ rfl; simpa [ks, k0, kp, kl] using h
    obtain ⟨z2, hz2⟩ : ∃ z, ys[2]? = some z := ⟨_, List.getElem?_eq_getElem (by rw [hlen]; decide)⟩
    have h3 : DataW.trod enc Try.prog w base (fun _ => true) held n' 64 [c4, c5] = ys[3]? := by have h := hg 3 _ rfl; simpa [ks, k0, kp, kl] using h
    obtain ⟨z3, hz3⟩ : ∃ z, ys[3]? = some z := ⟨_, List.getElem?_eq_getElem (by rw [hlen]; decide)⟩
    have h4 : DataW.trod enc Try.prog w base (fun _ => true) held n' 2 [c6] = ys[4]? := by have h := hg 4 _ rfl; simpa [ks, k0, kp, kl] using h
    obtain ⟨z4, hz4⟩ : ∃ z, ys[4]? = some z := ⟨_, List.getElem?_eq_getElem (by rw [hlen]; decide)⟩
    have h5 : DataW.trod enc Try.prog w base (fun _ => true) held n' 2 [c7] = ys[5]? := by have h := hg 5 _ rfl; simpa [ks, k0, kp, kl] using h
    obtain ⟨z5, hz5⟩ : ∃ z, ys[5]? = some z := ⟨_, List.getElem?_eq_getElem (by rw [hlen]; decide)⟩
    have h6 : DataW.trod enc Try.prog w base (fun _ => true) held n' 65 [c8] = ys[6]? := by have h := hg 6 _ rfl; simpa [ks, k0, kp, kl] using h
    obtain ⟨z6, hz6⟩ : ∃ z, ys[6]? = some z := ⟨_, List.getElem?_eq_getElem (by rw [hlen]; decide)⟩
    obtain ⟨nm, e0, _, g0⟩ := DataW.trod_string Try.underlying9 (h0.trans hz0)
    obtain ⟨a0, e1, _, g1⟩ := DataW.trod_int Try.underlying2 (h1.trans hz1)
    obtain ⟨a5, e4, _, g4⟩ := DataW.trod_int Try.underlying2 (h4.trans hz4)
    obtain ⟨a6, e5, _, g5⟩ := DataW.trod_int Try.underlying2 (h5.trans hz5)
    obtain ⟨a1, a2, e2, g2, g2'⟩ := el_point (h2.trans hz2)
    obtain ⟨a3, a4, e3, g3, g3'⟩ := el_point (h3.trans hz3)
    have ce : Try.prog.cellsOf 2 = 1 := k0
    obtain ⟨A, m, c, xs, e6, q1, q2, q3, q4⟩ := open_vec (f := Value.int .i64) (Q := I64) Try.underlying65 k0 el_int (h6.trans hz6)
    simp only [List.cons.injEq, and_true] at e0 e1 e2 e3 e4 e5 e6
    subst q2
    refine ⟨⟨nm, a0, a1, a2, a3, a4, a5, a6, xs⟩, A, c, ?_, ⟨g0, bd g1, g2, g2', g3, g3', bd g4, bd g5, q1, q3⟩, q4⟩
    rw [e0, e1, e2.1, e2.2, e3.1, e3.2, e4, e5, e6]
    rfl
set_option maxRecDepth 20000 in
theorem val_lifts (hv : Value.okWide Try.prog w r b0 46 v) (h : DataW.Trod enc Try.prog w base (fun _ => true) held 46 v d p) :
    ∃ (A : Option Addr) (n c : Nat) (ls : List Lf), v = .slice A n c ∧ n ≤ 9223372036854775807 ∧ ls.length = n ∧ (∀ x ∈ ls, x.ok) ∧ LV w w.heap.size A ls := by
  obtain ⟨A, n, c, rfl⟩ := okWide_slice Try.underlying46 hv
  obtain ⟨fuel, hf⟩ := h
  have ce : Try.prog.cellsOf 67 = 9 := by kernel_rfl
  rcases open_slice Try.underlying46 hf with ⟨hcs, _⟩ | ⟨a, len, cap, m, n1, D, Pl, hcs, hb, hl, hmx, hmm, hx, hi⟩
  · simp [Value.cells] at hcs
    obtain ⟨rfl, rfl, rfl⟩ := hcs
    exact ⟨none, 0, 0, [], rfl, by omega, rfl, by simp, LV.nil⟩
  · simp [Value.cells] at hcs
    obtain ⟨rfl, rfl, rfl⟩ := hcs
    have hcell : ∀ i, i < n → ∃ x : Lf, x.ok ∧ ∃ Ar cr, (∀ j u, (cellsL x Ar cr)[j]? = some u → w.cell? (a.add (i * 9 + j)) = some u) ∧ SV (.int .i64) w w.heap.size Ar x.xs := by
      intro i hlt
      obtain ⟨cs', hc, ht'⟩ := hi i (by rw [hmm]; simp; omega)
      obtain ⟨x, Ar, cr, rfl, hq, hs⟩ := el_lift ht'
      rw [ce] at hc
      obtain ⟨_, hcl, hat⟩ := World.cells?_some hc
      refine ⟨x, hq, Ar, cr, fun j u hu => ?_, hs⟩
      have hj : j < 9 := by have := (List.getElem?_eq_some_iff.1 hu).1; simpa [cellsL] using this
      have h0 := hat j (by omega)
      rw [Go.Deep.add_add] at h0
      exact h0.trans hu
    obtain ⟨ls, hlen, hls⟩ := list_of n hcell
    refine ⟨some a, n, c, ls, rfl, by unfold maxLen at hmx; omega, hlen, fun x hm => ?_, fun hp => ?_⟩
    · obtain ⟨j, hj⟩ := List.mem_iff_getElem?.1 hm
      exact (hls j x hj).1
    · obtain ⟨x0, hx0⟩ := at_of_lt hp
      obtain ⟨_, Ar0, cr0, hc0, _⟩ := hls 0 x0 hx0
      have h0 := hc0 0 _ rfl
      obtain ⟨b, off, spot⟩ := a
      have hspot : spot = none := by simpa [Addr.add] using World.cell?_spot h0
      subst hspot
      have hadd : ∀ j, (⟨b, off, none⟩ : Addr).add j = ⟨b, off + j, none⟩ := fun j => by unfold Addr.add; by_cases hj : j = 0 <;> simp [hj]
      refine ⟨b, off, rfl, ?_, fun j x hj => ?_⟩
      · have := lt_of_cell h0
        rw [hadd] at this
        exact this
      · obtain ⟨_, Ar, cr, h1, h2⟩ := hls j x hj
        refine ⟨Ar, cr, Cl.of fun i u hu => ?_, h2⟩
        have h3 := h1 i u hu
        rw [hadd] at h3
        rw [Nat.add_assoc]
        exact h3
end
end Go.Proofs.Ytoglmeiffidcbaa
