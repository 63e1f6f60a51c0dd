/- The cells of a table. -/
import Derived.Test.YtmgbbkglafnibaaTabB
namespace Go.Proofs.Ytmgbbkglafnibaa
open Go.RowKit
def cellT (T : List (List Bool)) (a b : Nat) : Bool := (T.getD a []).getD b false
theorem trow {w : World} {B : Nat} {A : Option Addr} {T : List (List Bool)} (h : TB .bool w B A T) (hok : okT T = true) {a : Nat} (ha : a ≤ 23) :
    ∃ p o q u c, A = some ⟨p, o, none⟩ ∧ w.cell? ⟨p, o + a, none⟩ = some (.slice (some ⟨q, u, none⟩) 24 c) ∧ ∀ b, b ≤ 23 → w.cell? ⟨q, u + b, none⟩ = some (.bool (cellT T a b)) := by
  obtain ⟨h1, h2⟩ := okT_t hok
  obtain ⟨bs, hbs⟩ := at_of_lt (xs := T) (k := a) (by omega)
  have hl := all24_t h2 hbs
  obtain ⟨p, o, A', c, e, hB, hc, hsv⟩ := h.row hbs
  obtain ⟨q, u, e2, _, h3⟩ := hsv (by omega)
  refine ⟨p, o, q, u, c, e, by rw [hc, hl, e2], fun b hb => ?_⟩
  obtain ⟨x, hx⟩ := at_of_lt (xs := bs) (k := b) (by omega)
  rw [h3 b x hx, show cellT T a b = x by unfold cellT; simp [List.getD_eq_getElem?_getD, hbs, hx]]
def clB (T : List (List Bool)) (a b c d : Nat) : Bool := cellT T c d || (cellT T c b || cellT T a d)
set_option maxHeartbeats 4000000 in
set_option maxRecDepth 20000 in
theorem clashes_any (A : Option Addr) (e0 : Nat) (T : List (List Bool)) (w : World) (hok : okT T = true) (h : TB .bool w w.heap.size A T) (a b c d : Nat) (ha : a ≤ 23) (hb : b ≤ 23) (hc : c ≤ 23) (hd : d ≤ 23) : Calls Try.prog 69 #[.slice A T.length e0, .int .i64 (a : Int), .int .i64 (b : Int), .int .i64 (c : Int), .int .i64 (d : Int)] w fun e w' => e = .returned (.bool (clB T a b c d)) ∧ w = w' := by
  obtain ⟨p0, o0, q0, u0, v0, ea0, c0, g0⟩ := trow h hok (a := c) (by omega)
  subst ea0
  obtain ⟨p1, o1, q1, u1, v1, ea1, c1, g1⟩ := trow h hok (a := a) (by omega)
  simp only [Option.some.injEq, Addr.mk.injEq, and_true] at ea1
  obtain ⟨rfl, rfl⟩ := ea1
  have d0 := g0 d (by omega)
  have d1 := g0 b (by omega)
  have d2 := g1 d (by omega)
  clear g0 g1
  have hT := (okT_t hok).1
  rw [hT]
  clear h hok hT
  have ia0 : (0 : Int) ≤ (a : Int) := by omega
  have ia1 : (a : Int) < 24 := by omega
  have ib0 : (0 : Int) ≤ (b : Int) := by omega
  have ib1 : (b : Int) < 24 := by omega
  have ic0 : (0 : Int) ≤ (c : Int) := by omega
  have ic1 : (c : Int) < 24 := by omega
  have id0 : (0 : Int) ≤ (d : Int) := by omega
  have id1 : (d : Int) < 24 := by omega
  unfold clB
  cases k1 : cellT T c d <;> rw [k1] at d0
  case true => clear k1; go_enter Try.func69, Try.ntmps69; go_wp2; go_ret; exact ⟨rfl, rfl⟩
  cases k2 : cellT T c b <;> rw [k2] at d1
  case true => clear k1 k2; go_enter Try.func69, Try.ntmps69; go_wp2; go_ret; exact ⟨rfl, rfl⟩
  cases k3 : cellT T a d <;> rw [k3] at d2
  · clear k1 k2 k3; go_enter Try.func69, Try.ntmps69; go_wp2; go_ret; exact ⟨rfl, rfl⟩
  · clear k1 k2 k3; go_enter Try.func69, Try.ntmps69; go_wp2; go_ret; exact ⟨rfl, rfl⟩
end Go.Proofs.Ytmgbbkglafnibaa
