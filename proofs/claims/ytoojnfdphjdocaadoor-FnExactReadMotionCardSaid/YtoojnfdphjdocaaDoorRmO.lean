/- A list that grows in memory of its own, in a struct's second cell. -/
import Derived.Test.YtoojnfdphjdocaaDoorRmP
namespace Go.Proofs.YtoojnfdphjdocaaDoor
open Go.RowKit Go.Deep
theorem RS.rowne1 {α : Type} {f : α → Value} {e : TypeId} {w : World} {lo hi c k : Nat} {A : Option Addr} {xs : List α} (h : RS f e w lo hi A c xs) (hk : k < lo) : A.map (·.block) ≠ some k := by
  rcases h with ⟨rfl, _⟩ | ⟨g, cur, rfl, h1, _⟩
  · simp
  · simp; omega
theorem RS.where1 {α : Type} {f : α → Value} {e : TypeId} {w : World} {lo hi c : Nat} {A : Option Addr} {xs : List α} (h : RS f e w lo hi A c xs) : A = none ∨ ∃ g, A = some ⟨g, 0, none⟩ ∧ lo ≤ g ∧ g < hi ∧ g < w.heap.size := by
  rcases h with ⟨h0, _⟩ | ⟨g, cur, h0, h1, h2, h3, _⟩
  · exact .inl h0
  · exact .inr ⟨g, h0, h1, h2, lt_of_block h3⟩
structure One (w0 : World) (m : Nat) (ti tm : TypeId) (w : World) (s : Int) (A : Option Addr) (n q : Nat) (xs : List Int) : Prop where
  lm : w0.heap.size ≤ m
  len : xs.length = n
  r : RS (.int .i64) ti w w0.heap.size w.heap.size A q xs
  o : ∀ g, A = some ⟨g, 0, none⟩ → g ≠ m
  b : Box2 w m tm (.int .i64 s) (.slice A n q)
  bw : Below w0.heap.size w0 w
section
variable {w0 w : World} {m : Nat} {ti tm : TypeId} {s : Int} {A : Option Addr} {n q : Nat} {xs : List Int}
theorem One.late {w' : World} (h : One w0 m ti tm w s A n q xs) (hb : Below w.heap.size w w') : One w0 m ti tm w' s A n q xs :=
  { h with r := (h.r.late hb).top, b := h.b.late hb, bw := gr_then hb h.bw }
theorem One.app {w' : World} {o : Obj} {B : Option Addr} {c : Nat} {x : Int} (h : One w0 m ti tm w s A n q xs) (hr : RS (.int .i64) ti w' w0.heap.size w'.heap.size B c (xs ++ [x]))
    (hg : (w.alloc o).grownBy w' (A.map (·.block))) (hB : B = A ∨ B = some ⟨(w.alloc o).heap.size, 0, none⟩) :
    (w'.cell? ⟨m, 1, none⟩ = some (.slice A n q) ∧ w'.frozen? ⟨m, 1, none⟩ = false) ∧ One w0 m ti tm (w'.setCell ⟨m, 1, none⟩ (.slice B (n + 1) c)) s B (n + 1) c (xs ++ [x]) := by
  have x3 := h.lm
  have ha : Below w.heap.size w (w.alloc o) := gr_alloc (gr_refl w)
  have hrow : ∀ k, A.map (·.block) = some k → A = some ⟨k, 0, none⟩ := by
    intro k hk
    rcases h.r.where1 with rfl | ⟨g, rfl, _⟩
    · cases hk
    · simp at hk; subst hk; rfl
  have hb1 : Box2 w' m tm (.int .i64 s) (.slice A n q) := (h.b.late ha).grown hg (fun e => h.o _ (hrow _ e) rfl)
  have hsz : w.heap.size + 1 ≤ w'.heap.size := by have := hg.size; simpa using this
  have hm1 := h.b.lt
  have hnew : ∀ g, B = some ⟨g, 0, none⟩ → A = some ⟨g, 0, none⟩ ∨ g = w.heap.size + 1 := by
    intro g e
    rcases hB with e2 | e2
    · exact .inl (e2 ▸ e)
    · rw [e] at e2; simp only [Option.some.injEq, Addr.mk.injEq, and_true, World.size_alloc] at e2; exact .inr e2
  have hs : (w'.setCell ⟨m, 1, none⟩ (.slice B (n + 1) c)).heap.size = w'.heap.size := by simp [World.setCell]
  have ho1 : ∀ g, B = some ⟨g, 0, none⟩ → g ≠ m := by
    intro g e
    rcases hnew g e with e2 | e2
    · exact h.o g e2
    · omega
  have hlow : Below w0.heap.size w w' := (ha.mono h.bw.size).grown hg (Nat.le_trans h.bw.size ha.size) fun k e => by
    rcases Nat.lt_or_ge k w0.heap.size with h1 | h1
    · exact absurd e (h.r.rowne1 h1)
    · exact h1
  refine ⟨⟨hb1.c1, hb1.f0 1⟩, { h with len := (by rw [List.length_append, h.len]; rfl), r := ?_, o := ho1, b := hb1.put1 _, bw := ?_ }⟩
  · rw [hs]; exact hr.far (p := ⟨m, 1, none⟩) (fun g e => ho1 g e) _
  · exact h.bw.trans (hlow.setCell (p := ⟨m, 1, none⟩) (by simp only; omega) _)
theorem One.ret (h : One w0 m ti tm w s A n q xs) (R : Nat) (hR : R < w0.heap.size) (y0 y1 : Value) :
    RS (.int .i64) ti ((w.setCell ⟨R, 0, none⟩ y0).setCell ⟨R, 1, none⟩ y1) w0.heap.size ((w.setCell ⟨R, 0, none⟩ y0).setCell ⟨R, 1, none⟩ y1).heap.size A q xs := by
  have hs : ((w.setCell ⟨R, 0, none⟩ y0).setCell ⟨R, 1, none⟩ y1).heap.size = w.heap.size := by simp [World.setCell]
  rw [hs]
  exact (h.r.far (p := ⟨R, 0, none⟩) (fun g e => by subst e; have := h.r.ge; simp only; omega) y0).far (p := ⟨R, 1, none⟩) (fun g e => by subst e; have := h.r.ge; simp only; omega) y1
/-- a list of no elements, laid ahead of the struct -/
theorem One.lit (w : World) (ti tm : TypeId) (s : Int) : One w (w.heap.size + 1) ti tm ((w.alloc (.cells #[] ti)).alloc (.cells #[.int .i64 s, .slice (some ⟨w.heap.size, 0, none⟩) 0 0] tm)) s (some ⟨w.heap.size, 0, none⟩) 0 0 [] := by
  refine { lm := Nat.le_succ _, len := rfl, r := ?_, o := (fun g e => by simp at e; omega), b := ?_, bw := gr_alloc (gr_alloc (gr_refl _)) }
  · exact ((RS.lit0 (f := Value.int .i64) (e := ti) w).late (gr_alloc (gr_refl _))).top
  · have h := Box2.new (w.alloc (.cells #[] ti)) tm (.int .i64 s) (.slice (some ⟨w.heap.size, 0, none⟩) 0 0)
    rw [World.size_alloc] at h
    exact h
theorem One.nil (w : World) (ti tm : TypeId) (s : Int) : One w w.heap.size ti tm (w.alloc (.cells #[.int .i64 s, .slice none 0 0] tm)) s none 0 0 [] :=
  { lm := Nat.le_refl _, len := rfl, r := RS.nil, o := (fun g e => by cases e), b := Box2.new w tm _ _, bw := gr_alloc (gr_refl _) }
theorem SV.new_at1 {α : Type} {f : α → Value} {y : α} {t b : Nat} {w : World} (h : w.heap.size = b) : SV f (w.alloc (.cells #[f y] t)) (b + 1) (some ⟨b, 0, none⟩) [y] := by subst h; exact SV.of_new w
end
end Go.Proofs.YtoojnfdphjdocaaDoor
