/- RouteMotions: what is computed, in plain words; two lists that grow side by side. -/
import Derived.Test.YtoojnfdphjdocaaITab
import Derived.Test.YtoojnfdphjdocaaTurns
import Derived.Test.YtoojnfdphjdocaaMotF
import Derived.Test.YtoojnfdphjdocaaApp
namespace Go.Proofs.Ytoojnfdphjdocaa
open Go.RowKit Go.Deep
def stOk (xs : List Int) : Bool := decide (xs.length = 2) && (inI (xs.getD 0 0) 0 23 && inI (xs.getD 1 0) 0 23)
/-- two directions in a slice -/
theorem stOk_t {w : World} {B : Nat} {A : Option Addr} {xs : List Int} (hs : stOk xs = true) (h : SV (.int .i64) w B A xs) : ∃ (a b p o : Nat), a ≤ 23 ∧ b ≤ 23 ∧ xs = [(a : Int), (b : Int)] ∧ A = some ⟨p, o, none⟩ ∧ p < B ∧ w.cell? ⟨p, o, none⟩ = some (.int .i64 a) ∧ w.cell? ⟨p, o + 1, none⟩ = some (.int .i64 b) := by
  unfold stOk at hs
  simp only [Bool.and_eq_true, decide_eq_true_eq] at hs
  obtain ⟨hl, h0, h1⟩ := hs
  match xs, hl with
  | [x, y], _ =>
    have h0 := inI_t h0
    have h1 := inI_t h1
    simp at h0 h1
    obtain ⟨p, o, e, hB, hc⟩ := h (by simp)
    refine ⟨x.toNat, y.toNat, p, o, by omega, by omega, by rw [Int.toNat_of_nonneg h0.1, Int.toNat_of_nonneg h1.1], e, hB, ?_, ?_⟩
    · rw [Int.toNat_of_nonneg h0.1]; exact hc 0 x rfl
    · rw [Int.toNat_of_nonneg h1.1]; exact hc 1 y rfl
def cellI (T : List (List Int)) (i c : Nat) : Int := (T.getD i []).getD c 0
def tnI (T : List (List Int)) (i c : Nat) : Int := turnI (cellI T (i - 1) c) (cellI T i c)
def rmStep (T : List (List Int)) (i : Nat) : Bool := inI (tnI T i 0) (-1) 1 && inI (tnI T i 1) (-1) 1
/-- what is wrong with row i -/
def rmF (T : List (List Int)) (i : Nat) : Int := if stOk (T.getD i []) = false then 1 else if i = 0 then 0 else if rmStep T i = true then 0 else 6
def rmC (T : List (List Int)) : Int := if inI T.length 1 201 = false then 2 else match (List.range T.length).find? (fun i => rmF T i != 0) with | none => 0 | some i => rmF T i
def rmXk (T : List (List Int)) (c k : Nat) : List Int := (List.range (k - 1)).map fun i => tnI T (i + 1) c
def rmS (T : List (List Int)) (c : Nat) : Int := if rmC T = 0 then cellI T 0 c else 0
def rmX (T : List (List Int)) (c : Nat) : List Int := if rmC T = 0 then rmXk T c T.length else []
theorem rmXk_len (T : List (List Int)) (c k : Nat) : (rmXk T c k).length = k - 1 := by simp [rmXk]
theorem rmXk_zero (T : List (List Int)) (c : Nat) : rmXk T c 0 = [] := rfl
theorem rmXk_one (T : List (List Int)) (c : Nat) : rmXk T c 1 = [] := rfl
theorem rmXk_succ (T : List (List Int)) (c : Nat) {k : Nat} (h : 1 ≤ k) : rmXk T c (k + 1) = rmXk T c k ++ [tnI T k c] := by
  obtain ⟨p, rfl⟩ : ∃ p, k = p + 1 := ⟨k - 1, by omega⟩
  simp [rmXk, List.range_succ]
theorem rm_of {T : List (List Int)} {k : Int} (h : rmC T = k) (hk : ¬ k = 0) : (∀ c, rmS T c = 0) ∧ ∀ c, rmX T c = [] := by
  exact ⟨fun c => by unfold rmS; rw [h, if_neg hk], fun c => by unfold rmX; rw [h, if_neg hk]⟩
theorem rm_len {T : List (List Int)} (h : inI T.length 1 201 = false) : rmC T = 2 := by unfold rmC; rw [if_pos h]
theorem rm_hit {T : List (List Int)} (hl : inI T.length 1 201 = true) {i : Nat} (hi : i < T.length) (hb : ∀ j, j < i → rmF T j = 0) {k : Int} (hf : rmF T i = k) (hk : ¬ k = 0) : rmC T = k := by
  have h : (List.range T.length).find? (fun i => rmF T i != 0) = some i := by
    rw [List.find?_range_eq_some]
    refine ⟨by rw [bne_iff_ne, hf]; exact hk, List.mem_range.2 hi, fun j hj => by rw [hb j hj]; rfl⟩
  unfold rmC; rw [if_neg (by rw [hl]; decide), h]; exact hf
theorem rm_none {T : List (List Int)} (hl : inI T.length 1 201 = true) (hb : ∀ j, j < T.length → rmF T j = 0) : rmC T = 0 := by
  have h : (List.range T.length).find? (fun i => rmF T i != 0) = none := by
    rw [List.find?_range_eq_none]
    intro j hj; rw [hb j hj]; rfl
  unfold rmC; rw [if_neg (by rw [hl]; decide), h]
theorem rm_good {T : List (List Int)} (h : rmC T = 0) : (∀ c, rmS T c = cellI T 0 c) ∧ ∀ c, rmX T c = rmXk T c T.length := by
  exact ⟨fun c => by unfold rmS; rw [if_pos h], fun c => by unfold rmX; rw [if_pos h]⟩
theorem rmX_len (T : List (List Int)) (c : Nat) : (rmX T c).length ≤ 1048576 := by
  unfold rmX
  by_cases h : rmC T = 0
  · rw [if_pos h, rmXk_len]
    unfold rmC at h
    split at h
    · cases h
    · rename_i h1
      have h2 : inI T.length 1 201 = true := by simpa using h1
      have := inI_t h2; omega
  · rw [if_neg h]; simp
theorem rmF_bad {T : List (List Int)} {i : Nat} {xs : List Int} (hx : T[i]? = some xs) (h : stOk xs = false) : rmF T i = 1 := by
  unfold rmF; rw [show T.getD i [] = xs by simp [List.getD_eq_getElem?_getD, hx], if_pos h]
theorem rmF_first {T : List (List Int)} {xs : List Int} (hx : T[0]? = some xs) (h : stOk xs = true) : rmF T 0 = 0 := by
  unfold rmF; rw [show T.getD 0 [] = xs by simp [List.getD_eq_getElem?_getD, hx], if_neg (by rw [h]; decide), if_pos rfl]
theorem rmF_step {T : List (List Int)} {i : Nat} {xs : List Int} (hx : T[i]? = some xs) (h : stOk xs = true) (hi : 1 ≤ i) {r : Bool} (hr : rmStep T i = r) : rmF T i = if r = true then 0 else 6 := by
  unfold rmF; rw [show T.getD i [] = xs by simp [List.getD_eq_getElem?_getD, hx], if_neg (by rw [h]; decide), if_neg (by omega), hr]
theorem rmF_st {T : List (List Int)} {i : Nat} {xs : List Int} (hx : T[i]? = some xs) (h : rmF T i = 0) : stOk xs = true := by
  unfold rmF at h; rw [show T.getD i [] = xs by simp [List.getD_eq_getElem?_getD, hx]] at h
  by_cases h1 : stOk xs = false
  · rw [if_pos h1] at h; cases h
  · simpa using h1
/-- row i of a table: two directions -/
theorem srow {w : World} {B : Nat} {A : Option Addr} {T : List (List Int)} (h : TB (.int .i64) w B A T) {i : Nat} {xs : List Int} (hx : T[i]? = some xs) (hs : stOk xs = true) :
    ∃ (a b p o q u c : Nat), a ≤ 23 ∧ b ≤ 23 ∧ cellI T i 0 = (a : Int) ∧ cellI T i 1 = (b : Int) ∧ xs.length = 2 ∧ A = some ⟨p, o, none⟩ ∧ p < B ∧ q < B ∧ w.cell? ⟨p, o + i, none⟩ = some (.slice (some ⟨q, u, none⟩) 2 c) ∧ w.cell? ⟨q, u, none⟩ = some (.int .i64 a) ∧ w.cell? ⟨q, u + 1, none⟩ = some (.int .i64 b) := by
  obtain ⟨p, o, A', c, rfl, hB, hc, hsv⟩ := h.row hx
  obtain ⟨a, b, q, u, ha, hb, e, rfl, hq, h1, h2⟩ := stOk_t hs hsv
  subst e
  refine ⟨a, b, p, o, q, u, c, ha, hb, ?_, ?_, rfl, rfl, hB, hq, hc, h1, h2⟩
  · unfold cellI; rw [show T.getD i [] = [(a : Int), (b : Int)] by simp [List.getD_eq_getElem?_getD, hx]]; rfl
  · unfold cellI; rw [show T.getD i [] = [(a : Int), (b : Int)] by simp [List.getD_eq_getElem?_getD, hx]]; rfl
theorem RS.rowne {α : Type} {f : α → Value} {e : TypeId} {w : World} {lo hi c k : Nat} {A : Option Addr} {xs : List α} (h : RS f e w lo hi A c xs) (hk : k < lo) : A.map (·.block) ≠ some k := by
  rcases h with ⟨rfl, _⟩ | ⟨g, cur, rfl, h1, _⟩
  · simp
  · simp; omega
theorem RS.pin {α : Type} {f : α → Value} {e : TypeId} {w : World} {lo hi g c : Nat} {xs : List α} (h : RS f e w lo hi (some ⟨g, 0, none⟩) c xs) : RS f e w g (g + 1) (some ⟨g, 0, none⟩) c xs := by
  rcases h with ⟨h0, _⟩ | ⟨g', cur, h0, h1, h2, h3⟩
  · cases h0
  · simp only [Option.some.injEq, Addr.mk.injEq, and_true] at h0
    subst h0; exact .inr ⟨g, cur, rfl, Nat.le_refl _, Nat.lt_succ_self _, h3⟩
theorem RS.where_ {α : Type} {f : α → Value} {e : TypeId} {w : World} {lo hi c : Nat} {A : Option Addr} {xs : List α} (h : RS f e w lo hi A c xs) : A = none ∨ ∃ g, A = some ⟨g, 0, none⟩ ∧ lo ≤ g ∧ g < hi ∧ g < w.heap.size := by
  rcases h with ⟨h0, _⟩ | ⟨g, cur, h0, h1, h2, h3, _⟩
  · exact .inl h0
  · exact .inr ⟨g, h0, h1, h2, lt_of_block h3⟩
/-- two lists that grow in memory of their own, each in a struct's second cell; two boxes for the results; and what lay before is as it was -/
structure Two (w0 : World) (L R0 R1 m1 m2 : Nat) (ti tm : TypeId) (w : World) (s1 : Int) (A1 : Option Addr) (n1 q1 : Nat) (xs : List Int) (s2 : Int) (A2 : Option Addr) (n2 q2 : Nat) (ys : List Int) : Prop where
  ll : L ≤ w.heap.size
  l0 : w0.heap.size ≤ R0
  l1 : w0.heap.size ≤ R1
  lr0 : R0 < L
  lr1 : R1 < L
  lm1 : L ≤ m1
  lm2 : L ≤ m2
  mm : m1 ≠ m2
  len1 : xs.length = n1
  len2 : ys.length = n2
  r1 : RS (.int .i64) ti w L w.heap.size A1 q1 xs
  r2 : RS (.int .i64) ti w L w.heap.size A2 q2 ys
  o1 : ∀ g, A1 = some ⟨g, 0, none⟩ → g ≠ m1 ∧ g ≠ m2
  o2 : ∀ g, A2 = some ⟨g, 0, none⟩ → g ≠ m1 ∧ g ≠ m2
  oo : ∀ g h, A1 = some ⟨g, 0, none⟩ → A2 = some ⟨h, 0, none⟩ → g ≠ h
  b1 : Box2 w m1 tm (.int .i64 s1) (.slice A1 n1 q1)
  b2 : Box2 w m2 tm (.int .i64 s2) (.slice A2 n2 q2)
  z0 : Box2 w R0 tm (.int .i64 0) (.slice none 0 0)
  z1 : Box2 w R1 tm (.int .i64 0) (.slice none 0 0)
  bw : Below w0.heap.size w0 w
section
variable {w0 w : World} {L R0 R1 m1 m2 : Nat} {ti tm : TypeId} {s1 : Int} {A1 : Option Addr} {n1 q1 : Nat} {xs : List Int} {s2 : Int} {A2 : Option Addr} {n2 q2 : Nat} {ys : List Int}
theorem Two.swap (h : Two w0 L R0 R1 m1 m2 ti tm w s1 A1 n1 q1 xs s2 A2 n2 q2 ys) : Two w0 L R0 R1 m2 m1 ti tm w s2 A2 n2 q2 ys s1 A1 n1 q1 xs :=
  { ll := h.ll, l0 := h.l0, l1 := h.l1, lr0 := h.lr0, lr1 := h.lr1, lm1 := h.lm2, lm2 := h.lm1, mm := h.mm.symm, len1 := h.len2, len2 := h.len1, r1 := h.r2, r2 := h.r1, o1 := fun g e => (h.o2 g e).symm, o2 := fun g e => (h.o1 g e).symm, oo := fun g k e e2 => (h.oo k g e2 e).symm, b1 := h.b2, b2 := h.b1, z0 := h.z0, z1 := h.z1, bw := h.bw }
theorem Two.late {w' : World} (h : Two w0 L R0 R1 m1 m2 ti tm w s1 A1 n1 q1 xs s2 A2 n2 q2 ys) (hb : Below w.heap.size w w') : Two w0 L R0 R1 m1 m2 ti tm w' s1 A1 n1 q1 xs s2 A2 n2 q2 ys :=
  { h with ll := Nat.le_trans h.ll hb.size, r1 := (h.r1.late hb).top, r2 := (h.r2.late hb).top, b1 := h.b1.late hb, b2 := h.b2.late hb, z0 := h.z0.late hb, z1 := h.z1.late hb, bw := gr_then hb h.bw }
/-- the starts are told -/
theorem Two.start (h : Two w0 L R0 R1 m1 m2 ti tm w s1 A1 n1 q1 xs s2 A2 n2 q2 ys) (a b : Int) : Two w0 L R0 R1 m1 m2 ti tm ((w.setCell ⟨m1, 0, none⟩ (.int .i64 a)).setCell ⟨m2, 0, none⟩ (.int .i64 b)) a A1 n1 q1 xs b A2 n2 q2 ys := by
  have hs : ((w.setCell ⟨m1, 0, none⟩ (.int .i64 a)).setCell ⟨m2, 0, none⟩ (.int .i64 b)).heap.size = w.heap.size := by simp [World.setCell]
  have x1 := h.lr0; have x2 := h.lr1; have x3 := h.lm1; have x4 := h.lm2; have x5 := h.mm; have x6 := h.l0; have x7 := h.l1
  exact { h with ll := (by rw [hs]; exact h.ll), r1 := (by rw [hs]; exact (h.r1.far (p := ⟨m1, 0, none⟩) (fun g e => (h.o1 g e).1) _).far (p := ⟨m2, 0, none⟩) (fun g e => (h.o1 g e).2) _), r2 := (by rw [hs]; exact (h.r2.far (p := ⟨m1, 0, none⟩) (fun g e => (h.o2 g e).1) _).far (p := ⟨m2, 0, none⟩) (fun g e => (h.o2 g e).2) _), b1 := (h.b1.put0 _).far (p := ⟨m2, 0, none⟩) h.mm _, b2 := (h.b2.far (p := ⟨m1, 0, none⟩) h.mm.symm _).put0 _, z0 := (h.z0.far (p := ⟨m1, 0, none⟩) (by simp only; omega) _).far (p := ⟨m2, 0, none⟩) (by simp only; omega) _, z1 := (h.z1.far (p := ⟨m1, 0, none⟩) (by simp only; omega) _).far (p := ⟨m2, 0, none⟩) (by simp only; omega) _, bw := (h.bw.setCell (p := ⟨m1, 0, none⟩) (by simp only; omega) _).setCell (p := ⟨m2, 0, none⟩) (by simp only; omega) _ }
/-- the first list has grown by one (behind an append and the store of what it gave) -/
theorem Two.app {w' : World} {o : Obj} {B : Option Addr} {c : Nat} {x : Int} (h : Two w0 L R0 R1 m1 m2 ti tm w s1 A1 n1 q1 xs s2 A2 n2 q2 ys) (hr : RS (.int .i64) ti w' L w'.heap.size B c (xs ++ [x]))
    (hg : (w.alloc o).grownBy w' (A1.map (·.block))) (hB : B = A1 ∨ B = some ⟨(w.alloc o).heap.size, 0, none⟩) :
    (w'.cell? ⟨m1, 1, none⟩ = some (.slice A1 n1 q1) ∧ w'.frozen? ⟨m1, 1, none⟩ = false ∧ w'.cell? ⟨m2, 1, none⟩ = some (.slice A2 n2 q2)) ∧ Two w0 L R0 R1 m1 m2 ti tm (w'.setCell ⟨m1, 1, none⟩ (.slice B (n1 + 1) c)) s1 B (n1 + 1) c (xs ++ [x]) s2 A2 n2 q2 ys := by
  have x1 := h.lr0; have x2 := h.lr1; have x3 := h.lm1; have x4 := h.lm2; have x5 := h.mm; have x6 := h.l0; have x7 := h.l1; have x8 := h.ll
  have ha : Below w.heap.size w (w.alloc o) := gr_alloc (gr_refl w)
  have hrow : ∀ k, A1.map (·.block) = some k → A1 = some ⟨k, 0, none⟩ := by
    intro k hk
    rcases h.r1.where_ with rfl | ⟨g, rfl, _⟩
    · cases hk
    · simp at hk; subst hk; rfl
  have hb1 : Box2 w' m1 tm (.int .i64 s1) (.slice A1 n1 q1) := (h.b1.late ha).grown hg (fun e => (h.o1 _ (hrow _ e)).1 rfl)
  have hb2 : Box2 w' m2 tm (.int .i64 s2) (.slice A2 n2 q2) := (h.b2.late ha).grown hg (fun e => (h.o1 _ (hrow _ e)).2 rfl)
  have hz0 : Box2 w' R0 tm (.int .i64 0) (.slice none 0 0) := (h.z0.late ha).grown hg (h.r1.rowne h.lr0)
  have hz1 : Box2 w' R1 tm (.int .i64 0) (.slice none 0 0) := (h.z1.late ha).grown hg (h.r1.rowne h.lr1)
  have hr2 : RS (.int .i64) ti w' L w.heap.size A2 q2 ys := (h.r2.late ha).moved hg fun g hg' e => h.oo g g (hrow _ e) hg' rfl
  have hsz : w.heap.size + 1 ≤ w'.heap.size := by have := hg.size; simpa using this
  have hm1 := h.b1.lt
  have hm2 := h.b2.lt
  have hnew : ∀ g, B = some ⟨g, 0, none⟩ → A1 = some ⟨g, 0, none⟩ ∨ g = w.heap.size + 1 := by
    intro g e
    rcases hB with e2 | e2
    · exact .inl (e2 ▸ e)
    · rw [e] at e2; simp only [Option.some.injEq, Addr.mk.injEq, and_true, World.size_alloc] at e2; exact .inr e2
  have hs : (w'.setCell ⟨m1, 1, none⟩ (.slice B (n1 + 1) c)).heap.size = w'.heap.size := by simp [World.setCell]
  have ho1 : ∀ g, B = some ⟨g, 0, none⟩ → g ≠ m1 ∧ g ≠ m2 := by
    intro g e
    rcases hnew g e with e2 | e2
    · exact h.o1 g e2
    · omega
  have hlow : Below w0.heap.size w w' := (ha.mono h.bw.size).grown hg (Nat.le_trans h.bw.size ha.size) fun k e => by
    rcases Nat.lt_or_ge k L with h1 | h1
    · exact absurd e (h.r1.rowne h1)
    · omega
  refine ⟨⟨hb1.c1, hb1.f0 1, hb2.c1⟩, { h with ll := (by omega), len1 := (by rw [List.length_append, h.len1]; rfl), r1 := ?_, r2 := ?_, o1 := ho1, oo := ?_, b1 := hb1.put1 _, b2 := hb2.far (p := ⟨m1, 1, none⟩) h.mm.symm _, z0 := hz0.far (p := ⟨m1, 1, none⟩) (by simp only; omega) _, z1 := hz1.far (p := ⟨m1, 1, none⟩) (by simp only; omega) _, bw := ?_ }⟩
  · rw [hs]; exact hr.far (p := ⟨m1, 1, none⟩) (fun g e => (ho1 g e).1) _
  · rw [hs]; exact (hr2.far (p := ⟨m1, 1, none⟩) (fun g e => (h.o2 g e).1) _).wide (Nat.le_refl _) (by omega)
  · intro g k e e2
    rcases hnew g e with e3 | e3
    · exact h.oo g k e3 e2
    · rcases h.r2.where_ with e4 | ⟨k2, e4, _, e5, _⟩
      · rw [e4] at e2; cases e2
      · rw [e4] at e2; simp only [Option.some.injEq, Addr.mk.injEq, and_true] at e2; omega
  · exact h.bw.trans (hlow.setCell (p := ⟨m1, 1, none⟩) (by simp only; omega) _)
end
theorem RS.split2 {α : Type} {f : α → Value} {e : TypeId} {w : World} {L hi c d r0 r1 : Nat} {A B : Option Addr} {xs ys : List α} (h1 : RS f e w L hi A c xs) (h2 : RS f e w L hi B d ys) (hn : ∀ g k, A = some ⟨g, 0, none⟩ → B = some ⟨k, 0, none⟩ → g ≠ k) (hr0 : r0 < L) (hr1 : r1 < L) (hne : r0 ≠ r1) :
    ∃ p q, RS f e w p (p + 1) A c xs ∧ RS f e w q (q + 1) B d ys ∧ p ≠ q ∧ (p = r0 ∨ L ≤ p ∧ p < hi) ∧ (q = r1 ∨ L ≤ q ∧ q < hi) := by
  rcases h1.where_ with rfl | ⟨g, rfl, g1, g2, _⟩ <;> rcases h2.where_ with rfl | ⟨k, rfl, k1, k2, _⟩
  · obtain ⟨rfl, rfl⟩ := h1.cap; obtain ⟨rfl, rfl⟩ := h2.cap
    exact ⟨r0, r1, RS.nil, RS.nil, hne, .inl rfl, .inl rfl⟩
  · obtain ⟨rfl, rfl⟩ := h1.cap
    exact ⟨r0, k, RS.nil, h2.pin, by omega, .inl rfl, .inr ⟨k1, k2⟩⟩
  · obtain ⟨rfl, rfl⟩ := h2.cap
    exact ⟨g, r1, h1.pin, RS.nil, by omega, .inr ⟨g1, g2⟩, .inl rfl⟩
  · exact ⟨g, k, h1.pin, h2.pin, hn g k rfl rfl, .inr ⟨g1, g2⟩, .inr ⟨k1, k2⟩⟩
theorem Two.ret {w0 w : World} {L R0 R1 m1 m2 : Nat} {ti tm : TypeId} {s1 : Int} {A1 : Option Addr} {n1 q1 : Nat} {xs : List Int} {s2 : Int} {A2 : Option Addr} {n2 q2 : Nat} {ys : List Int} (h : Two w0 L R0 R1 m1 m2 ti tm w s1 A1 n1 q1 xs s2 A2 n2 q2 ys) (hR : R0 ≠ R1) (y0 y1 y2 y3 : Value) :
    ∃ p q, RS (.int .i64) ti ((((w.setCell ⟨R0, 0, none⟩ y0).setCell ⟨R0, 1, none⟩ y1).setCell ⟨R1, 0, none⟩ y2).setCell ⟨R1, 1, none⟩ y3) p (p + 1) A1 q1 xs ∧ RS (.int .i64) ti ((((w.setCell ⟨R0, 0, none⟩ y0).setCell ⟨R0, 1, none⟩ y1).setCell ⟨R1, 0, none⟩ y2).setCell ⟨R1, 1, none⟩ y3) q (q + 1) A2 q2 ys ∧ p ≠ q ∧
      (w0.heap.size ≤ p ∧ p < ((((w.setCell ⟨R0, 0, none⟩ y0).setCell ⟨R0, 1, none⟩ y1).setCell ⟨R1, 0, none⟩ y2).setCell ⟨R1, 1, none⟩ y3).heap.size) ∧ (w0.heap.size ≤ q ∧ q < ((((w.setCell ⟨R0, 0, none⟩ y0).setCell ⟨R0, 1, none⟩ y1).setCell ⟨R1, 0, none⟩ y2).setCell ⟨R1, 1, none⟩ y3).heap.size) ∧
      Below w0.heap.size w0 ((((w.setCell ⟨R0, 0, none⟩ y0).setCell ⟨R0, 1, none⟩ y1).setCell ⟨R1, 0, none⟩ y2).setCell ⟨R1, 1, none⟩ y3) := by
  have hs : ((((w.setCell ⟨R0, 0, none⟩ y0).setCell ⟨R0, 1, none⟩ y1).setCell ⟨R1, 0, none⟩ y2).setCell ⟨R1, 1, none⟩ y3).heap.size = w.heap.size := by simp [World.setCell]
  have x1 := h.lr0; have x2 := h.lr1; have x6 := h.l0; have x7 := h.l1; have x8 := h.ll; have x9 := h.bw.size
  have f1 := (((h.r1.far (p := ⟨R0, 0, none⟩) (fun g e => by subst e; have := h.r1.ge; simp only; omega) y0).far (p := ⟨R0, 1, none⟩) (fun g e => by subst e; have := h.r1.ge; simp only; omega) y1).far (p := ⟨R1, 0, none⟩) (fun g e => by subst e; have := h.r1.ge; simp only; omega) y2).far (p := ⟨R1, 1, none⟩) (fun g e => by subst e; have := h.r1.ge; simp only; omega) y3
  have f2 := (((h.r2.far (p := ⟨R0, 0, none⟩) (fun g e => by subst e; have := h.r2.ge; simp only; omega) y0).far (p := ⟨R0, 1, none⟩) (fun g e => by subst e; have := h.r2.ge; simp only; omega) y1).far (p := ⟨R1, 0, none⟩) (fun g e => by subst e; have := h.r2.ge; simp only; omega) y2).far (p := ⟨R1, 1, none⟩) (fun g e => by subst e; have := h.r2.ge; simp only; omega) y3
  obtain ⟨p, q, h1, h2, h3, h4, h5⟩ := RS.split2 f1 f2 h.oo h.lr0 h.lr1 hR
  refine ⟨p, q, h1, h2, h3, ⟨by omega, by omega⟩, ⟨by omega, by omega⟩, ?_⟩
  exact (((h.bw.setCell (p := ⟨R0, 0, none⟩) x6 _).setCell (p := ⟨R0, 1, none⟩) x6 _).setCell (p := ⟨R1, 0, none⟩) x7 _).setCell (p := ⟨R1, 1, none⟩) x7 _
theorem SV.new_at {α : Type} {f : α → Value} {y : α} {t b : Nat} {w : World} (h : w.heap.size = b) : SV f (w.alloc (.cells #[f y] t)) (b + 1) (some ⟨b, 0, none⟩) [y] := by subst h; exact SV.of_new w
theorem cell_of {T : List (List Int)} {k : Nat} {x y : Int} (hx : T[k]? = some [x, y]) : cellI T k 0 = x ∧ cellI T k 1 = y := by
  unfold cellI
  rw [show T.getD k [] = [x, y] by simp [List.getD_eq_getElem?_getD, hx]]
  exact ⟨rfl, rfl⟩
/-- two motions of new memory were handed back, and a code -/
def RetM2 (s1 : Int) (xs : List Int) (s2 : Int) (ys : List Int) (k : Int) (e : TypeId) (w : World) (E : Ending) (w' : World) : Prop :=
  ∃ A c B d p q, E = .returned (.tuple #[.agg #[.int .i64 s1, .slice A xs.length c], .agg #[.int .i64 s2, .slice B ys.length d], .int .i64 k]) ∧ RS (.int .i64) e w' p (p + 1) A c xs ∧ RS (.int .i64) e w' q (q + 1) B d ys ∧ p ≠ q ∧ (w.heap.size ≤ p ∧ p < w'.heap.size) ∧ (w.heap.size ≤ q ∧ q < w'.heap.size) ∧ Below w.heap.size w w'
end Go.Proofs.Ytoojnfdphjdocaa
