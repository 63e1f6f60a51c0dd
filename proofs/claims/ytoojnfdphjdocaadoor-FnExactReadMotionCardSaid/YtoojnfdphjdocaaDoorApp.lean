/- append on a row of one's own, said by what the slices read as; a struct of two cells in a box. -/
import Derived.Test.YtoojnfdphjdocaaDoorOwn
import Derived.Maps.AppendAt
import Derived.Laws.AppendOwnNone
namespace Go.Proofs.YtoojnfdphjdocaaDoor
open Go.RowKit Go.Deep
section
variable {α : Type} {f : α → Value} {e : TypeId} {w w' : World} {lo hi B : Nat} {A : Option Addr} {c : Nat} {xs : List α}
theorem RS.top (h : RS f e w lo hi A c xs) : RS f e w lo w.heap.size A c xs := by
  rcases h with h | ⟨g, cur, h0, h1, _, h3, h4⟩
  · exact .inl h
  · exact .inr ⟨g, cur, h0, h1, lt_of_block h3, h3, h4⟩
theorem RS.isAt (h : RS f e w lo hi A c xs) (hp : 0 < xs.length) : ∃ g, A = some ⟨g, 0, none⟩ ∧ lo ≤ g ∧ g < hi ∧ g < w.heap.size := by
  obtain ⟨x, hx⟩ := at_of_lt hp
  obtain ⟨g, h0, h1, h2, h3, _⟩ := h.cellAt hx
  exact ⟨g, h0, h1, h2, h3⟩
theorem RS.ge {g : Nat} (h : RS f e w lo hi (some ⟨g, 0, none⟩) c xs) : lo ≤ g := by
  rcases h with ⟨h0, _⟩ | ⟨g', cur, h0, h1, _⟩
  · cases h0
  · simp only [Option.some.injEq, Addr.mk.injEq, and_true] at h0
    omega
theorem RS.ge' {g : Nat} (h : RS f e w lo hi A c xs) (hA : A = some ⟨g, 0, none⟩) : lo ≤ g := by
  subst hA; exact h.ge
theorem RS.lit0 (w : World) : RS f e (w.alloc (.cells #[] e)) w.heap.size (w.heap.size + 1) (some ⟨w.heap.size, 0, none⟩) 0 ([] : List α) :=
  .inr ⟨w.heap.size, #[], rfl, Nat.le_refl _, Nat.lt_succ_self _, heap_alloc_new w _, Nat.le_refl _, Nat.zero_le _, rfl, rfl⟩
theorem RS.cap (h : RS f e w lo hi none c xs) : c = 0 ∧ xs = [] := by
  rcases h with ⟨_, h1, h2⟩ | ⟨g, cur, h0, _⟩
  · exact ⟨h1, h2⟩
  · cases h0
theorem SV.of_new {y : α} {t : Nat} (w : World) : SV f (w.alloc (.cells #[f y] t)) (w.heap.size + 1) (some ⟨w.heap.size, 0, none⟩) [y] := fun _ =>
  ⟨w.heap.size, 0, rfl, Nat.lt_succ_self _, fun j x hj => by
    have h0 : j = 0 := by
      rcases Nat.lt_or_ge j 1 with h1 | h1
      · omega
      · rw [List.getElem?_eq_none (by simpa using h1)] at hj; cases hj
    subst h0
    simp only [List.getElem?_cons_zero, Option.some.injEq] at hj
    subst hj
    simp [go_sem]⟩
theorem run_app {P : Program} (w : World) (t ty : TypeId)
    (lo : Nat) (e : TypeId) (i : TypeInfo) (z : Value) (bytes : Nat) (ht : P.underlying t = some (.slice e)) (hi : P.info? e = some i) (hz : i.zero = some z)
    (hsize : i.size = 1) (hby : i.bytes = bytes) (hzs : z.cells.size = 1) (f : α → Value) (h1 : ∀ y, (f y).oneCell' = true)
    (A : Option Addr) (n c : Nat) (xs : List α) (hi' : Nat) (hn : xs.length = n) (hr : RS f e w lo hi' A c xs)
    (A' : Option Addr) (m c' : Nat) (ys : List α) (B' : Nat) (hm : ys.length = m) (hsv : SV f w B' A' ys) (hA : A' = none → c' = 0)
    (h63 : n + m ≤ maxLen) (hbytes : (n + m) * bytes ≤ 140737488355328) (hbase : lo ≤ w.heap.size) :
    ∃ A2 c2 w', (Builtin.append_ #[t, t] ty #[.slice A n c, .slice A' m c']).run P w = .ok (.slice A2 (n + m) c2) w' ∧ RS f e w' lo w'.heap.size A2 c2 (xs ++ ys) ∧ w.grownBy w' (A.map (·.block)) ∧ (A2 = A ∨ A2 = some ⟨w.heap.size, 0, none⟩) := by
  subst hn; subst hm
  have hown := hr.own
  cases A' with
  | none =>
    obtain rfl : c' = 0 := hA rfl
    have hy : ys = [] := by
      rcases Nat.eq_zero_or_pos ys.length with h0 | h0
      · exact List.length_eq_zero_iff.1 h0
      · obtain ⟨b, off, h2, _⟩ := hsv h0
        cases h2
    subst hy
    exact ⟨A, c, w, run_append_owned_none w lo t ty e i 1 ht hi (.slice A xs.length c) xs.length (xs.map f) hown, by rw [List.append_nil]; exact hr.top, ⟨rfl, rfl, rfl, Nat.le_refl _, fun _ _ _ => rfl⟩, .inl rfl⟩
  | some ad =>
    have hl : ∀ j u, (ys.map f)[j]? = some u → w.cell? (ad.add j) = some u := by
      intro j u hj
      rw [List.getElem?_map] at hj
      cases hyj : ys[j]? with
      | none => rw [hyj] at hj; cases hj
      | some y =>
        rw [hyj] at hj
        simp only [Option.map_some, Option.some.injEq] at hj
        subst hj
        obtain ⟨b, off, h2, _, h3⟩ := hsv (Nat.lt_of_le_of_lt (Nat.zero_le _) (lt_of_at hyj))
        simp only [Option.some.injEq] at h2
        subst h2
        have hadd : (⟨b, off, none⟩ : Addr).add j = ⟨b, off + j, none⟩ := by unfold Addr.add; by_cases hj : j = 0 <;> simp [hj]
        rw [hadd]; exact h3 j y hyj
    have hc1 : ∀ u ∈ ys.map f, u.oneCell' = true := by
      intro u hu
      obtain ⟨y, _, rfl⟩ := List.mem_map.1 hu
      exact h1 y
    obtain ⟨v', w', hrun, hown', hgr, _, hblk⟩ := run_append_own_at (P := P) w lo t ty e i z 1 bytes ht hi hz hsize hby hzs (by omega) (.slice A xs.length c) xs.length (xs.map f) hown ad ys.length c' (ys.map f) (by simp) hl hc1 h63 hbytes hbase
    have hob : (Value.slice A xs.length c).ownBlock = A.map (·.block) := by cases A <;> rfl
    rw [hob] at hgr hblk
    rw [← List.map_append] at hown'
    have hform : ∃ A2 c2, v' = .slice A2 (xs.length + ys.length) c2 ∧ (A2 = none ∨ ∃ g, A2 = some ⟨g, 0, none⟩) := by
      rcases hown'.2 with ⟨h2, h3⟩ | ⟨g, cap, _, h2, _⟩
      · exact ⟨none, 0, by rw [h2, h3], .inl rfl⟩
      · exact ⟨_, cap, h2, .inr ⟨g, rfl⟩⟩
    obtain ⟨A2, c2, rfl, hA2⟩ := hform
    refine ⟨A2, c2, w', hrun, RS.of_own hown' (Nat.le_refl _), hgr, ?_⟩
    have hAf : A = none ∨ ∃ g, A = some ⟨g, 0, none⟩ := by
      rcases hr with ⟨h2, _⟩ | ⟨g, _, h2, _⟩
      · exact .inl h2
      · exact .inr ⟨g, h2⟩
    rcases hA2 with rfl | ⟨g2, rfl⟩ <;> rcases hAf with rfl | ⟨g, rfl⟩ <;> simp [Value.ownBlock] at hblk ⊢ <;> assumption
theorem wp_app {P : Program} {o : Oper} {a : Act} {K : Act → World → Prop} {Q : Exit → Act → World → Prop} (s x : Operand) (t : TypeId)
    (ho : o.op = .call { callee := .builtin .append, args := #[s, x], argTypes := #[t, t] })
    (lo : Nat) (e : TypeId) (i : TypeInfo) (z : Value) (bytes : Nat) (ht : P.underlying t = some (.slice e)) (hi : P.info? e = some i) (hz : i.zero = some z)
    (hsize : i.size = 1) (hby : i.bytes = bytes) (hzs : z.cells.size = 1) (f : α → Value) (h1 : ∀ y, (f y).oneCell' = true)
    (A : Option Addr) (n c : Nat) (xs : List α) (hi' : Nat) (hs : a.eval s = .slice A n c) (hn : xs.length = n) (hr : RS f e w lo hi' A c xs)
    (A' : Option Addr) (m c' : Nat) (ys : List α) (B' : Nat) (hx : a.eval x = .slice A' m c') (hm : ys.length = m) (hsv : SV f w B' A' ys) (hA : A' = none → c' = 0)
    (h63 : n + m ≤ maxLen) (hbytes : (n + m) * bytes ≤ 140737488355328) (hbase : lo ≤ w.heap.size)
    (h : ∀ A2 c2 w', RS f e w' lo w'.heap.size A2 c2 (xs ++ ys) → w.grownBy w' (A.map (·.block)) → (A2 = A ∨ A2 = some ⟨w.heap.size, 0, none⟩) → K (a.put o.dst (.slice A2 (n + m) c2)) w') : o.wp P a w K Q := by
  obtain ⟨A2, c2, w', hrun, h2, h3, h4⟩ := run_app (P := P) w t o.type lo e i z bytes ht hi hz hsize hby hzs f h1 A n c xs hi' hn hr A' m c' ys B' hm hsv hA h63 hbytes hbase
  unfold Oper.wp execOp
  simp only [ho, resolve, invoke, builtin, Sem.run_bind, Sem.run_pure, Result.andThen_ok, List.map_toArray, List.map_cons, List.map_nil, hs, hx, hrun]
  exact h A2 c2 w' h2 h3 h4
theorem wpList_app {P : Program} {ops : Array Oper} {rest : List Oper} {o : Oper} {a : Act} {Q : Exit → Act → World → Prop} (hgd : o.guard = none) (s x : Operand) (t : TypeId)
    (ho : o.op = .call { callee := .builtin .append, args := #[s, x], argTypes := #[t, t] })
    (lo : Nat) (e : TypeId) (i : TypeInfo) (z : Value) (bytes : Nat) (ht : P.underlying t = some (.slice e)) (hi : P.info? e = some i) (hz : i.zero = some z)
    (hsize : i.size = 1) (hby : i.bytes = bytes) (hzs : z.cells.size = 1) (f : α → Value) (h1 : ∀ y, (f y).oneCell' = true)
    (A : Option Addr) (n c : Nat) (xs : List α) (hi' : Nat) (hs : a.eval s = .slice A n c) (hn : xs.length = n) (hr : RS f e w lo hi' A c xs)
    (A' : Option Addr) (m c' : Nat) (ys : List α) (B' : Nat) (hx : a.eval x = .slice A' m c') (hm : ys.length = m) (hsv : SV f w B' A' ys) (hA : A' = none → c' = 0)
    (h63 : n + m ≤ maxLen) (hbytes : (n + m) * bytes ≤ 140737488355328) (hbase : lo ≤ w.heap.size)
    (h : ∀ A2 c2 w', RS f e w' lo w'.heap.size A2 c2 (xs ++ ys) → w.grownBy w' (A.map (·.block)) → (A2 = A ∨ A2 = some ⟨w.heap.size, 0, none⟩) → wpList P ops Q rest (a.put o.dst (.slice A2 (n + m) c2)) w') :
    wpList P ops Q (o :: rest) a w :=
  wpList_plain hgd fun _ hK => wp_app s x t ho lo e i z bytes ht hi hz hsize hby hzs f h1 A n c xs hi' hs hn hr A' m c' ys B' hx hm hsv hA h63 hbytes hbase fun A2 c2 w' h2 h3 h4 => hK _ _ (h A2 c2 w' h2 h3 h4)
theorem step_app {P : Program} {ops : Array Oper} {o : Oper} {a : Act} {K : Act → World → Prop} {Q : Exit → Act → World → Prop} {E : Prop} (hgd : o.guard = none) (s x : Operand) (t : TypeId)
    (ho : o.op = .call { callee := .builtin .append, args := #[s, x], argTypes := #[t, t] })
    (lo : Nat) (e : TypeId) (i : TypeInfo) (z : Value) (bytes : Nat) (ht : P.underlying t = some (.slice e)) (hi : P.info? e = some i) (hz : i.zero = some z)
    (hsize : i.size = 1) (hby : i.bytes = bytes) (hzs : z.cells.size = 1) (f : α → Value) (h1 : ∀ y, (f y).oneCell' = true)
    (A : Option Addr) (n c : Nat) (xs : List α) (hi' : Nat) (hs : a.eval s = .slice A n c) (hn : xs.length = n) (hr : RS f e w lo hi' A c xs)
    (A' : Option Addr) (m c' : Nat) (ys : List α) (B' : Nat) (hx : a.eval x = .slice A' m c') (hm : ys.length = m) (hsv : SV f w B' A' ys) (hA : A' = none → c' = 0)
    (h63 : n + m ≤ maxLen) (hbytes : (n + m) * bytes ≤ 140737488355328) (hbase : lo ≤ w.heap.size)
    (h : ∀ A2 c2 w', RS f e w' lo w'.heap.size A2 c2 (xs ++ ys) → w.grownBy w' (A.map (·.block)) → (A2 = A ∨ A2 = some ⟨w.heap.size, 0, none⟩) → K (a.put o.dst (.slice A2 (n + m) c2)) w') :
    if Region.wanted o (yielded ops a.tmps) = true then Oper.wp P o a w K Q else E := by
  have hw : Region.wanted o (yielded ops a.tmps) = true := by simp [Region.wanted, hgd]
  rw [if_pos hw]
  exact wp_app s x t ho lo e i z bytes ht hi hz hsize hby hzs f h1 A n c xs hi' hs hn hr A' m c' ys B' hx hm hsv hA h63 hbytes hbase h
theorem RS.moved (h : RS f e w lo hi A c xs) {row : Option Nat} (hg : w.grownBy w' row) (hr : ∀ g, A = some ⟨g, 0, none⟩ → row ≠ some g) : RS f e w' lo hi A c xs := by
  rcases h with h | ⟨g, cur, h0, h1, h2, h3, h4⟩
  · exact .inl h
  · exact .inr ⟨g, cur, h0, h1, h2, (hg.block g (lt_of_block h3) (fun h5 => hr g h0 h5.symm)).trans h3, h4⟩
end
theorem RS.after {α : Type} {f : α → Value} {e : TypeId} {w0 w w' : World} {lo hi B : Nat} {A : Option Addr} {c : Nat} {xs : List α} (h : RS f e w lo hi A c xs) (hb : Below B w0 w) (hg : w.grownBy w' (A.map (·.block))) (hB : B ≤ w.heap.size) (hlo : B ≤ lo) : Below B w0 w' :=
  hb.grown hg hB (fun k hk => by
    rcases h with ⟨rfl, _⟩ | ⟨g, cur, rfl, hg1, _⟩
    · cases hk
    · simp at hk; omega)
theorem setfar {w : World} {b o : Nat} {v u : Value} {p : Addr} (h : w.cell? ⟨b, o, none⟩ = some v) (hp : b ≠ p.block) : (w.setCell p u).cell? ⟨b, o, none⟩ = some v :=
  (World.cell?_of_block (a := ⟨b, o, none⟩) (Below.heap_setCell w p u b hp)).trans h
/-- block b is a struct of two cells -/
def Box2 (w : World) (b t : Nat) (u v : Value) : Prop := w.heap[b]? = some (.cells #[u, v] t (0, 0))
section
variable {w w' : World} {b t : Nat} {u v : Value}
theorem Box2.lt (h : Box2 w b t u v) : b < w.heap.size := lt_of_block h
theorem Box2.c0 (h : Box2 w b t u v) : w.cell? ⟨b, 0, none⟩ = some u := by rw [cell_of_row w b 0 _ _ _ h]; rfl
theorem Box2.c1 (h : Box2 w b t u v) : w.cell? ⟨b, 1, none⟩ = some v := by rw [cell_of_row w b 1 _ _ _ h]; rfl
theorem Box2.f0 (h : Box2 w b t u v) (j : Nat) : w.frozen? ⟨b, j, none⟩ = false := by
  unfold Box2 at h
  simp [World.frozen?, h]
theorem Box2.keep (h : Box2 w b t u v) (hk : w'.heap[b]? = w.heap[b]?) : Box2 w' b t u v := hk.trans h
theorem Box2.late (h : Box2 w b t u v) (hb : Below w.heap.size w w') : Box2 w' b t u v := h.keep (hb.block b h.lt)
theorem Box2.grown (h : Box2 w b t u v) {row : Option Nat} (hg : w.grownBy w' row) (hr : row ≠ some b) : Box2 w' b t u v := h.keep (hg.block b h.lt (fun h5 => hr h5.symm))
theorem Box2.far (h : Box2 w b t u v) {p : Addr} (hp : b ≠ p.block) (x : Value) : Box2 (w.setCell p x) b t u v := h.keep (Below.heap_setCell w p x b hp)
theorem Box2.put0 (h : Box2 w b t u v) (x : Value) : Box2 (w.setCell ⟨b, 0, none⟩ x) b t x v := by
  unfold Box2 at h ⊢
  rw [heap_setCell_same w b 0 _ _ _ h]; rfl
theorem Box2.put1 (h : Box2 w b t u v) (x : Value) : Box2 (w.setCell ⟨b, 1, none⟩ x) b t u x := by
  unfold Box2 at h ⊢
  rw [heap_setCell_same w b 1 _ _ _ h]; rfl
theorem Box2.new (w : World) (t : Nat) (u v : Value) : Box2 (w.alloc (.cells #[u, v] t)) w.heap.size t u v := heap_alloc_new w _
end
theorem RS.far {α : Type} {f : α → Value} {e : TypeId} {w : World} {lo hi c : Nat} {A : Option Addr} {xs : List α} (h : RS f e w lo hi A c xs) {p : Addr} (hp : ∀ g, A = some ⟨g, 0, none⟩ → g ≠ p.block) (u : Value) : RS f e (w.setCell p u) lo hi A c xs := by
  rcases h with h | ⟨g, cur, h0, h1, h2, h3, h4⟩
  · exact .inl h
  · exact .inr ⟨g, cur, h0, h1, h2, (Below.heap_setCell w p u g (hp g h0)).trans h3, h4⟩
end Go.Proofs.YtoojnfdphjdocaaDoor
