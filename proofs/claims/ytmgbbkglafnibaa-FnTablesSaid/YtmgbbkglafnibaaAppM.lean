/- append on rows of structs of integers, of new memory. -/
import Derived.Test.YtmgbbkglafnibaaApp
import Derived.Test.YtmgbbkglafnibaaSlices
namespace Go.Proofs.Ytmgbbkglafnibaa
open Go.RowKit Go.Deep
/-- the slice at A (n elements of m cells each, room c) is nil, or lies at the head of a block of its own from lo up to hi, and holds the integers zs -/
def RM (m : Nat) (e : TypeId) (w : World) (lo hi : Nat) (A : Option Addr) (n c : Nat) (zs : List Int) : Prop :=
  zs.length = n * m ∧ ((A = none ∧ n = 0 ∧ c = 0) ∨ ∃ g cur, A = some ⟨g, 0, none⟩ ∧ lo ≤ g ∧ g < hi ∧ w.heap[g]? = some (.cells cur e (0, 0)) ∧ n ≤ c ∧ c ≤ maxLen ∧ cur.size = c * m ∧ cur.toList.take (n * m) = zs.map (Value.int .i64))
section
variable {m : Nat} {e : TypeId} {w w' : World} {lo hi lo' hi' n c : Nat} {A : Option Addr} {zs : List Int}
theorem RM.len (h : RM m e w lo hi A n c zs) : zs.length = n * m := h.1
theorem RM.nil : RM m e w lo hi none 0 0 [] := ⟨by simp, .inl ⟨rfl, rfl, rfl⟩⟩
theorem RM.lit0 (w : World) : RM m e (w.alloc (.cells #[] e)) w.heap.size (w.heap.size + 1) (some ⟨w.heap.size, 0, none⟩) 0 0 [] :=
  ⟨by simp, .inr ⟨w.heap.size, #[], rfl, Nat.le_refl _, Nat.lt_succ_self _, heap_alloc_new w _, Nat.le_refl _, Nat.zero_le _, by simp, by simp⟩⟩
theorem RM.own (h : RM m e w lo hi A n c zs) : w.ownsRow lo e m (.slice A n c) n (zs.map (Value.int .i64)) := by
  obtain ⟨h0, h⟩ := h
  rcases h with ⟨rfl, rfl, rfl⟩ | ⟨g, cur, rfl, h1, h2, h3, h4, h5, h6, h7⟩
  · exact ⟨by simpa using h0, .inl ⟨rfl, rfl⟩⟩
  · exact ⟨by simpa using h0, .inr ⟨g, c, cur, rfl, h1, h3, h4, h5, h6, h7⟩⟩
theorem RM.of_own (h : w.ownsRow lo e m (.slice A n c) n (zs.map (Value.int .i64))) (hhi : w.heap.size ≤ hi) : RM m e w lo hi A n c zs := by
  refine ⟨by have := h.1; simpa using this, ?_⟩
  rcases h.2 with ⟨h1, h2⟩ | ⟨g, cap, cur, h1, h2, h3, h4, h5, h6, h7⟩
  · simp at h1
    exact .inl ⟨h1.1, h2, h1.2.2⟩
  · simp at h1
    obtain ⟨rfl, rfl⟩ := h1
    exact .inr ⟨g, cur, rfl, h2, Nat.lt_of_lt_of_le (lt_of_block h3) hhi, h3, h4, h5, h6, h7⟩
theorem RM.si (h : RM m e w lo hi A n c zs) : SI w w.heap.size A zs := fun hp => by
  obtain ⟨h0, h⟩ := h
  rcases h with ⟨rfl, rfl, rfl⟩ | ⟨g, cur, rfl, h1, h2, h3, h4, h5, h6, h7⟩
  · rw [Nat.zero_mul] at h0; omega
  · refine ⟨g, 0, rfl, lt_of_block h3, fun j hj => ?_⟩
    rw [Nat.zero_add, cell_of_row w g j _ _ _ h3]
    have h8 : (cur.toList.take (n * m))[j]? = some (Value.int .i64 (zs.getD j 0)) := by rw [h7]; simp [hj, List.getD_eq_getElem?_getD]
    rw [List.getElem?_take, if_pos (by omega)] at h8
    simpa using h8
theorem RM.keep (h : RM m e w lo hi A n c zs) (hk : ∀ g, g < w.heap.size → lo ≤ g → g < hi → w'.heap[g]? = w.heap[g]?) : RM m e w' lo hi A n c zs := by
  obtain ⟨h0, h⟩ := h
  refine ⟨h0, ?_⟩
  rcases h with h | ⟨g, cur, h0, h1, h2, h3, h4⟩
  · exact .inl h
  · exact .inr ⟨g, cur, h0, h1, h2, (hk g (lt_of_block h3) h1 h2).trans h3, h4⟩
theorem RM.late (h : RM m e w lo hi A n c zs) (hb : Below w.heap.size w w') : RM m e w' lo hi A n c zs := h.keep fun g hg _ _ => hb.block g hg
theorem RM.only (h : RM m e w lo hi A n c zs) (hb : Only lo' hi' w w') (hd : hi ≤ lo' ∨ hi' ≤ lo) : RM m e w' lo hi A n c zs := h.keep fun g hg h1 h2 => hb.block g hg (by omega)
theorem RM.wide (h : RM m e w lo hi A n c zs) (h1 : lo' ≤ lo) (h2 : hi ≤ hi') : RM m e w lo' hi' A n c zs := by
  obtain ⟨h0, h⟩ := h
  refine ⟨h0, ?_⟩
  rcases h with h | ⟨g, cur, h0, h3, h4, h5⟩
  · exact .inl h
  · exact .inr ⟨g, cur, h0, by omega, by omega, h5⟩
theorem RM.top (h : RM m e w lo hi A n c zs) : RM m e w lo w.heap.size A n c zs := by
  obtain ⟨h0, h⟩ := h
  refine ⟨h0, ?_⟩
  rcases h with h | ⟨g, cur, h0, h1, _, h3, h4⟩
  · exact .inl h
  · exact .inr ⟨g, cur, h0, h1, lt_of_block h3, h3, h4⟩
theorem RM.moved (h : RM m e w lo hi A n c zs) {row : Option Nat} (hg : w.grownBy w' row) (hr : ∀ g, A = some ⟨g, 0, none⟩ → row ≠ some g) : RM m e w' lo hi A n c zs := by
  obtain ⟨h0, h⟩ := h
  refine ⟨h0, ?_⟩
  rcases h with h | ⟨g, cur, h0, h1, h2, h3, h4⟩
  · exact .inl h
  · exact .inr ⟨g, cur, h0, h1, h2, (hg.block g (lt_of_block h3) (fun h5 => hr g h0 h5.symm)).trans h3, h4⟩
theorem RM.after {w0 : World} {B : Nat} (h : RM m e w lo hi A n c zs) (hb : Below B w0 w) (hg : w.grownBy w' (A.map (·.block))) (hB : B ≤ w.heap.size) (hlo : B ≤ lo) : Below B w0 w' :=
  hb.grown hg hB (fun k hk => by
    rcases h.2 with ⟨rfl, _⟩ | ⟨g, cur, rfl, hg1, _⟩
    · cases hk
    · simp at hk
      omega)
theorem RM.far (h : RM m e w lo hi A n c zs) {p : Addr} (hp : ∀ g, A = some ⟨g, 0, none⟩ → g ≠ p.block) (u : Value) : RM m e (w.setCell p u) lo hi A n c zs := by
  obtain ⟨h0, h⟩ := h
  refine ⟨h0, ?_⟩
  rcases h with h | ⟨g, cur, h0, h1, h2, h3, h4⟩
  · exact .inl h
  · exact .inr ⟨g, cur, h0, h1, h2, (Below.heap_setCell w p u g (hp g h0)).trans h3, h4⟩
theorem RM.isAt (h : RM m e w lo hi A n c zs) (hp : 0 < n) : ∃ g, A = some ⟨g, 0, none⟩ ∧ lo ≤ g ∧ g < hi ∧ g < w.heap.size := by
  rcases h.2 with ⟨_, h1, _⟩ | ⟨g, cur, h0, h1, h2, h3, _⟩
  · omega
  · exact ⟨g, h0, h1, h2, lt_of_block h3⟩
theorem RM.form (h : RM m e w lo hi A n c zs) : (A = none ∨ ∃ g, A = some ⟨g, 0, none⟩) ∧ ∀ g, A = some ⟨g, 0, none⟩ → lo ≤ g ∧ g < w.heap.size := by
  rcases h.2 with ⟨rfl, _⟩ | ⟨g, cur, rfl, h1, _, h3, _⟩
  · exact ⟨.inl rfl, fun g hg => by cases hg⟩
  · exact ⟨.inr ⟨g, rfl⟩, fun g' hg => by simp at hg; subst hg; exact ⟨h1, lt_of_block h3⟩⟩
theorem RM.cellAt (h : RM m e w lo hi A n c zs) {g j : Nat} (hA : A = some ⟨g, 0, none⟩) (hj : j < zs.length) : w.cell? ⟨g, j, none⟩ = some (.int .i64 (zs.getD j 0)) ∧ w.frozen? ⟨g, j, none⟩ = false := by
  obtain ⟨b, off, e1, _, hc⟩ := h.si (by omega)
  rw [hA] at e1
  simp only [Option.some.injEq, Addr.mk.injEq, and_true] at e1
  obtain ⟨rfl, rfl⟩ := e1
  refine ⟨by have h9 := hc j hj; rwa [Nat.zero_add] at h9, ?_⟩
  rcases h.2 with ⟨h1, _⟩ | ⟨g', cur, h1, _, _, h4, _⟩
  · rw [h1] at hA; cases hA
  · rw [h1] at hA
    simp only [Option.some.injEq, Addr.mk.injEq, and_true] at hA
    subst hA
    exact frozen_of_row _ _ _ _ _ h4
/-- a store into one cell of the row -/
theorem RM.put (h : RM m e w lo hi A n c zs) {g : Nat} (hA : A = some ⟨g, 0, none⟩) (j : Nat) (y : Int) : RM m e (w.setCell ⟨g, j, none⟩ (.int .i64 y)) lo hi A n c (zs.set j y) := by
  obtain ⟨h0, h⟩ := h
  refine ⟨by simpa using h0, ?_⟩
  rcases h with ⟨h, _⟩ | ⟨g', cur, h1, h2, h3, h4, h5, h6, h7, h8⟩
  · rw [h] at hA; cases hA
  · rw [h1] at hA
    simp only [Option.some.injEq, Addr.mk.injEq, and_true] at hA
    subst hA
    refine .inr ⟨g', cur.setIfInBounds j (.int .i64 y), h1, h2, h3, ?_, h5, h6, by simpa using h7, ?_⟩
    · rw [heap_setCell_same w g' j _ _ _ h4]
    · rw [Array.toList_setIfInBounds, List.take_set, h8, List.map_set]
theorem SI.of_new {t : Nat} (w : World) (ys : List Int) : SI (w.alloc (.cells (ys.map (Value.int .i64)).toArray t)) (w.heap.size + 1) (some ⟨w.heap.size, 0, none⟩) ys := fun _ =>
  ⟨w.heap.size, 0, rfl, Nat.lt_succ_self _, fun j hj => by rw [Nat.zero_add, cell_of_row _ _ _ _ _ _ (heap_alloc_new w _)]; simp [hj]⟩
theorem run_appM {P : Program} (w : World) (t ty : TypeId) (m : Nat) (hm0 : 0 < m)
    (lo : Nat) (e : TypeId) (i : TypeInfo) (z : Value) (bytes : Nat) (ht : P.underlying t = some (.slice e)) (hi : P.info? e = some i) (hz : i.zero = some z)
    (hsize : i.size = m) (hby : i.bytes = bytes) (hzs : z.cells.size = m)
    (A : Option Addr) (n c : Nat) (zs : List Int) (hi' : Nat) (hr : RM m e w lo hi' A n c zs)
    (A' : Option Addr) (k c' : Nat) (ys : List Int) (B' : Nat) (hk : ys.length = k * m) (hk0 : 0 < k) (hsv : SI w B' A' ys)
    (h63 : n + k ≤ maxLen) (hbytes : (n + k) * bytes ≤ 140737488355328) (hbase : lo ≤ w.heap.size) :
    ∃ A2 c2 w', (Builtin.append_ #[t, t] ty #[.slice A n c, .slice A' k c']).run P w = .ok (.slice A2 (n + k) c2) w' ∧ RM m e w' lo w'.heap.size A2 (n + k) c2 (zs ++ ys) ∧ w.grownBy w' (A.map (·.block)) ∧ (A2 = A ∨ A2 = some ⟨w.heap.size, 0, none⟩) := by
  have hown := hr.own
  have hyp : 0 < ys.length := by rw [hk]; exact Nat.mul_pos hk0 hm0
  obtain ⟨b, off, rfl, hB', hc'⟩ := hsv hyp
  have hadd : ∀ j, (⟨b, off, none⟩ : Addr).add j = ⟨b, off + j, none⟩ := fun j => by unfold Addr.add; by_cases hj : j = 0 <;> simp [hj]
  have hl : ∀ j u, (ys.map (Value.int .i64))[j]? = some u → w.cell? ((⟨b, off, none⟩ : Addr).add j) = some u := by
    intro j u hj
    have hjl : j < ys.length := by have := lt_of_at hj; simpa using this
    rw [hadd, hc' j hjl]
    simp [hjl] at hj
    simp [hjl, hj]
  have hc1 : ∀ u ∈ ys.map (Value.int .i64), u.oneCell' = true := by
    intro u hu
    obtain ⟨y, _, rfl⟩ := List.mem_map.1 hu
    rfl
  obtain ⟨v', w', hrun, hown', hgr, _, hblk⟩ := run_append_own_at (P := P) w lo t ty e i z m bytes ht hi hz hsize hby hzs hm0 (.slice A n c) n (zs.map (Value.int .i64)) hown ⟨b, off, none⟩ k c' (ys.map (Value.int .i64)) (by simpa using hk) hl hc1 h63 hbytes hbase
  have hob : (Value.slice A n c).ownBlock = A.map (·.block) := by cases A <;> rfl
  rw [hob] at hgr hblk
  rw [← List.map_append] at hown'
  have hform : ∃ A2 c2, v' = .slice A2 (n + k) c2 ∧ (A2 = none ∨ ∃ g, A2 = some ⟨g, 0, none⟩) := by
    rcases hown'.2 with ⟨h2, h3⟩ | ⟨g, cap, _, h2, _⟩
    · exact ⟨none, 0, by rw [h2, h3], .inl rfl⟩
    · exact ⟨_, cap, h2, .inr ⟨g, rfl⟩⟩
  obtain ⟨A2, c2, rfl, hA2⟩ := hform
  refine ⟨A2, c2, w', hrun, RM.of_own hown' (Nat.le_refl _), hgr, ?_⟩
  have hAf : A = none ∨ ∃ g, A = some ⟨g, 0, none⟩ := by
    rcases hr.2 with ⟨h2, _⟩ | ⟨g, _, h2, _⟩
    · exact .inl h2
    · exact .inr ⟨g, h2⟩
  rcases hA2 with rfl | ⟨g2, rfl⟩ <;> rcases hAf with rfl | ⟨g, rfl⟩ <;> simp [Value.ownBlock] at hblk ⊢ <;> assumption
theorem wp_appM {P : Program} {o : Oper} {a : Act} {K : Act → World → Prop} {Q : Exit → Act → World → Prop} (s x : Operand) (t : TypeId)
    (ho : o.op = .call { callee := .builtin .append, args := #[s, x], argTypes := #[t, t] }) (m : Nat) (hm0 : 0 < m)
    (lo : Nat) (e : TypeId) (i : TypeInfo) (z : Value) (bytes : Nat) (ht : P.underlying t = some (.slice e)) (hi : P.info? e = some i) (hz : i.zero = some z)
    (hsize : i.size = m) (hby : i.bytes = bytes) (hzs : z.cells.size = m)
    (A : Option Addr) (n c : Nat) (zs : List Int) (hi' : Nat) (hs : a.eval s = .slice A n c) (hr : RM m e w lo hi' A n c zs)
    (A' : Option Addr) (k c' : Nat) (ys : List Int) (B' : Nat) (hx : a.eval x = .slice A' k c') (hk : ys.length = k * m) (hk0 : 0 < k) (hsv : SI w B' A' ys)
    (h63 : n + k ≤ maxLen) (hbytes : (n + k) * bytes ≤ 140737488355328) (hbase : lo ≤ w.heap.size)
    (h : ∀ A2 c2 w', RM m e w' lo w'.heap.size A2 (n + k) c2 (zs ++ ys) → w.grownBy w' (A.map (·.block)) → (A2 = A ∨ A2 = some ⟨w.heap.size, 0, none⟩) → K (a.put o.dst (.slice A2 (n + k) c2)) w') : o.wp P a w K Q := by
  obtain ⟨A2, c2, w', hrun, h2, h3, h4⟩ := run_appM (P := P) w t o.type m hm0 lo e i z bytes ht hi hz hsize hby hzs A n c zs hi' hr A' k c' ys B' hk hk0 hsv h63 hbytes hbase
  unfold Oper.wp execOp
  simp only [ho, resolve, invoke, builtin, Sem.run_bind, Sem.run_pure, Result.andThen_ok, List.map_toArray, List.map_cons, List.map_nil, hs, hx, hrun]
  exact h A2 c2 w' h2 h3 h4
theorem wpList_appM {P : Program} {ops : Array Oper} {rest : List Oper} {o : Oper} {a : Act} {Q : Exit → Act → World → Prop} (hgd : o.guard = none) (s x : Operand) (t : TypeId)
    (ho : o.op = .call { callee := .builtin .append, args := #[s, x], argTypes := #[t, t] }) (m : Nat) (hm0 : 0 < m)
    (lo : Nat) (e : TypeId) (i : TypeInfo) (z : Value) (bytes : Nat) (ht : P.underlying t = some (.slice e)) (hi : P.info? e = some i) (hz : i.zero = some z)
    (hsize : i.size = m) (hby : i.bytes = bytes) (hzs : z.cells.size = m)
    (A : Option Addr) (n c : Nat) (zs : List Int) (hi' : Nat) (hs : a.eval s = .slice A n c) (hr : RM m e w lo hi' A n c zs)
    (A' : Option Addr) (k c' : Nat) (ys : List Int) (B' : Nat) (hx : a.eval x = .slice A' k c') (hk : ys.length = k * m) (hk0 : 0 < k) (hsv : SI w B' A' ys)
    (h63 : n + k ≤ maxLen) (hbytes : (n + k) * bytes ≤ 140737488355328) (hbase : lo ≤ w.heap.size)
    (h : ∀ A2 c2 w', RM m e w' lo w'.heap.size A2 (n + k) c2 (zs ++ ys) → w.grownBy w' (A.map (·.block)) → (A2 = A ∨ A2 = some ⟨w.heap.size, 0, none⟩) → wpList P ops Q rest (a.put o.dst (.slice A2 (n + k) c2)) w') :
    wpList P ops Q (o :: rest) a w :=
  wpList_plain hgd fun _ hK => wp_appM s x t ho m hm0 lo e i z bytes ht hi hz hsize hby hzs A n c zs hi' hs hr A' k c' ys B' hx hk hk0 hsv h63 hbytes hbase fun A2 c2 w' h2 h3 h4 => hK _ _ (h A2 c2 w' h2 h3 h4)
theorem step_appM {P : Program} {ops : Array Oper} {o : Oper} {a : Act} {K : Act → World → Prop} {Q : Exit → Act → World → Prop} {E : Prop} (hgd : o.guard = none) (s x : Operand) (t : TypeId)
    (ho : o.op = .call { callee := .builtin .append, args := #[s, x], argTypes := #[t, t] }) (m : Nat) (hm0 : 0 < m)
    (lo : Nat) (e : TypeId) (i : TypeInfo) (z : Value) (bytes : Nat) (ht : P.underlying t = some (.slice e)) (hi : P.info? e = some i) (hz : i.zero = some z)
    (hsize : i.size = m) (hby : i.bytes = bytes) (hzs : z.cells.size = m)
    (A : Option Addr) (n c : Nat) (zs : List Int) (hi' : Nat) (hs : a.eval s = .slice A n c) (hr : RM m e w lo hi' A n c zs)
    (A' : Option Addr) (k c' : Nat) (ys : List Int) (B' : Nat) (hx : a.eval x = .slice A' k c') (hk : ys.length = k * m) (hk0 : 0 < k) (hsv : SI w B' A' ys)
    (h63 : n + k ≤ maxLen) (hbytes : (n + k) * bytes ≤ 140737488355328) (hbase : lo ≤ w.heap.size)
    (h : ∀ A2 c2 w', RM m e w' lo w'.heap.size A2 (n + k) c2 (zs ++ ys) → w.grownBy w' (A.map (·.block)) → (A2 = A ∨ A2 = some ⟨w.heap.size, 0, none⟩) → K (a.put o.dst (.slice A2 (n + k) c2)) w') :
    if Region.wanted o (yielded ops a.tmps) = true then Oper.wp P o a w K Q else E := by
  have hw : Region.wanted o (yielded ops a.tmps) = true := by simp [Region.wanted, hgd]
  rw [if_pos hw]
  exact wp_appM s x t ho m hm0 lo e i z bytes ht hi hz hsize hby hzs A n c zs hi' hs hr A' k c' ys B' hx hk hk0 hsv h63 hbytes hbase h
end
end Go.Proofs.Ytmgbbkglafnibaa
