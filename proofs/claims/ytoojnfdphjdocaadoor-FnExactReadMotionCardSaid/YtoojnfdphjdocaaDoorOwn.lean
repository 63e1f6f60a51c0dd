/- Rows of new memory, with spare room behind: what a slice made by append reads as; writes into one such row alone. -/
import Derived.Test.YtoojnfdphjdocaaDoorTabW
import Derived.Laws.AppendOwn
import Derived.Deep.AppendLies
import Derived.Laws.OwnMore
namespace Go.Proofs.YtoojnfdphjdocaaDoor
open Go.RowKit Go.Deep
/-- all blocks of w but those from lo up to hi are as they were -/
structure Only (lo hi : Nat) (w w' : World) : Prop where
  os : w'.os = w.os
  tape : w'.tape = w.tape
  output : w'.output = w.output
  size : w.heap.size ≤ w'.heap.size
  block : ∀ k, k < w.heap.size → (k < lo ∨ hi ≤ k) → w'.heap[k]? = w.heap[k]?
theorem Only.refl (lo hi : Nat) (w : World) : Only lo hi w w := ⟨rfl, rfl, rfl, Nat.le_refl _, fun _ _ _ => rfl⟩
theorem Only.trans {lo hi : Nat} {a b c : World} (h : Only lo hi a b) (k : Only lo hi b c) : Only lo hi a c :=
  ⟨k.os.trans h.os, k.tape.trans h.tape, k.output.trans h.output, Nat.le_trans h.size k.size, fun i hi hd => (k.block i (Nat.lt_of_lt_of_le hi h.size) hd).trans (h.block i hi hd)⟩
theorem Only.wide {lo hi lo' hi' : Nat} {a b : World} (h : Only lo hi a b) (h1 : lo' ≤ lo) (h2 : hi ≤ hi') : Only lo' hi' a b :=
  ⟨h.os, h.tape, h.output, h.size, fun i hi hd => h.block i hi (by omega)⟩
theorem Only.drew {lo hi : Nat} {a w : World} (h : Only lo hi a w) : Only lo hi a w.drew := ⟨h.os, h.tape, h.output, h.size, h.block⟩
theorem Only.drewN {lo hi : Nat} {a w : World} {n : Nat} (h : Only lo hi a w) : Only lo hi a (w.drewN n) := ⟨h.os, h.tape, h.output, h.size, h.block⟩
theorem Only.setCell {lo hi : Nat} {a w : World} (h : Only lo hi a w) {p : Addr} (h1 : lo ≤ p.block) (h2 : p.block < hi) (u : Value) : Only lo hi a (w.setCell p u) :=
  h.trans ⟨rfl, rfl, rfl, by simp [World.setCell], fun k hk hd => Below.heap_setCell _ _ _ _ (by omega)⟩
theorem Only.below {lo hi B : Nat} {w w' : World} (h : Only lo hi w w') (hB : B ≤ lo) (hw : B ≤ w.heap.size) : Below B w w' :=
  ⟨h.os, h.tape, h.output, h.size, fun k hk => h.block k (by omega) (.inl (by omega))⟩
theorem Only.of_below {lo hi : Nat} {w w' : World} (h : Below w.heap.size w w') : Only lo hi w w' := ⟨h.os, h.tape, h.output, h.size, fun k hk _ => h.block k hk⟩
theorem Only.after {B lo hi : Nat} {w a b : World} (h : Below B w a) (k : Only lo hi a b) (hB : B ≤ lo) (hw : B ≤ w.heap.size) : Below B w b := h.trans (k.below hB (Nat.le_trans hw h.size))
theorem Only.keepc {lo hi : Nat} {w w' : World} {b o : Nat} {v : Value} (h : Only lo hi w w') (hd : b < lo ∨ hi ≤ b) (hc : w.cell? ⟨b, o, none⟩ = some v) : w'.cell? ⟨b, o, none⟩ = some v :=
  (World.cell?_of_block (a := ⟨b, o, none⟩) (h.block b (lt_of_cell hc) hd)).trans hc
section
variable {α : Type} {f : α → Value} {e : TypeId} {w w' : World} {lo hi lo' hi' n c : Nat} {A : Option Addr} {xs : List α}
/-- the slice at A (room c) is nil, or lies at the head of a block of its own from lo up to hi, and holds xs -/
def RS (f : α → Value) (e : TypeId) (w : World) (lo hi : Nat) (A : Option Addr) (c : Nat) (xs : List α) : Prop :=
  (A = none ∧ c = 0 ∧ xs = []) ∨ ∃ g cur, A = some ⟨g, 0, none⟩ ∧ lo ≤ g ∧ g < hi ∧ w.heap[g]? = some (.cells cur e (0, 0)) ∧ xs.length ≤ c ∧ c ≤ maxLen ∧ cur.size = c ∧ cur.toList.take xs.length = xs.map f
theorem RS.nil : RS f e w lo hi none 0 [] := .inl ⟨rfl, rfl, rfl⟩
theorem lt_of_block {w : World} {g : Nat} {o : Obj} (h : w.heap[g]? = some o) : g < w.heap.size := by
  rcases Nat.lt_or_ge g w.heap.size with hl | hg
  · exact hl
  · rw [Array.getElem?_eq_none hg] at h; cases h
theorem RS.of_own (h : w.ownsRow lo e 1 (.slice A n c) n (xs.map f)) (hhi : w.heap.size ≤ hi) : RS f e w lo hi A c xs := by
  have hl : xs.length = n := by have := h.1; simpa using this
  rcases h.2 with ⟨h1, h2⟩ | ⟨g, cap, cur, h1, h2, h3, h4, h5, h6, h7⟩
  · simp at h1
    exact .inl ⟨h1.1, h1.2.2, List.length_eq_zero_iff.1 (by omega)⟩
  · simp at h1
    obtain ⟨rfl, rfl⟩ := h1
    exact .inr ⟨g, cur, rfl, h2, Nat.lt_of_lt_of_le (lt_of_block h3) hhi, h3, by omega, h5, by omega, by rw [hl, ← h7, Nat.mul_one]⟩
theorem RS.own (h : RS f e w lo hi A c xs) : w.ownsRow lo e 1 (.slice A xs.length c) xs.length (xs.map f) := by
  rcases h with ⟨rfl, rfl, rfl⟩ | ⟨g, cur, rfl, h1, h2, h3, h4, h5, h6, h7⟩
  · exact ⟨by simp, .inl ⟨rfl, rfl⟩⟩
  · exact ⟨by simp, .inr ⟨g, c, cur, rfl, h1, h3, h4, h5, by omega, by rw [Nat.mul_one]; exact h7⟩⟩
theorem RS.of_bv {g : Nat} (h : BV f w g e xs) (h1 : lo ≤ g) (h2 : g < hi) (hm : xs.length ≤ maxLen) : RS f e w lo hi (some ⟨g, 0, none⟩) xs.length xs :=
  .inr ⟨g, _, rfl, h1, h2, h, Nat.le_refl _, hm, by simp, List.take_of_length_le (by simp)⟩
theorem RS.cellAt (h : RS f e w lo hi A c xs) {k : Nat} {x : α} (hk : xs[k]? = some x) : ∃ g, A = some ⟨g, 0, none⟩ ∧ lo ≤ g ∧ g < hi ∧ g < w.heap.size ∧ w.cell? ⟨g, k, none⟩ = some (f x) ∧ w.frozen? ⟨g, k, none⟩ = false := by
  rcases h with ⟨rfl, rfl, rfl⟩ | ⟨g, cur, rfl, h1, h2, h3, h4, h5, h6, h7⟩
  · simp at hk
  · refine ⟨g, rfl, h1, h2, lt_of_block h3, ?_, by simp [World.frozen?, h3]⟩
    rw [cell_of_row w g k _ _ _ h3]
    have hl := lt_of_at hk
    have h8 : (cur.toList.take xs.length)[k]? = some (f x) := by rw [h7]; simp [hk]
    rw [List.getElem?_take, if_pos hl] at h8
    simpa using h8
theorem RS.sv (h : RS f e w lo hi A c xs) : SV f w w.heap.size A xs := fun hp => by
  obtain ⟨x0, hx0⟩ := at_of_lt hp
  obtain ⟨g, rfl, _, _, hg, _, _⟩ := h.cellAt hx0
  refine ⟨g, 0, rfl, hg, fun j x hj => ?_⟩
  obtain ⟨g', e1, _, _, _, hc, _⟩ := h.cellAt hj
  simp only [Option.some.injEq, Addr.mk.injEq, and_true] at e1
  subst e1
  rw [Nat.zero_add]; exact hc
theorem RS.keep (h : RS f e w lo hi A c xs) (hk : ∀ g, g < w.heap.size → lo ≤ g → g < hi → w'.heap[g]? = w.heap[g]?) : RS f e w' lo hi A c xs := by
  rcases h with h | ⟨g, cur, h0, h1, h2, h3, h4⟩
  · exact .inl h
  · exact .inr ⟨g, cur, h0, h1, h2, (hk g (lt_of_block h3) h1 h2).trans h3, h4⟩
theorem RS.late (h : RS f e w lo hi A c xs) (hb : Below w.heap.size w w') : RS f e w' lo hi A c xs := h.keep fun g hg _ _ => hb.block g hg
theorem RS.only (h : RS f e w lo hi A c xs) (hb : Only lo' hi' w w') (hd : hi ≤ lo' ∨ hi' ≤ lo) : RS f e w' lo hi A c xs := h.keep fun g hg h1 h2 => hb.block g hg (by omega)
theorem RS.wide (h : RS f e w lo hi A c xs) (h1 : lo' ≤ lo) (h2 : hi ≤ hi') : RS f e w lo' hi' A c xs := by
  rcases h with h | ⟨g, cur, h0, h3, h4, h5⟩
  · exact .inl h
  · exact .inr ⟨g, cur, h0, by omega, by omega, h5⟩
theorem SV.only {B : Nat} (h : SV f w B A xs) (hw : B ≤ w.heap.size) (hb : Only lo hi w w') (hd : B ≤ lo) : SV f w' B A xs := h.below (hb.below hd hw)
theorem RS.put (h : RS f e w lo hi A c xs) {k : Nat} {x : α} (hk : xs[k]? = some x) (y : α) : ∃ g, A = some ⟨g, 0, none⟩ ∧ lo ≤ g ∧ g < hi ∧ w.cell? ⟨g, k, none⟩ = some (f x) ∧ w.frozen? ⟨g, k, none⟩ = false ∧
    RS f e (w.setCell ⟨g, k, none⟩ (f y)) lo hi A c (xs.set k y) ∧ Only lo hi w (w.setCell ⟨g, k, none⟩ (f y)) := by
  obtain ⟨g, rfl, h1, h2, h3, h4, h5⟩ := h.cellAt hk
  refine ⟨g, rfl, h1, h2, h4, h5, ?_, (Only.refl lo hi w).setCell h1 h2 _⟩
  rcases h with ⟨h, _⟩ | ⟨g', cur, e0, h6, h7, h8, h9, h10, h11, h12⟩
  · cases h
  · simp only [Option.some.injEq, Addr.mk.injEq, and_true] at e0
    subst e0
    refine .inr ⟨g, cur.setIfInBounds k (f y), rfl, h1, h2, ?_, by simpa using h9, h10, by simpa using h11, ?_⟩
    · rw [heap_setCell_same w g k _ _ _ h8]
    · rw [Array.toList_setIfInBounds, List.length_set, List.take_set, h12, List.map_set]
end
/-- the numbers from k on -/
def seqI (k : Int) (n : Nat) : List Int := (List.range n).map fun j : Nat => k + (j : Int)
theorem seqI_len (k : Int) (n : Nat) : (seqI k n).length = n := by simp [seqI]
theorem seqI_at {k : Int} {n j : Nat} (h : j < n) : (seqI k n)[j]? = some (k + (j : Int)) := by simp [seqI, h]
theorem seqI_succ (k : Int) (n : Nat) : seqI k (n + 1) = seqI k n ++ [k + (n : Int)] := by simp [seqI, List.range_succ]
theorem seq_put {k : Int} {xs : List Int} {j : Nat} (h : j < xs.length) : (seqI k j ++ xs.drop j).set j (k + (j : Int)) = seqI k (j + 1) ++ xs.drop (j + 1) := by
  have hl := seqI_len k j
  rw [List.set_append_right _ _ (by omega), hl, Nat.sub_self, seqI_succ, List.append_assoc, List.drop_eq_getElem_cons h]
  rfl
theorem seq_here {k : Int} {xs : List Int} {j : Nat} {x : Int} (h : xs[j]? = some x) : (seqI k j ++ xs.drop j)[j]? = some x := by
  have hl := seqI_len k j
  rw [List.getElem?_append_right (by omega), hl, Nat.sub_self, List.getElem?_drop, Nat.add_zero, h]
set_option maxHeartbeats 2000000 in
theorem markInt64S_any (A : Option Addr) (c : Nat) (xs : List Int) (k : Int) (lo hi : Nat) (w : World) (hn : xs.length ≤ 1048576) (hk : 0 ≤ k ∧ k ≤ 1048576000) (h : RS (.int .i64) 2 w lo hi A c xs) :
    Calls Tryd.prog 29 #[.slice A xs.length c, .int .i64 k] w fun e w' => e = .returned (.int .i64 (k + xs.length)) ∧ RS (.int .i64) 2 w' lo hi A c (seqI k xs.length) ∧ Only lo hi w w' := by
  have H := Lib.hid h
  clear h
  obtain ⟨n, hn'⟩ : ∃ n, xs.length = n := ⟨_, rfl⟩
  have HN := Lib.hid hn'
  rw [hn'] at hn ⊢
  clear hn'
  obtain ⟨hk0, hk1⟩ := hk
  go_enter Tryd.func29, Tryd.ntmps29
  go_wp2
  go_loopw [1, 5] (fun kv i wr => ∃ j : Nat, j ≤ n ∧ i = .int .i64 j ∧ kv = .int .i64 (k + (j : Int)) ∧ RS (.int .i64) 2 wr lo hi A c (seqI k j ++ xs.drop j) ∧ Only lo hi w wr) (fun _ i _ => n - (intOf i).toNat)
  case atStart => exact ⟨0, by omega, rfl, by simp, by simpa [seqI] using H.out, Only.refl _ _ _⟩
  case round =>
    obtain ⟨j, hj, rfl, rfl, hrs, hon⟩ := hrel
    by_cases hlt : j < n
    · obtain ⟨x, hx⟩ := at_of_lt (xs := xs) (k := j) (by rw [HN.out]; exact hlt)
      obtain ⟨g, rfl, hg1, hg2, hc, hf, hrs2, hon2⟩ := hrs.put (seq_here (k := k) hx) (k + (j : Int))
      rw [seq_put (by rw [HN.out]; exact hlt)] at hrs2
      have HR := Lib.hid hrs2
      have HO := Lib.hid (hon.trans hon2)
      clear hrs hon hrs2 hon2 hx
      go_wp2
      go_roundw
      case rel => exact ⟨j + 1, by omega, by go_num, by go_num, HR.out, HO.out⟩
      case measure => simp [intOf]; omega
    · obtain rfl : j = n := by omega
      have HR := Lib.hid hrs
      have HO := Lib.hid hon
      clear hrs hon
      go_wp2
      go_ret
      exact ⟨rfl, by have h := HR.out; rw [List.drop_of_length_le (by rw [HN.out]; omega), List.append_nil] at h; exact h, HO.out⟩
set_option maxHeartbeats 2000000 in
theorem heldInt64S_any (A : Option Addr) (c : Nat) (k : Int) (n : Nat) (w : World) (hn : n ≤ 1048576) (hk : 0 ≤ k ∧ k ≤ 1048576000) (h : SV (.int .i64) w w.heap.size A (seqI k n)) :
    Calls Tryd.prog 30 #[.slice A n c, .int .i64 k] w fun e w' => e = .returned (.int .i64 (k + n)) ∧ w = w' := by
  have H := Lib.hid h
  clear h
  obtain ⟨hk0, hk1⟩ := hk
  go_enter Tryd.func30, Tryd.ntmps30
  go_wp2
  go_loop [1, 5] (fun kv i => ∃ j : Nat, j ≤ n ∧ i = .int .i64 j ∧ kv = .int .i64 (k + (j : Int))) (fun _ i => n - (intOf i).toNat)
  case atStart => exact ⟨0, by omega, rfl, by simp⟩
  case round =>
    obtain ⟨j, hj, rfl, rfl⟩ := hrel
    by_cases hlt : j < n
    · obtain ⟨b, off, rfl, hB, hc⟩ := H.out.at_ (seqI_at (k := k) hlt)
      have hb : (k + (j : Int) != k + (j : Int)) = false := by simp
      go_wp2
      go_round
      case rel => exact ⟨j + 1, by omega, by go_num, by go_num⟩
      case measure => simp [intOf]; omega
    · obtain rfl : j = n := by omega
      go_wp2
      go_ret
      exact ⟨rfl, rfl⟩
end Go.Proofs.YtoojnfdphjdocaaDoor
