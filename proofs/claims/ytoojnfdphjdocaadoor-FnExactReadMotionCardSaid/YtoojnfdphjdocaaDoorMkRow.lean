/- A row of bytes that a string's conversion laid (marked behind its end), and append of one byte on it. -/
import Derived.Test.YtoojnfdphjdocaaDoorDec
import Derived.Lib.ConvBytes
namespace Go.Proofs.YtoojnfdphjdocaaDoor
open Go.RowKit Go.Deep
/-- a row of bytes whose mark lies behind its end -/
def RZ (e : TypeId) (w : World) (lo : Nat) (A : Option Addr) (c : Nat) (xs : List UInt8) : Prop :=
  ∃ g cur fz, A = some ⟨g, 0, none⟩ ∧ lo ≤ g ∧ w.heap[g]? = some (.cells cur e fz) ∧ (fz.2 = 0 ∨ cur.size ≤ fz.1) ∧ xs.length ≤ c ∧ c ≤ maxLen ∧ cur.size = c ∧ cur.toList.take xs.length = xs.map bF
theorem RZ.late {e : TypeId} {w w' : World} {lo c : Nat} {A : Option Addr} {xs : List UInt8} (h : RZ e w lo A c xs) (hb : Below w.heap.size w w') : RZ e w' lo A c xs := by
  obtain ⟨g, cur, fz, h0, h1, h2, h3⟩ := h
  exact ⟨g, cur, fz, h0, h1, (hb.block g (lt_of_block h2)).trans h2, h3⟩
theorem RZ.cellAt {e : TypeId} {w : World} {lo c : Nat} {A : Option Addr} {xs : List UInt8} (h : RZ e w lo A c xs) : ∃ g, A = some ⟨g, 0, none⟩ ∧ lo ≤ g ∧ ∀ j u, (xs.map bF)[j]? = some u → w.cell? ⟨g, j, none⟩ = some u := by
  obtain ⟨g, cur, fz, h0, h1, h2, _, _, _, _, h7⟩ := h
  refine ⟨g, h0, h1, fun j u hu => ?_⟩
  rw [cell_of_row w g j cur e fz h2]
  rw [← h7, List.getElem?_take] at hu
  split at hu
  · simpa using hu
  · cases hu
theorem RZ.wide {e : TypeId} {w : World} {lo lo' c : Nat} {A : Option Addr} {xs : List UInt8} (h : RZ e w lo A c xs) (hl : lo' ≤ lo) : RZ e w lo' A c xs := by
  obtain ⟨g, cur, fz, h0, h1, h2⟩ := h
  exact ⟨g, cur, fz, h0, Nat.le_trans hl h1, h2⟩
theorem RZ.lt {e : TypeId} {w : World} {lo c : Nat} {A : Option Addr} {xs : List UInt8} (h : RZ e w lo A c xs) : ∃ g, A = some ⟨g, 0, none⟩ ∧ lo ≤ g ∧ g < w.heap.size := by
  obtain ⟨g, cur, fz, h0, h1, h2, _⟩ := h
  exact ⟨g, h0, h1, lt_of_block h2⟩
theorem RZ.text {P : Program} {w : World} {e : TypeId} {lo c : Nat} {A : Option Addr} {l : List UInt8} (h : RZ e w lo A c l) (src dst el : TypeId) (hs : P.underlying src = some (.slice el)) (he : P.underlying el = some (.int .u8)) (hd : P.underlying dst = some .string) :
    (convert src dst (.slice A l.length c)).run P w = .ok (.string (strB l)) w := by
  obtain ⟨g, rfl, _, hc⟩ := h.cellAt
  have hb : Lib.Bytes w g 0 (strB l) := by
    intro i hi'
    have hl : i < l.length := by simpa [strB, ByteArray.size] using hi'
    have h1 := hc i (bF l[i]) (by simp [hl])
    rw [Nat.zero_add]
    exact h1
  have h2 := Lib.run_convert_whole (P := P) w src el dst hs he hd g 0 (strB l) hb c
  rw [show (strB l).size = l.length by simp [strB, ByteArray.size]] at h2
  exact h2
/-- the conversion's row -/
theorem RZ.ofString (w : World) (e : TypeId) (l : List UInt8) (hl : l.length ≤ 1048576) : RZ e (Lib.bytesWorld w e (strB l)) w.heap.size (some ⟨w.heap.size, 0, none⟩) (grownCap w (strB l).size 0 e) l := by
  have hsz : (strB l).size = l.length := strB_size l
  have hge := grownCap_ge w (strB l).size 0 e
  have hcm := grownCap_le_maxLen w (strB l).size 0 e (by rw [hsz]; unfold maxLen; omega)
  have hcs : (Lib.bytesCells w e (strB l)).size = grownCap w (strB l).size 0 e := by
    simp only [Lib.bytesCells, Array.size_append, Array.size_map, Array.size_replicate]
    have : (strB l).data.size = (strB l).size := rfl
    omega
  refine ⟨w.heap.size, _, _, rfl, Nat.le_refl _, Lib.bytesWorld_at_new w e (strB l), .inr (Nat.le_refl _), by omega, hcm, hcs, ?_⟩
  simp [Lib.bytesCells, strB, bF]
theorem bytesWorld_below (w : World) (e : TypeId) (s : ByteArray) : Below w.heap.size w (Lib.bytesWorld w e s) := ⟨rfl, rfl, rfl, by rw [Lib.bytesWorld_size]; omega, fun k hk => Lib.bytesWorld_at_old w e s k hk⟩
theorem run_append_roomZ {P : Program} (w : World) (t ty e : TypeId) (i : TypeInfo) (ht : P.underlying t = some (.slice e)) (hi : P.info? e = some i) (hs : i.size = 1)
    (g n cap : Nat) (cur : Array Value) (fz : Nat × Nat) (hg : w.heap[g]? = some (.cells cur e fz)) (hz : fz.2 = 0 ∨ cur.size ≤ fz.1)
    (a : Addr) (c : Nat) (v : Value) (hv : w.cell? a = some v) (h1 : v.oneCell' = true) (hroom : n + 1 ≤ cap) (hfit : n + 1 ≤ cur.size) :
    (Builtin.append_ #[t, t] ty #[.slice (some ⟨g, 0, none⟩) n cap, .slice (some a) 1 c]).run P w = .ok (.slice (some ⟨g, 0, none⟩) (n + 1) cap) (w.setRow g (cur.setIfInBounds n v)) := by
  have ha0 : a.add 0 = a := by unfold Addr.add; split <;> simp_all
  have hf := run_firstCells_some (P := P) w 1 1 a 1 c [v] rfl (by intro j u hj; match j, hj with | 0, hj => simp at hj; subst hj; rw [ha0]; exact hv | j + 1, hj => simp at hj)
  have hcell : w.cell? ⟨g, n, none⟩ = some cur[n] := by simp [World.cell?, hg, show n < cur.size by omega]
  have hfro : w.frozen? ⟨g, n, none⟩ = false := by
    obtain ⟨lo, hi'⟩ := fz
    simp only [World.frozen?, hg, Bool.and_eq_false_iff, decide_eq_false_iff_not]
    simp only at hz
    rcases hz with hz | hz
    · right; omega
    · left; omega
  have hst : (store ⟨g, n, none⟩ v).run P w = .ok () (w.setRow g (cur.setIfInBounds n v)) := by
    rw [run_store P w _ v _ h1, hcell]
    simp [hfro, setCell_eq_setRow w g n cur e fz v hg]
  have hadd : (⟨g, n, none⟩ : Addr).add 0 = ⟨g, n, none⟩ := by unfold Addr.add; split <;> simp_all
  simp [Builtin.append_, run_underlying ht, sizeOf, typeInfo, hi, hs, Builtin.lenOf, hroom, hf, Addr.add_lit, storeCells, hadd, hst]
theorem run_appZ {P : Program} (w : World) (t ty e : TypeId) (i : TypeInfo) (z : Value) (ht : P.underlying t = some (.slice e)) (hi : P.info? e = some i) (hz : i.zero = some z) (hs : i.size = 1) (hby : i.bytes = 1) (hzs : z.cells.size = 1)
    (lo : Nat) (A : Option Addr) (n c : Nat) (xs : List UInt8) (hn : xs.length = n) (hr : RZ e w lo A c xs) (a : Addr) (c' : Nat) (y : UInt8) (hv : w.cell? a = some (bF y)) (hle : n ≤ 1048576) (hlo : lo ≤ w.heap.size) :
    ∃ A2 c2 w', (Builtin.append_ #[t, t] ty #[.slice A n c, .slice (some a) 1 c']).run P w = .ok (.slice A2 (n + 1) c2) w' ∧ RZ e w' lo A2 c2 (xs ++ [y]) ∧ w.grownBy w' (A.map (·.block)) := by
  subst hn
  obtain ⟨g0, hA, hg1, hcells⟩ := hr.cellAt
  obtain ⟨g, cur, fz, rfl, hlg, hg, hfz, hxc, hcm, hcs, htk⟩ := hr
  simp only [Option.some.injEq, Addr.mk.injEq, and_true] at hA
  subst hA
  have ha0 : a.add 0 = a := by unfold Addr.add; split <;> simp_all
  by_cases hroom : xs.length + 1 ≤ c
  · have h2 := run_append_roomZ (P := P) w t ty e i ht hi hs g xs.length c cur fz hg hfz a c' (bF y) hv rfl hroom (by omega)
    refine ⟨_, _, _, h2, ⟨g, _, fz, rfl, hlg, setRow_heap w g cur _ e _ hg, by simpa using hfz, by simp; omega, hcm, by simpa using hcs, ?_⟩, ⟨rfl, rfl, rfl, by simp, fun k _ hk => setRow_other w g k _ (fun e => hk (by simp [e]))⟩⟩
    rw [Array.toList_setIfInBounds, List.length_append, List.length_singleton, List.map_append, List.map_singleton, ← htk]
    have hlt : xs.length < cur.toList.length := by simp; omega
    rw [List.take_add_one, List.take_set_of_le (Nat.le_refl _)]
    rw [List.getElem?_set_self hlt]
    rfl
  · have h2 := run_append_grow (P := P) w t ty e i z ht hi hz ⟨g, 0, none⟩ xs.length c (xs.map bF) (by simp [hs]) (by intro j v hj; have h9 := hcells j v hj; have hadd : (⟨g, 0, none⟩ : Addr).add j = ⟨g, j, none⟩ := (by unfold Addr.add; split <;> simp_all); rw [hadd]; exact h9) a 1 c' [bF y] (by simp [hs])
      (by intro j u hj; match j, hj with | 0, hj => simp at hj; subst hj; rw [ha0]; exact hv | j + 1, hj => simp at hj) (by omega) (by omega) (by rw [hby]; exact growslice_fits (by omega) (by omega))
    have hge := grownCap_ge w (xs.length + 1) c e
    have hcm2 := grownCap_le_maxLen w (xs.length + 1) c e (by unfold maxLen; omega)
    refine ⟨_, _, _, h2, ⟨w.heap.size, _, (0, 0), rfl, hlo, heap_alloc_new w.drew _, .inl rfl, by simp; omega, hcm2, ?_, ?_⟩, ⟨rfl, rfl, rfl, by simp, fun k hk _ => heap_alloc_old w.drew _ hk⟩⟩
    · simp only [Array.size_append, List.size_toArray, size_zeroCells, hzs, List.length_map, List.length_singleton]
      omega
    · simp only [Array.toList_append, List.append_assoc]
      rw [← List.append_assoc]
      have : (xs.map bF ++ [bF y]).length = (xs ++ [y]).length := by simp
      rw [← this, List.take_left]
      simp
theorem wpList_appZ {P : Program} {ops : Array Oper} {rest : List Oper} {o : Oper} {a : Act} {w : World} {Q : Exit → Act → World → Prop} (hgd : o.guard = none) (s x : Operand) (t : TypeId)
    (ho : o.op = .call { callee := .builtin .append, args := #[s, x], argTypes := #[t, t] })
    (lo : Nat) (e : TypeId) (i : TypeInfo) (z : Value) (ht : P.underlying t = some (.slice e)) (hi : P.info? e = some i) (hz : i.zero = some z) (hsz : i.size = 1) (hby : i.bytes = 1) (hzs : z.cells.size = 1)
    (A : Option Addr) (n c : Nat) (xs : List UInt8) (hs : a.eval s = .slice A n c) (hn : xs.length = n) (hr : RZ e w lo A c xs) (ad : Addr) (c' : Nat) (y : UInt8) (hx : a.eval x = .slice (some ad) 1 c') (hv : w.cell? ad = some (bF y)) (hle : n ≤ 1048576) (hlo : lo ≤ w.heap.size)
    (h : ∀ A2 c2 w', RZ e w' lo A2 c2 (xs ++ [y]) → w.grownBy w' (A.map (·.block)) → wpList P ops Q rest (a.put o.dst (.slice A2 (n + 1) c2)) w') : wpList P ops Q (o :: rest) a w :=
  wpList_plain hgd fun _ hK => by
    obtain ⟨A2, c2, w', h1, h2, h3⟩ := run_appZ (P := P) w t o.type e i z ht hi hz hsz hby hzs lo A n c xs hn hr ad c' y hv hle hlo
    unfold Oper.wp execOp
    simp only [ho, resolve, invoke, builtin, Sem.run_bind, Sem.run_pure, Result.andThen_ok, List.map_toArray, List.map_cons, List.map_nil, hs, hx, h1]
    exact hK _ _ (h A2 c2 w' h2 h3)
end Go.Proofs.YtoojnfdphjdocaaDoor
