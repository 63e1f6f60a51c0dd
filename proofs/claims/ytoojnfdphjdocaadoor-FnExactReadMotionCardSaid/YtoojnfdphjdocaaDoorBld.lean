/- strings.Builder: copyCheck, WriteByte, WriteString at a builder that the call has made itself. -/
import Derived.Test.YtoojnfdphjdocaaDoorApp
import Derived.Lib.Builder
import Derived.Lib.AppendStr
import Derived.Lib.AppendIntMem
import Derived.Laws.Externs
import Derived.Shelf.Strings.Builder1
namespace Go.Proofs.YtoojnfdphjdocaaDoor
open Go.RowKit Go.Deep
theorem bldSize : (Tryd.prog.info? 44).map (·.size) = some 2 := by kernel_rfl
theorem bldLies : liesAt Tryd.prog Tryd.prog.depth 44 (2 / Tryd.prog.cellsOf 44) 0 44 1 = true := by kernel_rfl
theorem bldByte : (Tryd.prog.info? 5).map (fun i => (i.zero, i.size, i.bytes)) = some (some (.int .u8 0), 1, 1) := by kernel_rfl
set_option maxHeartbeats 2000000 in
set_option maxRecDepth 100000 in
theorem ccUsed_any (b : Nat) (w : World) (h0 : w.cell? ⟨b, 0, none⟩ = some (.pointer (some ⟨b, 0, none⟩))) : Calls Tryd.prog 38 #[.pointer (some ⟨b, 0, none⟩)] w fun e w' => e = .returned (.tuple #[]) ∧ w' = w := by
  obtain ⟨j, hj, _⟩ := Option.map_eq_some_iff.1 bldSize
  go_enter Tryd.func38, Tryd.ntmps38
  go_wp2
  rw [Lib.run_neq_ptr_same w _ Tryd.underlying41 hj]
  go_wp2
  go_end0
  exact ⟨rfl, rfl⟩
set_option maxHeartbeats 2000000 in
set_option maxRecDepth 100000 in
theorem ccFresh_any (b : Nat) (w : World) (h0 : w.cell? ⟨b, 0, none⟩ = some (.pointer none)) (hsh : w.shape? b = some (44, 2)) (hfz : w.frozen? ⟨b, 0, none⟩ = false) : Calls Tryd.prog 38 #[.pointer (some ⟨b, 0, none⟩)] w fun e w' => e = .returned (.tuple #[]) ∧ w' = w.setCell ⟨b, 0, none⟩ (.pointer (some ⟨b, 0, none⟩)) := by
  obtain ⟨j, hj, hjs⟩ := Option.map_eq_some_iff.1 bldSize
  go_enter Tryd.func38, Tryd.ntmps38
  go_wp2
  rw [Lib.run_to_unsafe w ⟨b, 0, none⟩ Tryd.underlying41 Tryd.underlying70 hj (by rw [hjs]; decide) hsh (Nat.zero_lt_succ 1)]
  simp only [Result.andThen]
  rw [Oper.upon_value]
  go_wp2
  rw [run_callFunc_extern Tryd.func47 (by kernel_rfl) (by kernel_rfl) (by kernel_rfl) (e := Extern.AbiNoEscape.same) (by kernel_rfl)]
  rw [Lib.run_noEscape]
  simp only [Result.andThen]
  rw [Oper.upon_value]
  go_wp2
  rw [Lib.run_from_unsafe w ⟨b, 0, none⟩ Tryd.underlying70 Tryd.underlying41 hj hsh bldLies]
  simp only [Result.andThen]
  rw [Oper.upon_value]
  go_wp2
  go_end0
  exact ⟨rfl, rfl⟩
/-- a builder of bytes -/
def IsB (w : World) (B b : Nat) (l : List UInt8) : Prop := Lib.IsBuilder 44 5 B b (Lib.byteCells l) w
theorem IsB.new (w : World) (B : Nat) (h : B ≤ w.heap.size) : IsB (w.alloc (.cells #[.pointer none, .slice none 0 0] 44)) B w.heap.size [] :=
  .inl ⟨h, .slice none 0 0, heap_alloc_new w _, World.ownsRow_nil _ _ _ _, by simp [Value.ownBlock]⟩
theorem IsB.late {w w' : World} {B b : Nat} {l : List UInt8} (h : IsB w B b l) (hb : Below w.heap.size w w') : IsB w' B b l := by
  have key : ∀ p, Lib.BuilderAt 44 5 B b p (Lib.byteCells l) w → Lib.BuilderAt 44 5 B b p (Lib.byteCells l) w' := by
    rintro p ⟨h1, v, h2, h3, h4⟩
    have hlt := (Array.getElem?_eq_some_iff.1 h2).1
    refine ⟨h1, v, (hb.block b hlt).trans h2, ⟨h3.1, ?_⟩, h4⟩
    rcases h3.2 with hn | ⟨g, cap, cur, hv, hbg, hgg, rest⟩
    · exact .inl hn
    · exact .inr ⟨g, cap, cur, hv, hbg, (hb.block g (Array.getElem?_eq_some_iff.1 hgg).1).trans hgg, rest⟩
  exact h.elim (fun x => .inl (key _ x)) (fun x => .inr (key _ x))
theorem cc_any (B b : Nat) (l : List UInt8) (w : World) (h : IsB w B b l) : Calls Tryd.prog 38 #[.pointer (some ⟨b, 0, none⟩)] w fun e w' => e = .returned (.tuple #[]) ∧ Lib.BuilderAt 44 5 B b (.pointer (some ⟨b, 0, none⟩)) (Lib.byteCells l) w' ∧ Below B w w' := by
  rcases h with h | h
  · refine (ccFresh_any b w h.cell0 h.shape h.frozen0).mono ?_
    rintro e w' ⟨rfl, rfl⟩
    exact ⟨rfl, h.used _, (Below.refl B w).setCell (p := ⟨b, 0, none⟩) h.1 _⟩
  · refine (ccUsed_any b w h.cell0).mono ?_
    rintro e w' ⟨rfl, rfl⟩
    exact ⟨rfl, h, Below.refl B _⟩
theorem row_not {w : World} {b : Nat} {v : Value} {p : Value} (hb : w.heap[b]? = some (.cells #[p, v] 44 (0, 0))) : w.cell? ⟨b, 1, none⟩ = some v ∧ w.cell? ⟨b, 0, none⟩ = some p ∧ w.frozen? ⟨b, 1, none⟩ = false ∧ b < w.heap.size :=
  ⟨by rw [Lib.cell_of_heap hb]; rfl, by rw [Lib.cell_of_heap hb]; rfl, Lib.frozen_of_heap hb 1, lt_of_block hb⟩
theorem own_ge {w : World} {B e n k : Nat} {v : Value} {xs : List Value} (h : w.ownsRow B e 1 v n xs) (hk : v.ownBlock = some k) : B ≤ k := by
  rcases h.2 with ⟨h8, _⟩ | ⟨g, cap, cur, h8, h9, _⟩
  · rw [h8] at hk; cases hk
  · rw [h8] at hk; simp [Value.ownBlock] at hk; omega
theorem slice_of_own {w : World} {B e n : Nat} {v : Value} {xs : List Value} (h : w.ownsRow B e 1 v n xs) : ∃ A c, v = .slice A n c := by
  rcases h.2 with ⟨rfl, h0⟩ | ⟨g, cap, cur, rfl, _⟩
  · exact ⟨none, 0, by rw [h0]⟩
  · exact ⟨_, cap, rfl⟩
set_option maxHeartbeats 4000000 in
set_option maxRecDepth 100000 in
theorem writeByte_any (B b : Nat) (l : List UInt8) (c : UInt8) (w : World) (h : IsB w B b l) (hl : l.length ≤ 1048576) (hBw : B ≤ w.heap.size) : Calls Tryd.prog 21 #[.pointer (some ⟨b, 0, none⟩), .int .u8 (c.toNat : Int)] w fun e w' => e = .returned .nilIface ∧ IsB w' B b (l ++ [c]) ∧ Below B w w' := by
  obtain ⟨i0, hi, hz0, hz1, hz2⟩ := info_parts bldByte
  have hlen : (Lib.byteCells l).length = l.length := by simp [Lib.byteCells]
  have HC := Lib.hid (cc_any B b l w h)
  clear h
  go_enter Tryd.func21, Tryd.ntmps21
  go_wp2_with fail
  go_at_call 38
  (with_reducible refine HC.out.mono ?_)
  rintro e w1 ⟨rfl, ⟨hB, v, hbk, hown, hne⟩, hb1⟩
  rw [hlen] at hown
  obtain ⟨c1, c0, f1, hlt⟩ := row_not hbk
  obtain ⟨A, q, rfl⟩ := slice_of_own hown
  have hsz := hb1.size
  have HB1 := Lib.hid hb1
  have HBK := Lib.hid hbk
  have HOWN := Lib.hid hown
  have HNE := Lib.hid hne
  clear hb1 hbk hown hne hlen
  go_wp2_with (at_builtin; refine wpList_append_own _ rfl _ _ 42 rfl B 5 i0 (.int .u8 0) 1 1 Tryd.underlying42 hi hz0 hz1 hz2 rfl (by decide) _ _ _ rfl (HOWN.out.alloc _) ⟨w1.heap.size, 0, none⟩ 1 1 [.int .u8 (c.toNat : Int)] rfl rfl (by intro j u hj; match j, hj with | 0, hj => simp at hj; subst hj; simp [Addr.add]) (by intro u hu; simp at hu; subst hu; rfl) (by unfold maxLen; omega) (by omega) (by simp; omega) ?_; intro v' w2 hown' hgrow _; have hb2 : w2.heap[b]? = some (.cells #[.pointer (some ⟨b, 0, none⟩), .slice A l.length q] 44 (0, 0)) := (by rw [hgrow.block b (by simp; omega) (fun e => HNE.out e.symm), Lib.alloc_old w1 _ b hlt]; exact HBK.out); obtain ⟨d1, d0, f2, hlt2⟩ := row_not hb2; have HPUT := Lib.hid (Lib.BuilderAt.put (bs' := Lib.byteCells (l ++ [c])) hB hb2 (by have h9 : Lib.byteCells (l ++ [c]) = Lib.byteCells l ++ [.int .u8 (c.toNat : Int)] := (by simp [Lib.byteCells]); rw [h9, List.length_append, show (Lib.byteCells l).length = l.length by simp [Lib.byteCells]]; exact hown') (by decide)); have HB2 := Lib.hid ((((Below.refl B w1).alloc (by omega) _).grown hgrow (by simp; omega) (fun k e => own_ge HOWN.out e)).setCell (p := ⟨b, 1, none⟩) hB v'); obtain ⟨A2, q2, rfl⟩ := slice_of_own hown'; clear hown' hgrow hb2)
  go_returns
  exact ⟨rfl, .inr HPUT.out, HB1.out.trans HB2.out⟩
set_option maxHeartbeats 4000000 in
set_option maxRecDepth 100000 in
theorem writeString_any (B b : Nat) (l m : List UInt8) (w : World) (h : IsB w B b l) (hl : l.length ≤ 1048576) (hm : m.length ≤ 1048576) (hBw : B ≤ w.heap.size) : Calls Tryd.prog 19 #[.pointer (some ⟨b, 0, none⟩), .string ⟨m.toArray⟩] w fun e w' => e = .returned (.tuple #[.int .i64 (m.length : Int), .nilIface]) ∧ IsB w' B b (l ++ m) ∧ Below B w w' := by
  obtain ⟨i0, hi, hz0, hz1, hz2⟩ := info_parts bldByte
  have hlen : (Lib.byteCells l).length = l.length := by simp [Lib.byteCells]
  have hms : (⟨m.toArray⟩ : ByteArray).size = m.length := by simp [ByteArray.size]
  have HMS := Lib.hid hms
  have HC := Lib.hid (cc_any B b l w h)
  clear h
  obtain ⟨s, hs⟩ : ∃ s : ByteArray, ⟨m.toArray⟩ = s := ⟨_, rfl⟩
  have HS := Lib.hid hs
  have hs2 : s.size = m.length := hs ▸ hms
  rw [hs]
  clear hs hms
  have HS2 := Lib.hid hs2
  have hs3 : s.size ≤ 1048576 := by omega
  clear hs2
  go_enter Tryd.func19, Tryd.ntmps19
  go_wp2_with fail
  go_at_call 38
  (with_reducible refine HC.out.mono ?_)
  rintro e w1 ⟨rfl, ⟨hB, v, hbk, hown, hne⟩, hb1⟩
  rw [hlen] at hown
  obtain ⟨c1, c0, f1, hlt⟩ := row_not hbk
  obtain ⟨A, q, rfl⟩ := slice_of_own hown
  have hsz := hb1.size
  have HB1 := Lib.hid hb1
  have HBK := Lib.hid hbk
  have HOWN := Lib.hid hown
  have HNE := Lib.hid hne
  clear hb1 hbk hown hne hlen
  go_wp2_with (at_builtin; refine Lib.wpList_append_own_string _ rfl _ _ 42 9 rfl B 5 i0 Tryd.underlying42 Tryd.underlying9 hi hz0 hz1 hz2 _ _ _ rfl HOWN.out s rfl (by unfold maxLen; omega) (by omega) (by omega) ?_; intro v' w2 hown' hgrow _; have hb2 : w2.heap[b]? = some (.cells #[.pointer (some ⟨b, 0, none⟩), .slice A l.length q] 44 (0, 0)) := (by rw [hgrow.block b hlt (fun e => HNE.out e.symm)]; exact HBK.out); obtain ⟨d1, d0, f2, hlt2⟩ := row_not hb2; have HPUT := Lib.hid (Lib.BuilderAt.put (bs' := Lib.byteCells (l ++ m)) hB hb2 (by have h9 : Lib.byteCells (l ++ m) = Lib.byteCells l ++ Lib.strCells s := (by rw [← HS.out, Lib.strCells_toArray]; simp [Lib.byteCells]); rw [h9, List.length_append, Lib.strCells_length, show (Lib.byteCells l).length = l.length by simp [Lib.byteCells]]; exact hown') (by decide)); have HB2 := Lib.hid (((Below.refl B w1).grown hgrow (by omega) (fun k e => own_ge HOWN.out e)).setCell (p := ⟨b, 1, none⟩) hB v'); obtain ⟨A2, q2, rfl⟩ := slice_of_own hown'; clear hown' hgrow hb2)
  go_returns
  exact ⟨by first | rfl | (rw [HS2.out]; rfl), .inr HPUT.out, HB1.out.trans HB2.out⟩
end Go.Proofs.YtoojnfdphjdocaaDoor
