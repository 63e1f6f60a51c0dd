/- The source of choices: each choice lies in its range; its block alone changes. -/
import Derived.Test.YtmgbbkglafnibaaApp
import Derived.Test.YtmgbbkglafnibaaInts
import Derived.Test.YtmgbbkglafnibaaOpenBytes
import Derived.StillTailTactics
import Derived.Deep.RegionHeld3
import Derived.Laws.Bits64b
namespace Go.Proofs.Ytmgbbkglafnibaa
open Go.RowKit Go.Deep
/-- the source's block, with at most N choices behind it -/
def Src (w : World) (p N : Nat) : Prop := ∃ (A : Option Addr) (c : Nat) (bs : List Int) (at_ : Nat) (sd : Int), w.heap[p]? = some (.cells #[.slice A bs.length c, .int .i64 (at_ : Int), .int .u64 sd] 90 (0, 0)) ∧ at_ ≤ N ∧ (0 ≤ sd ∧ sd ≤ 18446744073709551615) ∧ bs.length ≤ 1048576 ∧ (∀ x ∈ bs, U8 x) ∧ SV (.int .u8) w p A bs
theorem Src.lt {w : World} {p N : Nat} (h : Src w p N) : p < w.heap.size := by
  obtain ⟨A, c, bs, at_, sd, h1, _⟩ := h
  exact lt_of_block h1
theorem Src.keep {w w' : World} {p N : Nat} (h : Src w p N) (hb : ∀ k, k ≤ p → w'.heap[k]? = w.heap[k]?) : Src w' p N := by
  obtain ⟨A, c, bs, at_, sd, h1, h2, h3, h4, h5, h6⟩ := h
  exact ⟨A, c, bs, at_, sd, (hb p (Nat.le_refl _)).trans h1, h2, h3, h4, h5, h6.keep fun q hq => World.cell?_of_block (hb q.block (by omega))⟩
theorem Src.late {w w' : World} {p N : Nat} (h : Src w p N) (hb : Below w.heap.size w w') : Src w' p N := h.keep fun k hk => hb.block k (by have := h.lt; omega)
theorem Src.only {w w' : World} {p N lo hi : Nat} (h : Src w p N) (hb : Only lo hi w w') (hd : p < lo) : Src w' p N := h.keep fun k hk => hb.block k (by have := h.lt; omega) (by omega)
theorem Src.more {w : World} {p N N' : Nat} (h : Src w p N) (hN : N ≤ N') : Src w p N' := by
  obtain ⟨A, c, bs, at_, sd, h1, h2, h3⟩ := h
  exact ⟨A, c, bs, at_, sd, h1, Nat.le_trans h2 hN, h3⟩
theorem Src.drewN {w : World} {p N : Nat} (h : Src w p N) (n : Nat) : Src (w.drewN n) p N := h
theorem Src.drew {w : World} {p N : Nat} (h : Src w p N) : Src w.drew p N := h
theorem drewc {w : World} {a : Addr} {v : Value} (h : w.cell? a = some v) : w.drew.cell? a = some v := h
theorem wrapU_bd (x : Int) : 0 ≤ IntKind.u64.wrap x ∧ IntKind.u64.wrap x ≤ 18446744073709551615 := by simp only [IntKind.wrap, IntKind.bits, IntKind.signed]; simp; omega
theorem BI.only {w w' : World} {g t lo hi : Nat} {zs : List Int} (h : BI w g t zs) (hb : Only lo hi w w') (hd : g < lo ∨ hi ≤ g) : BI w' g t zs := (hb.block g h.lt hd).trans h
theorem Only.alloc {lo hi : Nat} {a w : World} (h : Only lo hi a w) (o : Obj) : Only lo hi a (w.alloc o) := h.trans (Only.of_below (gr_alloc (gr_refl w)))
theorem Only.setNew {lo hi : Nat} {a w : World} (h : Only lo hi a w) {q : Addr} (u : Value) (hq : a.heap.size ≤ q.block) : Only lo hi a (w.setCell q u) := ⟨h.os, h.tape, h.output, by simpa [World.setCell] using h.size, fun k hk hd => (Below.heap_setCell _ _ _ _ (by omega)).trans (h.block k hk hd)⟩
theorem Src.setNew {w : World} {p N : Nat} (h : Src w p N) {q : Addr} (u : Value) (hq : p < q.block) : Src (w.setCell q u) p N := h.keep fun k hk => Below.heap_setCell _ _ _ _ (by omega)
theorem Src.alloc {w : World} {p N : Nat} (h : Src w p N) (o : Obj) : Src (w.alloc o) p N := h.late (gr_alloc (gr_refl w))
theorem ret_box {P : Program} {fn : Func} {R : Ending → World → Prop} {a : Act} {w : World} {g t : Nat} {zs : List Int} {v : Value} (hB : BI w g t zs) (hd : a.defers = []) (hr : ∀ W, BI W g t zs → (results fn a.tmps).run P W = .ok v W) (hR : R (.returned v) w) : bodyPost P fn R .ret a w := ⟨hd, v, hr w hB, hR⟩
theorem BI.put_2 {w : World} {g t : Nat} {y0 y1 : Int} (h : BI w g t [y0, y1]) (x0 x1 : Int) : BI ((w.setCell ⟨g, 0, none⟩ (.int .i64 x0)).setCell ⟨g, 1, none⟩ (.int .i64 x1)) g t [x0, x1] := ((h.put 0 x0).put 1 x1)
theorem BI.put_4 {w : World} {g t : Nat} {y0 y1 y2 y3 : Int} (h : BI w g t [y0, y1, y2, y3]) (x0 x1 x2 x3 : Int) : BI ((((w.setCell ⟨g, 0, none⟩ (.int .i64 x0)).setCell ⟨g, 1, none⟩ (.int .i64 x1)).setCell ⟨g, 2, none⟩ (.int .i64 x2)).setCell ⟨g, 3, none⟩ (.int .i64 x3)) g t [x0, x1, x2, x3] := ((((h.put 0 x0).put 1 x1).put 2 x2).put 3 x3)
theorem BI.put_7 {w : World} {g t : Nat} {y0 y1 y2 y3 y4 y5 y6 : Int} (h : BI w g t [y0, y1, y2, y3, y4, y5, y6]) (x0 x1 x2 x3 x4 x5 x6 : Int) : BI (((((((w.setCell ⟨g, 0, none⟩ (.int .i64 x0)).setCell ⟨g, 1, none⟩ (.int .i64 x1)).setCell ⟨g, 2, none⟩ (.int .i64 x2)).setCell ⟨g, 3, none⟩ (.int .i64 x3)).setCell ⟨g, 4, none⟩ (.int .i64 x4)).setCell ⟨g, 5, none⟩ (.int .i64 x5)).setCell ⟨g, 6, none⟩ (.int .i64 x6)) g t [x0, x1, x2, x3, x4, x5, x6] := (((((((h.put 0 x0).put 1 x1).put 2 x2).put 3 x3).put 4 x4).put 5 x5).put 6 x6)
theorem Src.grown {w w' : World} {p N : Nat} (h : Src w p N) {row : Option Nat} (hg : w.grownBy w' row) (hr : ∀ k, row = some k → p < k) : Src w' p N := h.keep fun k hk => hg.block k (by have := h.lt; omega) (fun e => by have := hr k e.symm; omega)
theorem Only.grown {lo hi : Nat} {a w w' : World} (h : Only lo hi a w) {row : Option Nat} (hg : w.grownBy w' row) (hr : ∀ k, row = some k → a.heap.size ≤ k) : Only lo hi a w' := ⟨hg.os.trans h.os, hg.tape.trans h.tape, hg.output.trans h.output, Nat.le_trans h.size hg.size, fun k hk hd => (hg.block k (Nat.lt_of_lt_of_le hk h.size) (fun e => by have := hr k e.symm; omega)).trans (h.block k hk hd)⟩
theorem row_ge {A : Option Addr} {lo : Nat} (h : ∀ g, A = some ⟨g, 0, none⟩ → lo ≤ g) (hA : A = none ∨ ∃ g, A = some ⟨g, 0, none⟩) : ∀ k, A.map (·.block) = some k → lo ≤ k := by
  rcases hA with rfl | ⟨g, rfl⟩
  · intro k hk; cases hk
  · intro k hk; simp at hk; subst hk; exact h _ rfl
theorem RS.form {α : Type} {f : α → Value} {e : TypeId} {w : World} {lo hi c : Nat} {A : Option Addr} {xs : List α} (h : RS f e w lo hi A c xs) : (A = none ∨ ∃ g, A = some ⟨g, 0, none⟩) ∧ ∀ g, A = some ⟨g, 0, none⟩ → lo ≤ g ∧ g < w.heap.size := by
  rcases h with ⟨rfl, _⟩ | ⟨g, cur, rfl, h1, _, h3, _⟩
  · exact ⟨.inl rfl, fun g hg => by cases hg⟩
  · exact ⟨.inr ⟨g, rfl⟩, fun g' hg => by simp at hg; subst hg; exact ⟨h1, lt_of_block h3⟩⟩
theorem i64_of {x : Int} (h : -9223372036854775808 ≤ x ∧ x ≤ 9223372036854775807) : I64 x := h
theorem and255_bd {x : Int} (h : 0 ≤ x ∧ x ≤ 18446744073709551615) : 0 ≤ wrap64 (bits .and .u64 x 255) ∧ wrap64 (bits .and .u64 x 255) ≤ 255 := by
  obtain ⟨n, rfl⟩ := Int.eq_ofNat_of_zero_le h.1
  have h2 : (n : Int) ≤ 18446744073709551615 := h.2
  rw [show (255 : Int) = ((255 : Nat) : Int) from rfl, bits_and_u64_nat _ _ (by omega) (by omega)]
  have := Nat.and_le_right (n := n) (m := 255)
  unfold wrap64; omega
theorem shr_bd {x : Int} (h : 0 ≤ x ∧ x ≤ 18446744073709551615) : 0 ≤ x / 1099511627776 ∧ x / 1099511627776 ≤ 18446744073709551615 := by omega
theorem mod_bd {x n : Int} (h0 : 0 ≤ x) (h1 : x ≤ 65535) (hn : 1 < n) : 0 ≤ x % n ∧ x % n ≤ 65535 ∧ (1 < n → x % n < n) ∧ (n ≤ 1 → x % n = 0) := by
  have a := Int.emod_nonneg x (show n ≠ 0 by omega)
  have b := Int.emod_lt_of_pos x (show 0 < n by omega)
  refine ⟨a, ?_, fun _ => b, by omega⟩
  by_cases h : x < n
  · rw [Int.emod_eq_of_lt h0 h]; exact h1
  · omega
theorem Src.put {w : World} {p N : Nat} {A : Option Addr} {c : Nat} {bs : List Int} {at_ : Nat} {sd sd' : Int} (h1 : w.heap[p]? = some (.cells #[.slice A bs.length c, .int .i64 (at_ : Int), .int .u64 sd] 90 (0, 0))) (h2 : at_ ≤ N) (h3 : 0 ≤ sd' ∧ sd' ≤ 18446744073709551615) (h4 : bs.length ≤ 1048576) (h5 : ∀ x ∈ bs, U8 x) (h6 : SV (.int .u8) w p A bs) :
    Src ((w.setCell ⟨p, 1, none⟩ (.int .i64 ((at_ : Int) + 1))).setCell ⟨p, 2, none⟩ (.int .u64 sd')) p (N + 1) ∧ Only p (p + 1) w ((w.setCell ⟨p, 1, none⟩ (.int .i64 ((at_ : Int) + 1))).setCell ⟨p, 2, none⟩ (.int .u64 sd')) := by
  have ho : Only p (p + 1) w ((w.setCell ⟨p, 1, none⟩ (.int .i64 ((at_ : Int) + 1))).setCell ⟨p, 2, none⟩ (.int .u64 sd')) := ((Only.refl p (p + 1) w).setCell (p := ⟨p, 1, none⟩) (Nat.le_refl p) (Nat.lt_succ_self p) _).setCell (p := ⟨p, 2, none⟩) (Nat.le_refl p) (Nat.lt_succ_self p) _
  refine ⟨⟨A, c, bs, at_ + 1, sd', ?_, by omega, h3, h4, h5, h6.keep fun q hq => World.cell?_of_block (ho.block q.block (by have := lt_of_block h1; omega) (.inl hq))⟩, ho⟩
  rw [heap_setCell_same _ p 2 _ _ _ (heap_setCell_same w p 1 _ _ _ h1)]
  simp
set_option maxHeartbeats 1000000 in
theorem from_any (A : Option Addr) (c : Nat) (bs : List Int) (w : World) (hn : bs.length ≤ 1048576) (hq : ∀ x ∈ bs, U8 x) (h : SV (.int .u8) w w.heap.size A bs) : Calls Try.prog 60 #[.slice A bs.length c] w fun e w' => e = .returned (.pointer (some ⟨w.heap.size, 0, none⟩)) ∧ Src w' w.heap.size 0 ∧ Below w.heap.size w w' := by
  have H := Lib.hid h
  have HQ := Lib.hid hq
  clear h hq
  go_enter Try.func60, Try.ntmps60; go_wp2; go_ret
  have hb : Below w.heap.size w (w.alloc (.cells #[.slice A bs.length c, .int .i64 0, .int .u64 0] 90)) := gr_alloc (gr_refl w)
  exact ⟨rfl, ⟨A, c, bs, 0, 0, heap_alloc_new w _, Nat.le_refl _, ⟨Int.le_refl _, by decide⟩, hn, HQ.out, H.out.below hb⟩, hb⟩
set_option maxHeartbeats 8000000 in
set_option maxRecDepth 20000 in
theorem next_any (p N : Nat) (w : World) (hN : N ≤ 1000000) (h : Src w p N) : Calls Try.prog 82 #[.pointer (some ⟨p, 0, none⟩)] w fun e w' => ∃ x : Int, e = .returned (.int .i64 x) ∧ 0 ≤ x ∧ x ≤ 255 ∧ Src w' p (N + 1) ∧ Only p (p + 1) w w' := by
  obtain ⟨A, c, bs, at_, sd, h1, h2, h3, h4, h5, h6⟩ := h
  have H1 := Lib.hid h1
  have H6 := Lib.hid h6
  have H5 := Lib.hid h5
  have HC : ∃ n, bs.length = n := ⟨_, rfl⟩
  have c0 : w.cell? ⟨p, 0, none⟩ = some (.slice A bs.length c) := by rw [cell_of_row w p 0 _ _ _ h1]; rfl
  have c1 : w.cell? ⟨p, 1, none⟩ = some (.int .i64 (at_ : Int)) := by rw [cell_of_row w p 1 _ _ _ h1]; rfl
  have c2 : w.cell? ⟨p, 2, none⟩ = some (.int .u64 sd) := by rw [cell_of_row w p 2 _ _ _ h1]; rfl
  have f1 : w.frozen? ⟨p, 1, none⟩ = false := frozen_of_row _ _ _ _ _ h1
  have f2 : w.frozen? ⟨p, 2, none⟩ = false := frozen_of_row _ _ _ _ _ h1
  clear h1 h6 h5
  by_cases hlt : (at_ : Int) < bs.length
  · obtain ⟨b, hb⟩ := at_of_lt (xs := bs) (k := at_) (by omega)
    obtain ⟨q, off, rfl, hq, hcb⟩ := H6.out.at_ hb
    have hb8 : 0 ≤ b ∧ b ≤ 255 := H5.out b (List.mem_of_getElem? hb)
    have hqp : ¬ q = p := by omega
    have d1 : decide ((at_ : Int) < bs.length) = true := decide_eq_true hlt
    have d2 : decide ((at_ : Int) + 1 ≤ bs.length) = true := decide_eq_true (by omega)
    clear hb
    go_enter Try.func82, Try.ntmps82; go_wp2
    go_quiet (fail)
    go_wp2
    go_quiet (fail)
    go_wp2
    go_quiet (fail)
    go_wp2
    go_returns
    exact ⟨b, rfl, hb8.1, hb8.2, (Src.put (w := w.drewN _) H1.out h2 (wrapU_bd _) h4 H5.out H6.out).1.drewN _, (((Only.refl p (p + 1) w).drewN).trans (Src.put (w := w.drewN _) H1.out h2 (wrapU_bd _) h4 H5.out H6.out).2).drewN⟩
  · have d1 : decide ((at_ : Int) < bs.length) = false := decide_eq_false hlt
    have d2 : decide ((at_ : Int) + 1 ≤ bs.length) = false := decide_eq_false (by omega)
    go_enter Try.func82, Try.ntmps82; go_wp2
    go_quiet (fail)
    go_wp2
    go_quiet (fail)
    go_wp2
    go_returns
    exact ⟨_, rfl, (and255_bd (shr_bd (wrapU_bd _))).1, (and255_bd (shr_bd (wrapU_bd _))).2, (Src.put (w := w.drewN _) H1.out h2 (wrapU_bd _) h4 H5.out H6.out).1.drewN _, (((Only.refl p (p + 1) w).drewN).trans (Src.put (w := w.drewN _) H1.out h2 (wrapU_bd _) h4 H5.out H6.out).2).drewN⟩
set_option maxHeartbeats 4000000 in
theorem pick_any (p N : Nat) (n : Int) (w : World) (hN : N + 2 ≤ 1000000) (hn : I64 n) (h : Src w p N) : Calls Try.prog 74 #[.pointer (some ⟨p, 0, none⟩), .int .i64 n] w fun e w' => ∃ x : Int, e = .returned (.int .i64 x) ∧ 0 ≤ x ∧ x ≤ 65535 ∧ (1 < n → x < n) ∧ (n ≤ 1 → x = 0) ∧ Src w' p (N + 2) ∧ Only p (p + 1) w w' := by
  have H := Lib.hid h
  clear h
  have hn2 := I64.bd hn
  clear hn
  by_cases h1 : n ≤ 1
  · go_enter Try.func74, Try.ntmps74; go_wp2; go_returns; exact ⟨0, rfl, by omega, by omega, by omega, fun _ => rfl, H.out.more (by omega), Only.refl _ _ _⟩
  have d1 : decide (n ≤ 1) = false := decide_eq_false h1
  by_cases h2 : 200 < n
  · have d2 : decide (200 < n) = true := decide_eq_true h2
    go_enter Try.func74, Try.ntmps74; go_wp2_with (first | (go_at_call 82; (with_reducible refine (next_any p _ _ (by omega) H.out).mono ?_); rintro e w1 ⟨x1, rfl, hx1, hy1, hs, ho⟩; have HS1 := Lib.hid hs; have HO1 := Lib.hid ho; clear hs ho) | (go_at_call 82; (with_reducible refine (next_any p _ _ (by omega) HS1.out).mono ?_); rintro e w2 ⟨x2, rfl, hx2, hy2, hs, ho⟩; have HS2 := Lib.hid hs; have HO2 := Lib.hid ho; clear hs ho))
    go_returns
    obtain ⟨m0, m1, m2, m3⟩ := mod_bd (x := x1 * 256 + x2) (n := n) (by omega) (by omega) (by omega)
    exact ⟨_, rfl, m0, m1, m2, m3, HS2.out, HO1.out.trans HO2.out⟩
  · have d2 : decide (200 < n) = false := decide_eq_false h2
    go_enter Try.func74, Try.ntmps74; go_wp2_with (go_at_call 82; (with_reducible refine (next_any p _ _ (by omega) H.out).mono ?_); rintro e w1 ⟨x1, rfl, hx1, hy1, hs, ho⟩; have HS1 := Lib.hid hs; have HO1 := Lib.hid ho; clear hs ho)
    go_returns
    obtain ⟨m0, m1, m2, m3⟩ := mod_bd (x := x1) (n := n) (by omega) (by omega) (by omega)
    exact ⟨_, rfl, m0, m1, m2, m3, HS1.out.more (by omega), HO1.out⟩
set_option maxHeartbeats 4000000 in
theorem one_any (p N : Nat) (n : Int) (w : World) (hN : N + 2 ≤ 1000000) (hn : I64 n) (h : Src w p N) : Calls Try.prog 71 #[.pointer (some ⟨p, 0, none⟩), .int .i64 n] w fun e w' => ∃ b : Bool, e = .returned (.bool b) ∧ Src w' p (N + 2) ∧ Only p (p + 1) w w' := by
  have H := Lib.hid h
  have HN := Lib.hid hn
  clear h hn
  go_enter Try.func71, Try.ntmps71; go_wp2_with (go_at_call 74; (with_reducible refine (pick_any p _ _ _ (by omega) HN.out H.out).mono ?_); rintro e w1 ⟨x1, rfl, hx1, hy1, hm1, hn1, hs, ho⟩; have HS1 := Lib.hid hs; have HO1 := Lib.hid ho; clear hs ho)
  go_returns
  exact ⟨_, rfl, HS1.out, HO1.out⟩
end Go.Proofs.Ytmgbbkglafnibaa
