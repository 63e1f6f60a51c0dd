/- Slices of lifts: copies, comparisons. -/
import Derived.Test.YtoglmeiffidcbaaLiftB
namespace Go.Proofs.Ytoglmeiffidcbaa
open Go.RowKit Go.Deep
theorem set9_ne (zs : List Value) (o : Nat) (y0 y1 y2 y3 y4 y5 y6 y7 y8 : Value) {i : Nat} (h : i < o ∨ o + 9 ≤ i) : (((((((((zs.set (o) y0).set (o + 1) y1).set (o + 2) y2).set (o + 3) y3).set (o + 4) y4).set (o + 5) y5).set (o + 6) y6).set (o + 7) y7).set (o + 8) y8)[i]? = zs[i]? := by
  simp only [List.getElem?_set]
  repeat rw [if_neg (by omega)]
theorem set9_eq (zs : List Value) (o : Nat) (y0 y1 y2 y3 y4 y5 y6 y7 y8 : Value) (hl : o + 9 ≤ zs.length) {i : Nat} {u : Value} (h : [y0, y1, y2, y3, y4, y5, y6, y7, y8][i]? = some u) : (((((((((zs.set (o) y0).set (o + 1) y1).set (o + 2) y2).set (o + 3) y3).set (o + 4) y4).set (o + 5) y5).set (o + 6) y6).set (o + 7) y7).set (o + 8) y8)[o + i]? = some u := by
  match i, h with
  | 0, h => (simp only [List.getElem?_cons_zero, Option.some.injEq] at h; subst h; rw [List.getElem?_set_ne (by omega)]; rw [List.getElem?_set_ne (by omega)]; rw [List.getElem?_set_ne (by omega)]; rw [List.getElem?_set_ne (by omega)]; rw [List.getElem?_set_ne (by omega)]; rw [List.getElem?_set_ne (by omega)]; rw [List.getElem?_set_ne (by omega)]; rw [List.getElem?_set_ne (by omega)]; exact List.getElem?_set_self (by first | omega | (simp only [List.length_set]; omega)))
  | 1, h => (simp only [List.getElem?_cons_succ, List.getElem?_cons_zero, Option.some.injEq] at h; subst h; rw [List.getElem?_set_ne (by omega)]; rw [List.getElem?_set_ne (by omega)]; rw [List.getElem?_set_ne (by omega)]; rw [List.getElem?_set_ne (by omega)]; rw [List.getElem?_set_ne (by omega)]; rw [List.getElem?_set_ne (by omega)]; rw [List.getElem?_set_ne (by omega)]; exact List.getElem?_set_self (by first | omega | (simp only [List.length_set]; omega)))
  | 2, h => (simp only [List.getElem?_cons_succ, List.getElem?_cons_zero, Option.some.injEq] at h; subst h; rw [List.getElem?_set_ne (by omega)]; rw [List.getElem?_set_ne (by omega)]; rw [List.getElem?_set_ne (by omega)]; rw [List.getElem?_set_ne (by omega)]; rw [List.getElem?_set_ne (by omega)]; rw [List.getElem?_set_ne (by omega)]; exact List.getElem?_set_self (by first | omega | (simp only [List.length_set]; omega)))
  | 3, h => (simp only [List.getElem?_cons_succ, List.getElem?_cons_zero, Option.some.injEq] at h; subst h; rw [List.getElem?_set_ne (by omega)]; rw [List.getElem?_set_ne (by omega)]; rw [List.getElem?_set_ne (by omega)]; rw [List.getElem?_set_ne (by omega)]; rw [List.getElem?_set_ne (by omega)]; exact List.getElem?_set_self (by first | omega | (simp only [List.length_set]; omega)))
  | 4, h => (simp only [List.getElem?_cons_succ, List.getElem?_cons_zero, Option.some.injEq] at h; subst h; rw [List.getElem?_set_ne (by omega)]; rw [List.getElem?_set_ne (by omega)]; rw [List.getElem?_set_ne (by omega)]; rw [List.getElem?_set_ne (by omega)]; exact List.getElem?_set_self (by first | omega | (simp only [List.length_set]; omega)))
  | 5, h => (simp only [List.getElem?_cons_succ, List.getElem?_cons_zero, Option.some.injEq] at h; subst h; rw [List.getElem?_set_ne (by omega)]; rw [List.getElem?_set_ne (by omega)]; rw [List.getElem?_set_ne (by omega)]; exact List.getElem?_set_self (by first | omega | (simp only [List.length_set]; omega)))
  | 6, h => (simp only [List.getElem?_cons_succ, List.getElem?_cons_zero, Option.some.injEq] at h; subst h; rw [List.getElem?_set_ne (by omega)]; rw [List.getElem?_set_ne (by omega)]; exact List.getElem?_set_self (by first | omega | (simp only [List.length_set]; omega)))
  | 7, h => (simp only [List.getElem?_cons_succ, List.getElem?_cons_zero, Option.some.injEq] at h; subst h; rw [List.getElem?_set_ne (by omega)]; exact List.getElem?_set_self (by first | omega | (simp only [List.length_set]; omega)))
  | 8, h => (simp only [List.getElem?_cons_succ, List.getElem?_cons_zero, Option.some.injEq] at h; subst h; exact List.getElem?_set_self (by first | omega | (simp only [List.length_set]; omega)))
  | i + 9, h => simp at h
/-- the first k lifts are laid -/
def HL (w : World) (g n : Nat) (ls : List Lf) (k : Nat) : Prop := ∃ zs, BV (fun v : Value => v) w g 70 zs ∧ zs.length = n * 9 ∧ ∀ j x, j < k → ls[j]? = some x → ∃ A c, (∀ i u, (cellsL x A c)[i]? = some u → zs[j * 9 + i]? = some u) ∧ RS (.int .i64) 2 w (g + 1) w.heap.size A c x.xs
theorem HL.lv {w : World} {g n : Nat} {ls : List Lf} (h : HL w g n ls n) (hn : ls.length = n) : LV w w.heap.size (some ⟨g, 0, none⟩) ls := by
  intro hp
  obtain ⟨zs, h1, h2, h3⟩ := h
  refine ⟨g, 0, rfl, h1.lt, fun j x hx => ?_⟩
  have hj := (List.getElem?_eq_some_iff.1 hx).1
  obtain ⟨A, c, h4, h5⟩ := h3 j x (by omega) hx
  exact ⟨A, c, Cl.of fun i u hu => by rw [Nat.zero_add]; exact h1.cell (h4 i u hu), h5.sv⟩
theorem HL.late {w w' : World} {g n k : Nat} {ls : List Lf} (h : HL w g n ls k) (hb : Below w.heap.size w w') : HL w' g n ls k := by
  obtain ⟨zs, h1, h2, h3⟩ := h
  refine ⟨zs, h1.late hb, h2, fun j x hj hx => ?_⟩
  obtain ⟨A, c, h4, h5⟩ := h3 j x hj hx
  exact ⟨A, c, h4, (h5.late hb).wide (Nat.le_refl _) hb.size⟩
theorem HL.put {w : World} {g n k q : Nat} {ls : List Lf} {x : Lf} (h : HL w g n ls k) (hk : k < n) (hx : ls[k]? = some x) (hq : BV (.int .i64) w q 2 x.xs) (hgq : g < q) (hm : x.xs.length ≤ maxLen) : HL (((((((((w.setCell ⟨g, k * 9, none⟩ (.string x.nm)).setCell ⟨g, k * 9 + 1, none⟩ (.int .i64 x.v0)).setCell ⟨g, k * 9 + 2, none⟩ (.int .i64 x.v1)).setCell ⟨g, k * 9 + 3, none⟩ (.int .i64 x.v2)).setCell ⟨g, k * 9 + 4, none⟩ (.int .i64 x.v3)).setCell ⟨g, k * 9 + 5, none⟩ (.int .i64 x.v4)).setCell ⟨g, k * 9 + 6, none⟩ (.int .i64 x.v5)).setCell ⟨g, k * 9 + 7, none⟩ (.int .i64 x.v6)).setCell ⟨g, k * 9 + 8, none⟩ (.slice (some ⟨q, 0, none⟩) x.xs.length x.xs.length)) g n ls (k + 1) := by
  obtain ⟨zs, h1, h2, h3⟩ := h
  have hsz : (((((((((w.setCell ⟨g, k * 9, none⟩ (.string x.nm)).setCell ⟨g, k * 9 + 1, none⟩ (.int .i64 x.v0)).setCell ⟨g, k * 9 + 2, none⟩ (.int .i64 x.v1)).setCell ⟨g, k * 9 + 3, none⟩ (.int .i64 x.v2)).setCell ⟨g, k * 9 + 4, none⟩ (.int .i64 x.v3)).setCell ⟨g, k * 9 + 5, none⟩ (.int .i64 x.v4)).setCell ⟨g, k * 9 + 6, none⟩ (.int .i64 x.v5)).setCell ⟨g, k * 9 + 7, none⟩ (.int .i64 x.v6)).setCell ⟨g, k * 9 + 8, none⟩ (.slice (some ⟨q, 0, none⟩) x.xs.length x.xs.length)).heap.size = w.heap.size := by simp
  have hqr := RS.of_bv hq (show g + 1 ≤ q by omega) hq.lt hm
  refine ⟨(((((((((zs.set (k * 9) (.string x.nm)).set (k * 9 + 1) (.int .i64 x.v0)).set (k * 9 + 2) (.int .i64 x.v1)).set (k * 9 + 3) (.int .i64 x.v2)).set (k * 9 + 4) (.int .i64 x.v3)).set (k * 9 + 5) (.int .i64 x.v4)).set (k * 9 + 6) (.int .i64 x.v5)).set (k * 9 + 7) (.int .i64 x.v6)).set (k * 9 + 8) (.slice (some ⟨q, 0, none⟩) x.xs.length x.xs.length)), (((((((((h1.put (k * 9) (.string x.nm)).put (k * 9 + 1) (.int .i64 x.v0)).put (k * 9 + 2) (.int .i64 x.v1)).put (k * 9 + 3) (.int .i64 x.v2)).put (k * 9 + 4) (.int .i64 x.v3)).put (k * 9 + 5) (.int .i64 x.v4)).put (k * 9 + 6) (.int .i64 x.v5)).put (k * 9 + 7) (.int .i64 x.v6)).put (k * 9 + 8) (.slice (some ⟨q, 0, none⟩) x.xs.length x.xs.length)), by simp only [List.length_set]; exact h2, fun j y hj hy => ?_⟩
  rw [hsz]
  rcases Nat.lt_or_ge j k with h8 | h8
  · obtain ⟨A, c, h4, h5⟩ := h3 j y h8 hy
    have hne : ∀ g', A = some ⟨g', 0, none⟩ → g' ≠ g := fun g' hg' => by have := h5.ge' hg'; omega
    refine ⟨A, c, fun i u hu => ?_, (RS.far (RS.far (RS.far (RS.far (RS.far (RS.far (RS.far (RS.far (RS.far h5 (p := ⟨g, k * 9, none⟩) hne _) (p := ⟨g, k * 9 + 1, none⟩) hne _) (p := ⟨g, k * 9 + 2, none⟩) hne _) (p := ⟨g, k * 9 + 3, none⟩) hne _) (p := ⟨g, k * 9 + 4, none⟩) hne _) (p := ⟨g, k * 9 + 5, none⟩) hne _) (p := ⟨g, k * 9 + 6, none⟩) hne _) (p := ⟨g, k * 9 + 7, none⟩) hne _) (p := ⟨g, k * 9 + 8, none⟩) hne _)⟩
    have hi : i < 9 := by have := (List.getElem?_eq_some_iff.1 hu).1; simpa [cellsL] using this
    rw [set9_ne zs (k * 9) _ _ _ _ _ _ _ _ _ (by omega)]
    exact h4 i u hu
  · obtain rfl : j = k := by omega
    rw [hx] at hy
    cases hy
    refine ⟨some ⟨q, 0, none⟩, x.xs.length, fun i u hu => set9_eq zs (j * 9) _ _ _ _ _ _ _ _ _ (by omega) hu, (RS.far (RS.far (RS.far (RS.far (RS.far (RS.far (RS.far (RS.far (RS.far hqr (p := ⟨g, j * 9, none⟩) (fun g' hg' => by simp only [Option.some.injEq, Addr.mk.injEq, and_true] at hg'; simp only; omega) _) (p := ⟨g, j * 9 + 1, none⟩) (fun g' hg' => by simp only [Option.some.injEq, Addr.mk.injEq, and_true] at hg'; simp only; omega) _) (p := ⟨g, j * 9 + 2, none⟩) (fun g' hg' => by simp only [Option.some.injEq, Addr.mk.injEq, and_true] at hg'; simp only; omega) _) (p := ⟨g, j * 9 + 3, none⟩) (fun g' hg' => by simp only [Option.some.injEq, Addr.mk.injEq, and_true] at hg'; simp only; omega) _) (p := ⟨g, j * 9 + 4, none⟩) (fun g' hg' => by simp only [Option.some.injEq, Addr.mk.injEq, and_true] at hg'; simp only; omega) _) (p := ⟨g, j * 9 + 5, none⟩) (fun g' hg' => by simp only [Option.some.injEq, Addr.mk.injEq, and_true] at hg'; simp only; omega) _) (p := ⟨g, j * 9 + 6, none⟩) (fun g' hg' => by simp only [Option.some.injEq, Addr.mk.injEq, and_true] at hg'; simp only; omega) _) (p := ⟨g, j * 9 + 7, none⟩) (fun g' hg' => by simp only [Option.some.injEq, Addr.mk.injEq, and_true] at hg'; simp only; omega) _) (p := ⟨g, j * 9 + 8, none⟩) (fun g' hg' => by simp only [Option.some.injEq, Addr.mk.injEq, and_true] at hg'; simp only; omega) _)⟩
theorem infoLift : (Try.prog.info? 70).map (fun i => (i.zero, i.size, i.bytes)) = some (some (.agg #[.string ⟨#[]⟩, .int .i64 0, .int .i64 0, .int .i64 0, .int .i64 0, .int .i64 0, .int .i64 0, .int .i64 0, .slice none 0 0]), 9, 96) := by kernel_rfl
set_option maxHeartbeats 8000000 in
set_option maxRecDepth 20000 in
theorem toLiftS_any (A : Option Addr) (c : Nat) (ls : List Lf) (w : World) (hz : SizesL ls) (h : LV w w.heap.size A ls) : Calls Try.prog 35 #[.slice A ls.length c] w fun e w' => e = .returned (.slice (some ⟨w.heap.size, 0, none⟩) ls.length ls.length) ∧ LV w' w'.heap.size (some ⟨w.heap.size, 0, none⟩) ls ∧ Below w.heap.size w w' := by
  obtain ⟨hn, hsz⟩ := hz
  have HSZ := Lib.hid hsz
  have H := Lib.hid h
  clear h hsz
  obtain ⟨n, hn'⟩ : ∃ n, ls.length = n := ⟨_, rfl⟩
  have HN := Lib.hid hn'
  rw [hn'] at hn ⊢
  clear hn'
  obtain ⟨i0, hi, hz0, hz1, hz2⟩ := info_parts infoLift
  obtain ⟨C, hC, hmk⟩ : ∃ C : Array Value, C.size = n * 9 ∧ (Instr.makeSlice 49 (.int .i64 (n : Int)) (.int .i64 (n : Int))).run Try.prog w = .ok (.slice (some ⟨w.heap.size, 0, none⟩) n n) (w.alloc (.cells C 70)) := ⟨_, by rw [size_madeCells, hz1], run_make_row 49 70 i0 _ Try.underlying49 hi hz0 .i64 n (by rw [hz2]; omega) (by omega) w⟩
  have HL0 : Hid (HL (w.alloc (.cells C 70)) w.heap.size n ls 0) := ⟨C.toList, by unfold BV; rw [heap_alloc_new]; simp, by simpa using hC, fun j x hj => by omega⟩
  clear hC hi hz0 hz1 hz2
  go_enter Try.func35, Try.ntmps35; go_wp2
  go_loopw [4] (fun i wr => ∃ k : Nat, k ≤ n ∧ i = .int .i64 (k : Int) ∧ HL wr w.heap.size n ls k ∧ Below w.heap.size w wr) (fun i _ => n - (intOf i).toNat)
  case atStart => exact ⟨0, by omega, rfl, HL0.out, gr_alloc (gr_refl w)⟩
  case round =>
    obtain ⟨k, hk, rfl, hh, hbe⟩ := hrel
    have HB := Lib.hid hbe
    have HH := Lib.hid hh
    by_cases hlt : k < n
    · obtain ⟨x, hx⟩ := at_of_lt (xs := ls) (k := k) (by rw [HN.out]; exact hlt)
      obtain ⟨b, off, Ar, cr, rfl, hbB, ⟨c0, c1, c2, c3, c4, c5, c6, c7, c8⟩, hsv⟩ := ((H.out.below hbe).more hbe.size).at_ hx
      have hxs := (HSZ.out x (List.mem_of_getElem? hx)).2
      have HT := Lib.hid (toLift_any x Ar cr wr hxs hsv)
      have HX := Lib.hid hx
      have i0' : (0 : Int) ≤ (k : Int) := by omega
      have i1 : (k : Int) < (n : Int) := by omega
      have hgl : w.heap.size < wr.heap.size := by obtain ⟨zs, h1, _⟩ := hh; exact h1.lt
      clear hx hbe hh hsv
      go_wp2_with fail
      go_at_call 57
      (with_reducible refine HT.out.mono ?_)
      rintro e w1 ⟨q, rfl, hq, hbv, hb⟩
      have HH1 := Lib.hid (HH.out.late hb)
      obtain ⟨zs, h1, h2, _⟩ := HH1.out
      obtain ⟨y0, hy0⟩ := at_of_lt (xs := zs) (k := k * 9) (by omega)
      have d0 := h1.cell hy0
      have f0 := h1.free (k * 9)
      obtain ⟨y1, hy1⟩ := at_of_lt (xs := zs) (k := k * 9 + 1) (by omega)
      have d1 := h1.cell hy1
      have f1 := h1.free (k * 9 + 1)
      obtain ⟨y2, hy2⟩ := at_of_lt (xs := zs) (k := k * 9 + 2) (by omega)
      have d2 := h1.cell hy2
      have f2 := h1.free (k * 9 + 2)
      obtain ⟨y3, hy3⟩ := at_of_lt (xs := zs) (k := k * 9 + 3) (by omega)
      have d3 := h1.cell hy3
      have f3 := h1.free (k * 9 + 3)
      obtain ⟨y4, hy4⟩ := at_of_lt (xs := zs) (k := k * 9 + 4) (by omega)
      have d4 := h1.cell hy4
      have f4 := h1.free (k * 9 + 4)
      obtain ⟨y5, hy5⟩ := at_of_lt (xs := zs) (k := k * 9 + 5) (by omega)
      have d5 := h1.cell hy5
      have f5 := h1.free (k * 9 + 5)
      obtain ⟨y6, hy6⟩ := at_of_lt (xs := zs) (k := k * 9 + 6) (by omega)
      have d6 := h1.cell hy6
      have f6 := h1.free (k * 9 + 6)
      obtain ⟨y7, hy7⟩ := at_of_lt (xs := zs) (k := k * 9 + 7) (by omega)
      have d7 := h1.cell hy7
      have f7 := h1.free (k * 9 + 7)
      obtain ⟨y8, hy8⟩ := at_of_lt (xs := zs) (k := k * 9 + 8) (by omega)
      have d8 := h1.cell hy8
      have f8 := h1.free (k * 9 + 8)
      have HP := Lib.hid (HH1.out.put hlt HX.out hbv (by omega) (by unfold maxLen; omega))
      have HB2 := Lib.hid (show Below w.heap.size w (((((((((w1.setCell ⟨w.heap.size, k * 9, none⟩ (.string x.nm)).setCell ⟨w.heap.size, k * 9 + 1, none⟩ (.int .i64 x.v0)).setCell ⟨w.heap.size, k * 9 + 2, none⟩ (.int .i64 x.v1)).setCell ⟨w.heap.size, k * 9 + 3, none⟩ (.int .i64 x.v2)).setCell ⟨w.heap.size, k * 9 + 4, none⟩ (.int .i64 x.v3)).setCell ⟨w.heap.size, k * 9 + 5, none⟩ (.int .i64 x.v4)).setCell ⟨w.heap.size, k * 9 + 6, none⟩ (.int .i64 x.v5)).setCell ⟨w.heap.size, k * 9 + 7, none⟩ (.int .i64 x.v6)).setCell ⟨w.heap.size, k * 9 + 8, none⟩ (.slice (some ⟨q, 0, none⟩) x.xs.length x.xs.length)) from (gr_set (by exact Nat.le_refl _) (gr_set (by exact Nat.le_refl _) (gr_set (by exact Nat.le_refl _) (gr_set (by exact Nat.le_refl _) (gr_set (by exact Nat.le_refl _) (gr_set (by exact Nat.le_refl _) (gr_set (by exact Nat.le_refl _) (gr_set (by exact Nat.le_refl _) (gr_set (by exact Nat.le_refl _) (gr_then hb HB.out)))))))))))
      clear h1 h2 hbv hb HT hq hy0 hy1 hy2 hy3 hy4 hy5 hy6 hy7 hy8 c0 c1 c2 c3 c4 c5 c6 c7 c8
      go_wp2
      go_roundw
      case rel => exact ⟨k + 1, by omega, by go_num, HP.out, HB2.out⟩
      case measure => simp [intOf]; omega
    · obtain rfl : k = n := by omega
      clear hh hbe
      go_wp2
      go_ret
      exact ⟨rfl, HH.out.lv HN.out, HB.out⟩
set_option maxHeartbeats 8000000 in
set_option maxRecDepth 20000 in
theorem eqLift_same (x : Lf) (A A' : Option Addr) (c c' : Nat) (w : World) (hn : x.xs.length ≤ 1048576) (h : SV (.int .i64) w w.heap.size A x.xs) (h' : SV (.int .i64) w w.heap.size A' x.xs) : Calls Try.prog 60 #[.agg #[.string x.nm, .int .i64 x.v0, .int .i64 x.v1, .int .i64 x.v2, .int .i64 x.v3, .int .i64 x.v4, .int .i64 x.v5, .int .i64 x.v6, .slice A x.xs.length c], .agg #[.string x.nm, .int .i64 x.v0, .int .i64 x.v1, .int .i64 x.v2, .int .i64 x.v3, .int .i64 x.v4, .int .i64 x.v5, .int .i64 x.v6, .slice A' x.xs.length c']] w fun e w' => e = .returned (.bool true) ∧ Below w.heap.size w w' := by
  have H := Lib.hid h
  have H' := Lib.hid h'
  clear h h'
  have hP : BV (fun v : Value => v) ((w.alloc (.cells #[.string x.nm, .int .i64 x.v0, .int .i64 x.v1, .int .i64 x.v2, .int .i64 x.v3, .int .i64 x.v4, .int .i64 x.v5, .int .i64 x.v6, .slice A x.xs.length c] 70)).alloc (.cells #[.string x.nm, .int .i64 x.v0, .int .i64 x.v1, .int .i64 x.v2, .int .i64 x.v3, .int .i64 x.v4, .int .i64 x.v5, .int .i64 x.v6, .slice A' x.xs.length c'] 70)) w.heap.size 70 [.string x.nm, .int .i64 x.v0, .int .i64 x.v1, .int .i64 x.v2, .int .i64 x.v3, .int .i64 x.v4, .int .i64 x.v5, .int .i64 x.v6, .slice A x.xs.length c] := (show BV (fun v : Value => v) (w.alloc (.cells #[.string x.nm, .int .i64 x.v0, .int .i64 x.v1, .int .i64 x.v2, .int .i64 x.v3, .int .i64 x.v4, .int .i64 x.v5, .int .i64 x.v6, .slice A x.xs.length c] 70)) w.heap.size 70 [.string x.nm, .int .i64 x.v0, .int .i64 x.v1, .int .i64 x.v2, .int .i64 x.v3, .int .i64 x.v4, .int .i64 x.v5, .int .i64 x.v6, .slice A x.xs.length c] from heap_alloc_new w _).alloc _
  have hO : BV (fun v : Value => v) ((w.alloc (.cells #[.string x.nm, .int .i64 x.v0, .int .i64 x.v1, .int .i64 x.v2, .int .i64 x.v3, .int .i64 x.v4, .int .i64 x.v5, .int .i64 x.v6, .slice A x.xs.length c] 70)).alloc (.cells #[.string x.nm, .int .i64 x.v0, .int .i64 x.v1, .int .i64 x.v2, .int .i64 x.v3, .int .i64 x.v4, .int .i64 x.v5, .int .i64 x.v6, .slice A' x.xs.length c'] 70)) (w.heap.size + 1) 70 [.string x.nm, .int .i64 x.v0, .int .i64 x.v1, .int .i64 x.v2, .int .i64 x.v3, .int .i64 x.v4, .int .i64 x.v5, .int .i64 x.v6, .slice A' x.xs.length c'] := by have h9 := heap_alloc_new (w.alloc (.cells #[.string x.nm, .int .i64 x.v0, .int .i64 x.v1, .int .i64 x.v2, .int .i64 x.v3, .int .i64 x.v4, .int .i64 x.v5, .int .i64 x.v6, .slice A x.xs.length c] 70)) (.cells #[.string x.nm, .int .i64 x.v0, .int .i64 x.v1, .int .i64 x.v2, .int .i64 x.v3, .int .i64 x.v4, .int .i64 x.v5, .int .i64 x.v6, .slice A' x.xs.length c'] 70); simp only [World.size_alloc] at h9; exact h9
  have HB0 := Lib.hid (show Below w.heap.size w ((w.alloc (.cells #[.string x.nm, .int .i64 x.v0, .int .i64 x.v1, .int .i64 x.v2, .int .i64 x.v3, .int .i64 x.v4, .int .i64 x.v5, .int .i64 x.v6, .slice A x.xs.length c] 70)).alloc (.cells #[.string x.nm, .int .i64 x.v0, .int .i64 x.v1, .int .i64 x.v2, .int .i64 x.v3, .int .i64 x.v4, .int .i64 x.v5, .int .i64 x.v6, .slice A' x.xs.length c'] 70)) from gr_alloc (gr_alloc (gr_refl w)))
  go_enter Try.func60, Try.ntmps60; go_wp2_with fail
  generalize ((w.alloc (.cells #[.string x.nm, .int .i64 x.v0, .int .i64 x.v1, .int .i64 x.v2, .int .i64 x.v3, .int .i64 x.v4, .int .i64 x.v5, .int .i64 x.v6, .slice A x.xs.length c] 70)).alloc (.cells #[.string x.nm, .int .i64 x.v0, .int .i64 x.v1, .int .i64 x.v2, .int .i64 x.v3, .int .i64 x.v4, .int .i64 x.v5, .int .i64 x.v6, .slice A' x.xs.length c'] 70)) = u0 at *
  go_at_call 71
  (with_reducible refine (eqPt_same _ _ _).mono ?_)
  rintro e u1 ⟨rfl, hb⟩
  replace hP := hP.late hb
  replace hO := hO.late hb
  have HB1 := Lib.hid (gr_then hb HB0.out)
  clear hb
  have c4 := hP.cell (j := 4) rfl
  have c5 := hP.cell (j := 5) rfl
  have d4 := hO.cell (j := 4) rfl
  have d5 := hO.cell (j := 5) rfl
  go_wp2_with fail
  clear c4 c5 d4 d5
  go_at_call 71
  (with_reducible refine (eqPt_same _ _ _).mono ?_)
  rintro e u2 ⟨rfl, hb⟩
  replace hP := hP.late hb
  replace hO := hO.late hb
  have HB2 := Lib.hid (gr_then hb HB1.out)
  clear hb
  have c6 := hP.cell (j := 6) rfl
  have c7 := hP.cell (j := 7) rfl
  have c8 := hP.cell (j := 8) rfl
  have d6 := hO.cell (j := 6) rfl
  have d7 := hO.cell (j := 7) rfl
  have d8 := hO.cell (j := 8) rfl
  go_wp2_with fail
  go_at_call 72
  (with_reducible refine (eqInt64S_same A A' c c' x.xs _ hn ((H.out.below HB2.out).more HB2.out.size) ((H'.out.below HB2.out).more HB2.out.size)).mono ?_)
  rintro e u3 ⟨rfl, q, rfl⟩
  clear c6 c7 c8 d6 d7 d8 hP hO
  go_wp2
  go_returns
  exact ⟨rfl, gr_drewN HB2.out⟩
set_option maxHeartbeats 8000000 in
set_option maxRecDepth 20000 in
theorem eqLiftS_same (A A' : Option Addr) (c c' : Nat) (ls : List Lf) (w : World) (hz : SizesL ls) (h : LV w w.heap.size A ls) (h' : LV w w.heap.size A' ls) : Calls Try.prog 37 #[.slice A ls.length c, .slice A' ls.length c'] w fun e w' => e = .returned (.bool true) ∧ Below w.heap.size w w' := by
  obtain ⟨hn, hsz⟩ := hz
  have HSZ := Lib.hid hsz
  have H := Lib.hid h
  have H' := Lib.hid h'
  clear h h' hsz
  obtain ⟨n, hn'⟩ : ∃ n, ls.length = n := ⟨_, rfl⟩
  have HN := Lib.hid hn'
  rw [hn'] at hn ⊢
  clear hn'
  go_enter Try.func37, Try.ntmps37; go_wp2
  go_loopw [5] (fun i wr => ∃ k : Nat, k ≤ n ∧ i = .int .i64 (k : Int) ∧ Below w.heap.size w wr) (fun i _ => n - (intOf i).toNat)
  case atStart => exact ⟨0, by omega, rfl, gr_refl w⟩
  case round =>
    obtain ⟨k, hk, rfl, hbe⟩ := hrel
    by_cases hlt : k < n
    · obtain ⟨x, hx⟩ := at_of_lt (xs := ls) (k := k) (by rw [HN.out]; exact hlt)
      obtain ⟨b, off, Ar, cr, rfl, hbB, ⟨c0, c1, c2, c3, c4, c5, c6, c7, c8⟩, hsv⟩ := ((H.out.below hbe).more hbe.size).at_ hx
      obtain ⟨b', off', Ar', cr', rfl, hbB', ⟨d0, d1, d2, d3, d4, d5, d6, d7, d8⟩, hsv'⟩ := ((H'.out.below hbe).more hbe.size).at_ hx
      have hxs := (HSZ.out x (List.mem_of_getElem? hx)).2
      have HT : Hid (Calls Try.prog 60 #[.agg #[.string x.nm, .int .i64 x.v0, .int .i64 x.v1, .int .i64 x.v2, .int .i64 x.v3, .int .i64 x.v4, .int .i64 x.v5, .int .i64 x.v6, .slice Ar x.xs.length cr], .agg #[.string x.nm, .int .i64 x.v0, .int .i64 x.v1, .int .i64 x.v2, .int .i64 x.v3, .int .i64 x.v4, .int .i64 x.v5, .int .i64 x.v6, .slice Ar' x.xs.length cr']] wr.drew fun e w' => e = .returned (.bool true) ∧ Below wr.heap.size wr w') := (eqLift_same x Ar Ar' cr cr' wr.drew hxs hsv hsv').mono (fun e w' h9 => ⟨h9.1, gr_then h9.2 (gr_drew (gr_refl wr))⟩)
      have HB := Lib.hid hbe
      have i0' : (0 : Int) ≤ (k : Int) := by omega
      have i1 : (k : Int) < (n : Int) := by omega
      clear hx hbe hsv hsv'
      go_wp2
      go_still_tail 8, (by kernel_rfl)
      change wpList _ _ _ _ _ wr.drew
      go_wp2_with fail
      go_at_call 60
      (with_reducible refine HT.out.mono ?_)
      rintro e w1 ⟨rfl, hb⟩
      have HB1 := Lib.hid (gr_then hb HB.out)
      clear hb HT
      go_wp2
      go_roundw
      case rel => exact ⟨k + 1, by omega, by go_num, HB1.out⟩
      case measure => simp [intOf]; omega
    · have HB := Lib.hid hbe
      clear hbe
      obtain rfl : k = n := by omega
      go_wp2
      go_ret
      exact ⟨rfl, HB.out⟩
end Go.Proofs.Ytoglmeiffidcbaa
