/- MotionText, both sides. -/
import Derived.Test.YtoojnfdphjdocaaDoorMkRow
import Derived.Test.YtoojnfdphjdocaaDoorBld
import Derived.Test.YtoojnfdphjdocaaDoorDecI
import Derived.Test.YtoojnfdphjdocaaDoorMotB
namespace Go.Proofs.YtoojnfdphjdocaaDoor
open Go.RowKit Go.Deep
def sgn (x : Int) : UInt8 := if x = 1 then 43 else if x = -1 then 45 else 48
def mtT (s : Int) (xs : List Int) : List UInt8 := (dS s ++ [58]) ++ xs.map sgn
def mtTx (s : Int) (xs : List Int) : ByteArray := if okM s xs = true then strB (mtT s xs) else ⟨#[]⟩
theorem mt_succ {xs : List Int} {k : Nat} {x : Int} (h : xs[k]? = some x) : (xs.take (k + 1)).map sgn = (xs.take k).map sgn ++ [sgn x] := by
  rw [List.take_add_one, h, List.map_append]
  rfl
theorem okM_t {s : Int} {xs : List Int} (h : okM s xs = true) : (0 ≤ s ∧ s ≤ 23) ∧ xs.length ≤ 200 ∧ (∀ (j : Nat) x, xs[j]? = some x → x = -1 ∨ x = 0 ∨ x = 1) := by
  simp only [okM, inI, allTurn, Bool.and_eq_true, decide_eq_true_eq, List.all_eq_true] at h
  obtain ⟨⟨h1, h2⟩, h3⟩ := h
  refine ⟨by omega, h2, fun j x hj => ?_⟩
  have := h3 x (List.mem_of_getElem? hj)
  omega
theorem RZ.rowne {e : TypeId} {w : World} {lo c k : Nat} {A : Option Addr} {xs : List UInt8} (h : RZ e w lo A c xs) (hk : k < lo) : A.map (·.block) ≠ some k := by
  obtain ⟨g, cur, fz, rfl, h1, _⟩ := h
  simp; omega
theorem at_pos {α : Type} {f : α → Value} {w : World} {B : Nat} {A : Option Addr} {xs : List α} (h : SV f w B A xs) (hp : 0 < xs.length) : ∃ b off, A = some ⟨b, off, none⟩ := by
  obtain ⟨b, off, h0, _⟩ := h hp
  exact ⟨b, off, h0⟩
set_option maxHeartbeats 8000000 in
set_option maxRecDepth 20000 in
theorem text16_any (b : Nat) (s : Int) (A : Option Addr) (c : Nat) (xs : List Int) (w : World) (hok : okM s xs = true) (c0 : w.cell? ⟨b, 0, none⟩ = some (.int .i64 s)) (c1 : w.cell? ⟨b, 1, none⟩ = some (.slice A xs.length c)) (h : SV (.int .i64) w w.heap.size A xs) : Calls Tryd.prog 16 #[.pointer (some ⟨b, 0, none⟩)] w fun e w' => e = .returned (.string (strB (mtT s xs))) ∧ Below w.heap.size w w' := by
  obtain ⟨iB, hiB, hz0B, hz1B, hz2B⟩ := info_parts (show (Tryd.prog.info? 5).map (fun i => (i.zero, i.size, i.bytes)) = some (some (.int .u8 0), 1, 1) by kernel_rfl)
  obtain ⟨⟨hs0, hs1⟩, hn, hxs⟩ := okM_t hok
  clear hok hxs
  have hblt : b < w.heap.size := lt_of_cell c0
  obtain ⟨n, hn'⟩ : ∃ n, xs.length = n := ⟨_, rfl⟩
  have HN := Lib.hid hn'
  rw [hn'] at hn c1
  clear hn'
  have H := Lib.hid h
  clear h
  have HC1 := Lib.hid c1
  have hds := dS_len (n := s) (by constructor <;> omega)
  have hz58 : (strB (dS s)).size ≤ 21 := by rw [strB_size]; exact hds
  have HD := Lib.hid (dec_any s (by constructor <;> omega) w)
  obtain ⟨L0, hL0⟩ : ∃ L, dS s ++ [58] = L := ⟨_, rfl⟩
  have HL0 := Lib.hid hL0
  have hlen0 : L0.length ≤ 22 := by rw [← hL0, List.length_append, List.length_singleton]; omega
  obtain ⟨N, hN⟩ : ∃ N, L0.length = N := ⟨_, rfl⟩
  have HNN := Lib.hid hN
  rw [hN] at hlen0
  have hcv : ∀ W : World, (convert 9 42 (.string (strB (dS s) ++ ⟨#[58]⟩))).run Tryd.prog W = .ok (.slice (some ⟨W.heap.size, 0, none⟩) N (grownCap W (strB L0).size 0 5)) (Lib.bytesWorld W 5 (strB L0)) := by intro W; rw [show strB (dS s) ++ ⟨#[58]⟩ = strB L0 by rw [← hL0]; exact strB_app _ [58]]; have h9 := Lib.run_convert_string_bytes (P := Tryd.prog) W 9 42 5 (strB L0) Tryd.underlying9 Tryd.underlying42 Tryd.underlying5; rw [show (strB L0).size = N by rw [strB_size]; exact hN] at h9 ⊢; exact h9
  have HZ : Hid (∀ W : World, RZ 5 (Lib.bytesWorld W 5 (strB L0)) W.heap.size (some ⟨W.heap.size, 0, none⟩) (grownCap W (strB L0).size 0 5) L0) := fun W => RZ.ofString W 5 L0 (by omega)
  clear hL0 hN hds
  go_enter Tryd.func16, Tryd.ntmps16
  go_wp2_with fail
  go_at_call 33
  (with_reducible refine HD.out.mono ?_)
  rintro e w1 ⟨rfl, hb⟩
  have HB1 := Lib.hid hb
  have hsz1 := hb.size
  clear hb
  have HZ1 := Lib.hid (HZ.out w1)
  have HB2 := Lib.hid (gr_then (bytesWorld_below w1 5 (strB L0)) HB1.out)
  have hsz2 := (bytesWorld_below w1 5 (strB L0)).size
  have hcv1 := hcv w1
  clear hcv
  generalize Lib.bytesWorld w1 5 (strB L0) = v1 at *
  generalize grownCap w1 (strB L0).size 0 5 = q0 at *
  go_wp2_with fail
  go_loopw [3, 4] (fun o i wr => ∃ (k q : Nat) (E : Option Addr), k ≤ n ∧ i = .int .i64 (k : Int) ∧ o = .slice E (N + k) q ∧ RZ 5 wr w.heap.size E q (L0 ++ (xs.take k).map sgn) ∧ Below w.heap.size w wr) (fun _ i _ => n - (intOf i).toNat)
  case atStart => exact ⟨0, q0, _, by omega, by simp, rfl, by simpa using (RZ.wide HZ1.out (by omega)), HB2.out⟩
  case round =>
    obtain ⟨k, q, E, hk, rfl, rfl, hr, hbe⟩ := hrel
    have HR := Lib.hid hr
    have HB := Lib.hid hbe
    have hszr := hbe.size
    have hln : Hid ((L0 ++ (xs.take k).map sgn).length = N + k) := by unfold Hid; rw [List.length_append, HNN.out, List.length_map, List.length_take, HN.out]; omega
    have c1 := (hbe.cell (p := ⟨b, 1, none⟩) hblt).trans HC1.out
    by_cases hlt : k < n
    · obtain ⟨x, hx⟩ := at_of_lt (xs := xs) (k := k) (by rw [HN.out]; exact hlt)
      obtain ⟨bb, off, rfl, hB, hcx⟩ := (H.out.below hbe).at_ hx
      have HS := Lib.hid (mt_succ hx)
      have i0 : (0 : Int) ≤ (k : Int) := by omega
      have i1 : (k : Int) < (n : Int) := by omega
      clear hr hbe hx
      by_cases hx1 : x = 1
      · subst hx1
        have HCE : Hid ((wr.alloc (.cells #[.int .u8 43] 5)).cell? ⟨wr.heap.size, 0, none⟩ = some (bF 43)) := by unfold Hid; simp [go_sem]; rfl
        go_wp2_with (at_builtin; refine wpList_appZ (by rfl) _ _ 42 (by rfl) (w.heap.size) 5 iB (.int .u8 0) Tryd.underlying42 hiB hz0B hz1B hz2B (by rfl) E (N + k) q (L0 ++ (xs.take k).map sgn) (by rfl) hln.out (HR.out.late (gr_alloc (gr_refl wr))) ⟨wr.heap.size, 0, none⟩ 1 43 (by rfl) HCE.out (by omega) (by simp only [World.size_alloc]; omega) ?_; intro A2 c2 w2 hr2 hgrow; have HR6 := Lib.hid hr2; have HB6 := Lib.hid ((gr_alloc HB.out).grown hgrow (by simp only [World.size_alloc]; omega) (by intro k' hk'; rcases Nat.lt_or_ge k' w.heap.size with h8 | h8; (exact absurd hk' (HR.out.rowne h8)); omega)); clear hr2 hgrow)
        go_roundw
        case rel => exact ⟨k + 1, c2, A2, by omega, by go_num, by first | rfl | (congr 1), by rw [HS.out, ← List.append_assoc, show sgn 1 = 43 from rfl]; exact HR6.out, HB6.out⟩
        case measure => simp [intOf]; omega
      by_cases hx2 : x = -1
      · subst hx2
        clear hx1
        have HCE : Hid ((wr.alloc (.cells #[.int .u8 45] 5)).cell? ⟨wr.heap.size, 0, none⟩ = some (bF 45)) := by unfold Hid; simp [go_sem]; rfl
        go_wp2_with (at_builtin; refine wpList_appZ (by rfl) _ _ 42 (by rfl) (w.heap.size) 5 iB (.int .u8 0) Tryd.underlying42 hiB hz0B hz1B hz2B (by rfl) E (N + k) q (L0 ++ (xs.take k).map sgn) (by rfl) hln.out (HR.out.late (gr_alloc (gr_refl wr))) ⟨wr.heap.size, 0, none⟩ 1 45 (by rfl) HCE.out (by omega) (by simp only [World.size_alloc]; omega) ?_; intro A2 c2 w2 hr2 hgrow; have HR6 := Lib.hid hr2; have HB6 := Lib.hid ((gr_alloc HB.out).grown hgrow (by simp only [World.size_alloc]; omega) (by intro k' hk'; rcases Nat.lt_or_ge k' w.heap.size with h8 | h8; (exact absurd hk' (HR.out.rowne h8)); omega)); clear hr2 hgrow)
        go_roundw
        case rel => exact ⟨k + 1, c2, A2, by omega, by go_num, by first | rfl | (congr 1), by rw [HS.out, ← List.append_assoc, show sgn (-1) = 45 from rfl]; exact HR6.out, HB6.out⟩
        case measure => simp [intOf]; omega
      · have e1 : (x == 1) = false := beq_eq_false_iff_ne.mpr hx1
        have e2 : (x == -1) = false := beq_eq_false_iff_ne.mpr hx2
        have d1 := decide_eq_false hx1
        have d2 := decide_eq_false hx2
        have HG : Hid (sgn x = 48) := by unfold Hid sgn; rw [if_neg hx1, if_neg hx2]
        have HCE : Hid ((wr.alloc (.cells #[.int .u8 48] 5)).cell? ⟨wr.heap.size, 0, none⟩ = some (bF 48)) := by unfold Hid; simp [go_sem]; rfl
        go_wp2_with (at_builtin; refine wpList_appZ (by rfl) _ _ 42 (by rfl) (w.heap.size) 5 iB (.int .u8 0) Tryd.underlying42 hiB hz0B hz1B hz2B (by rfl) E (N + k) q (L0 ++ (xs.take k).map sgn) (by rfl) hln.out (HR.out.late (gr_alloc (gr_refl wr))) ⟨wr.heap.size, 0, none⟩ 1 48 (by rfl) HCE.out (by omega) (by simp only [World.size_alloc]; omega) ?_; intro A2 c2 w2 hr2 hgrow; have HR6 := Lib.hid hr2; have HB6 := Lib.hid ((gr_alloc HB.out).grown hgrow (by simp only [World.size_alloc]; omega) (by intro k' hk'; rcases Nat.lt_or_ge k' w.heap.size with h8 | h8; (exact absurd hk' (HR.out.rowne h8)); omega)); clear hr2 hgrow)
        go_roundw
        case rel => exact ⟨k + 1, c2, A2, by omega, by go_num, by first | rfl | (congr 1), by rw [HS.out, ← List.append_assoc, HG.out]; exact HR6.out, HB6.out⟩
        case measure => simp [intOf]; omega
    · obtain rfl : k = n := by omega
      have htx := hr.text (P := Tryd.prog) 42 9 5 Tryd.underlying42 Tryd.underlying5 Tryd.underlying9
      rw [hln.out] at htx
      rw [show L0 ++ (xs.take k).map sgn = mtT s xs by unfold mtT; rw [HL0.out, List.take_of_length_le (by rw [HN.out]; omega)]] at htx
      clear hr hbe
      go_wp2
      go_ret
      exact ⟨rfl, HB.out⟩
set_option maxHeartbeats 4000000 in
theorem specMt_any (s : Int) (A : Option Addr) (c : Nat) (xs : List Int) (w : World) (hn : xs.length ≤ 1048576) (h : SV (.int .i64) w w.heap.size A xs) : Calls Tryd.prog 6 #[.agg #[.int .i64 s, .slice A xs.length c]] w fun e w' => e = .returned (.string (mtTx s xs)) ∧ Below w.heap.size w w' := by
  have hb0 : Below w.heap.size w (w.alloc (.cells #[.int .i64 s, .slice A xs.length c] 27)) := gr_alloc (gr_refl w)
  have H := Lib.hid ((h.below hb0).more hb0.size)
  have c0 : (w.alloc (.cells #[.int .i64 s, .slice A xs.length c] 27)).cell? ⟨w.heap.size, 0, none⟩ = some (.int .i64 s) := by simp [go_sem]
  have c1 : (w.alloc (.cells #[.int .i64 s, .slice A xs.length c] 27)).cell? ⟨w.heap.size, 1, none⟩ = some (.slice A xs.length c) := by simp [go_sem]
  clear h
  obtain ⟨q, hq⟩ : ∃ q, okM s xs = q := ⟨_, rfl⟩
  have HO : Hid (Calls Tryd.prog 15 #[.pointer (some ⟨w.heap.size, 0, none⟩)] (w.alloc (.cells #[.int .i64 s, .slice A xs.length c] 27)) fun e w' => e = .returned (.bool q) ∧ (w.alloc (.cells #[.int .i64 s, .slice A xs.length c] 27)) = w') := by have h9 := l16Ok_any w.heap.size s A c xs _ hn c0 c1 H.out; rw [hq] at h9; exact h9
  cases q
  · rw [show mtTx s xs = ⟨#[]⟩ from if_neg (by rw [hq]; decide)]
    clear hq c0 c1
    go_enter Tryd.func6, Tryd.ntmps6; go_wp2_with (go_at_call 15; (with_reducible refine HO.out.mono ?_); rintro e w1 ⟨rfl, rfl⟩)
    go_ret
    exact ⟨rfl, gr_alloc (gr_refl w)⟩
  · rw [show mtTx s xs = strB (mtT s xs) from if_pos hq]
    have HT := Lib.hid (text16_any w.heap.size s A c xs _ hq c0 c1 H.out)
    clear hq c0 c1
    go_enter Tryd.func6, Tryd.ntmps6; go_wp2_with (first | (go_at_call 15; (with_reducible refine HO.out.mono ?_); rintro e w1 ⟨rfl, rfl⟩) | (go_at_call 16; (with_reducible refine HT.out.mono ?_); rintro e w1 ⟨rfl, hb⟩))
    go_ret
    exact ⟨rfl, gr_then hb (gr_alloc (gr_refl w))⟩
set_option maxHeartbeats 8000000 in
set_option maxRecDepth 20000 in
theorem implMt_any (s : Int) (A : Option Addr) (c : Nat) (xs : List Int) (w : World) (hn : xs.length ≤ 1048576) (h : SV (.int .i64) w w.heap.size A xs) (ht : Pow10 w) : Calls Tryd.prog 8 #[.agg #[.int .i64 s, .slice A xs.length c]] w fun e w' => e = .returned (.string (mtTx s xs)) ∧ Below w.heap.size w w' := by
  have hb0 : Below w.heap.size w (w.alloc (.cells #[.int .i64 s, .slice A xs.length c] 27)) := gr_alloc (gr_refl w)
  have H := Lib.hid ((h.below hb0).more hb0.size)
  have c0 : (w.alloc (.cells #[.int .i64 s, .slice A xs.length c] 27)).cell? ⟨w.heap.size, 0, none⟩ = some (.int .i64 s) := by simp [go_sem]
  have c1 : (w.alloc (.cells #[.int .i64 s, .slice A xs.length c] 27)).cell? ⟨w.heap.size, 1, none⟩ = some (.slice A xs.length c) := by simp [go_sem]
  clear h
  have HTT := Lib.hid (ht.later hb0)
  clear ht
  have HB0 := Lib.hid hb0
  have hz0 := hb0.size
  have hlt0 : w.heap.size < (w.alloc (.cells #[.int .i64 s, .slice A xs.length c] 27)).heap.size := by simp
  obtain ⟨q, hq⟩ : ∃ q, okM s xs = q := ⟨_, rfl⟩
  have HO : Hid (Calls Tryd.prog 18 #[.agg #[.int .i64 s, .slice A xs.length c]] (w.alloc (.cells #[.int .i64 s, .slice A xs.length c] 27)) fun e w' => e = .returned (.bool q) ∧ Below (w.alloc (.cells #[.int .i64 s, .slice A xs.length c] 27)).heap.size (w.alloc (.cells #[.int .i64 s, .slice A xs.length c] 27)) w') := by have h9 := implVm_any s A c xs _ hn H.out; rw [hq] at h9; exact h9
  cases q
  · rw [show mtTx s xs = ⟨#[]⟩ from if_neg (by rw [hq]; decide)]
    clear hq c0 c1 hb0
    go_enter Tryd.func8, Tryd.ntmps8; go_wp2_with (go_at_call 18; (with_reducible refine HO.out.mono ?_); rintro e w1 ⟨rfl, hb⟩)
    go_ret
    exact ⟨rfl, gr_then hb HB0.out⟩
  rw [show mtTx s xs = strB (mtT s xs) from if_pos hq]
  obtain ⟨⟨hs0, hs1⟩, hn2, hxs⟩ := okM_t hq
  have HX := Lib.hid hxs
  clear hq hxs hb0
  have HC0 := Lib.hid c0
  have HC1 := Lib.hid c1
  go_enter Tryd.func8, Tryd.ntmps8; go_wp2_with fail
  generalize (w.alloc (.cells #[.int .i64 s, .slice A xs.length c] 27)) = v0 at *
  go_at_call 18
  (with_reducible refine HO.out.mono ?_)
  rintro e v1 ⟨rfl, hb⟩
  have HB1 := Lib.hid (gr_then hb HB0.out)
  have hz1 := hb.size
  have HT1 := Lib.hid (HTT.out.later hb)
  have HV1 := Lib.hid (((H.out.below hb)).more hb.size)
  replace c0 := (hb.cell (p := ⟨w.heap.size, 0, none⟩) hlt0).trans c0
  replace c1 := (hb.cell (p := ⟨w.heap.size, 1, none⟩) hlt0).trans c1
  obtain ⟨n, hn'⟩ : ∃ n, xs.length = n := ⟨_, rfl⟩
  have HN := Lib.hid hn'
  rw [hn'] at hn hn2 c1
  have HC1b := Lib.hid c1
  clear hb hn' HO HTT
  have hds := dS_len (n := s) (by constructor <;> omega)
  have hz58 : (strB (dS s)).size ≤ 21 := by rw [strB_size]; exact hds
  have hb2 : Below v1.heap.size v1 (v1.alloc (.cells #[.pointer none, .slice none 0 0] 44)) := gr_alloc (gr_refl v1)
  have HI2 := Lib.hid (IsB.new v1 v1.heap.size (Nat.le_refl _))
  have HB2 := Lib.hid (gr_then hb2 HB1.out)
  have HT2 := Lib.hid (HT1.out.later hb2)
  have HV2 := Lib.hid (((HV1.out.below hb2)).more hb2.size)
  have hlt1 : w.heap.size < v1.heap.size := by omega
  replace c0 := (hb2.cell (p := ⟨w.heap.size, 0, none⟩) hlt1).trans c0
  replace c1 := (hb2.cell (p := ⟨w.heap.size, 1, none⟩) hlt1).trans c1
  have hz2 : v1.heap.size + 1 ≤ (v1.alloc (.cells #[.pointer none, .slice none 0 0] 44)).heap.size := by simp
  have HBV := Lib.hid hb2
  clear hb2 hds
  have HD : Hid (∀ W : World, Pow10 W → Calls Tryd.prog 20 #[.int .i64 s] W fun e w' => e = .returned (.string (strB (dS s))) ∧ Below W.heap.size W w') := fun W hW => decimal_any s (by constructor <;> omega) W hW
  go_wp2_with fail
  generalize (v1.alloc (.cells #[.pointer none, .slice none 0 0] 44)) = v2 at *
  go_at_call 20
  (with_reducible refine (HD.out _ HT2.out).mono ?_)
  rintro e v3 ⟨rfl, hb⟩
  have HB3 := Lib.hid (gr_then hb HB2.out)
  have hz3 := hb.size
  have HI3 := HI2.out.late hb
  have HBV3 := Lib.hid (HBV.out.trans (hb.mono (by omega)))
  have HV3 := Lib.hid (((HV2.out.below hb)).more hb.size)
  have hlt2 : w.heap.size < v2.heap.size := by omega
  replace c1 := (hb.cell (p := ⟨w.heap.size, 1, none⟩) hlt2).trans c1
  clear c0 hb
  have HW : Hid (Calls Tryd.prog 19 #[.pointer (some ⟨v1.heap.size, 0, none⟩), .string (strB (dS s) ++ ⟨#[58]⟩)] v3 fun e w' => e = .returned (.tuple #[.int .i64 ((dS s ++ [58]).length : Int), .nilIface]) ∧ IsB w' v1.heap.size v1.heap.size (dS s ++ [58]) ∧ Below v1.heap.size v3 w') := by have h9 := writeString_any v1.heap.size v1.heap.size [] (dS s ++ [58]) v3 HI3 (by simp) (by have := dS_len (n := s) (by constructor <;> omega); rw [List.length_append, List.length_singleton]; omega) (by omega); rw [show strB (dS s) ++ ⟨#[58]⟩ = strB (dS s ++ [58]) from strB_app _ [58]]; exact h9
  clear HI3
  go_wp2_with fail
  go_at_call 19
  (with_reducible refine HW.out.mono ?_)
  rintro e v4 ⟨rfl, hi4, hb⟩
  have HI4 := Lib.hid hi4
  have hz4 := hb.size
  have HBV4 := Lib.hid (HBV3.out.trans hb)
  replace c1 := (hb.cell (p := ⟨w.heap.size, 1, none⟩) hlt1).trans c1
  clear hi4 hb HW
  have HV4 := Lib.hid (((HV1.out.below HBV4.out)).more (by omega : v1.heap.size ≤ v4.heap.size))
  go_wp2_with fail
  go_loopw [5, 17] (fun nv i wr => ∃ (k : Nat), k ≤ n ∧ i = .int .i64 (k : Int) ∧ IsB wr v1.heap.size v1.heap.size (dS s ++ [58] ++ (xs.take k).map sgn) ∧ Below v1.heap.size v1 wr) (fun _ i _ => n - (intOf i).toNat)
  case atStart => exact ⟨0, by omega, by simp, by simpa using HI4.out, HBV4.out⟩
  case round =>
    obtain ⟨k, hk, rfl, hib, hbe⟩ := hrel
    have HI5 := Lib.hid hib
    have HB5 := Lib.hid hbe
    have hz5 := hbe.size
    have hll : (dS s ++ [58] ++ (xs.take k).map sgn).length ≤ 1048576 := by have := dS_len (n := s) (by constructor <;> omega); rw [List.length_append, List.length_append, List.length_singleton, List.length_map, List.length_take, HN.out]; omega
    by_cases hlt : k < n
    · obtain ⟨x, hx⟩ := at_of_lt (xs := xs) (k := k) (by rw [HN.out]; exact hlt)
      obtain ⟨bb, off, rfl, hB, hcx⟩ := (HV1.out.below hbe).at_ hx
      have HS := Lib.hid (mt_succ hx)
      have i0 : (0 : Int) ≤ (k : Int) := by omega
      have i1 : (k : Int) < (n : Int) := by omega
      have HW : Hid (∀ ch : UInt8, Calls Tryd.prog 21 #[.pointer (some ⟨v1.heap.size, 0, none⟩), .int .u8 (ch.toNat : Int)] wr fun e w' => e = .returned .nilIface ∧ IsB w' v1.heap.size v1.heap.size (dS s ++ [58] ++ (xs.take k).map sgn ++ [ch]) ∧ Below v1.heap.size wr w') := fun ch => writeByte_any _ _ _ _ _ hib hll hz5
      have hx3 := HX.out k x hx
      clear hib hbe hx hll
      rcases hx3 with rfl | rfl | rfl
      · have HW2 : Hid (Calls Tryd.prog 21 #[.pointer (some ⟨v1.heap.size, 0, none⟩), .int .u8 45] wr fun e w' => e = .returned .nilIface ∧ IsB w' v1.heap.size v1.heap.size (dS s ++ [58] ++ (xs.take k).map sgn ++ [sgn (-1)]) ∧ Below v1.heap.size wr w') := by have h9 := HW.out 45; exact h9
        clear HW
        go_wp2_with (go_at_call 21; (refine HW2.out.mono ?_); rintro e w6 ⟨rfl, hi6, hb6⟩; have HI6 := Lib.hid hi6; have HB6 := Lib.hid (HB5.out.trans hb6); clear hi6 hb6)
        go_roundw
        case rel => exact ⟨k + 1, by omega, by go_num, by rw [HS.out, ← List.append_assoc]; exact HI6.out, HB6.out⟩
        case measure => simp [intOf]; omega
      · have HW2 : Hid (Calls Tryd.prog 21 #[.pointer (some ⟨v1.heap.size, 0, none⟩), .int .u8 48] wr fun e w' => e = .returned .nilIface ∧ IsB w' v1.heap.size v1.heap.size (dS s ++ [58] ++ (xs.take k).map sgn ++ [sgn 0]) ∧ Below v1.heap.size wr w') := by have h9 := HW.out 48; exact h9
        clear HW
        go_wp2_with (go_at_call 21; (refine HW2.out.mono ?_); rintro e w6 ⟨rfl, hi6, hb6⟩; have HI6 := Lib.hid hi6; have HB6 := Lib.hid (HB5.out.trans hb6); clear hi6 hb6)
        go_roundw
        case rel => exact ⟨k + 1, by omega, by go_num, by rw [HS.out, ← List.append_assoc]; exact HI6.out, HB6.out⟩
        case measure => simp [intOf]; omega
      · have HW2 : Hid (Calls Tryd.prog 21 #[.pointer (some ⟨v1.heap.size, 0, none⟩), .int .u8 43] wr fun e w' => e = .returned .nilIface ∧ IsB w' v1.heap.size v1.heap.size (dS s ++ [58] ++ (xs.take k).map sgn ++ [sgn 1]) ∧ Below v1.heap.size wr w') := by have h9 := HW.out 43; exact h9
        clear HW
        go_wp2_with (go_at_call 21; (refine HW2.out.mono ?_); rintro e w6 ⟨rfl, hi6, hb6⟩; have HI6 := Lib.hid hi6; have HB6 := Lib.hid (HB5.out.trans hb6); clear hi6 hb6)
        go_roundw
        case rel => exact ⟨k + 1, by omega, by go_num, by rw [HS.out, ← List.append_assoc]; exact HI6.out, HB6.out⟩
        case measure => simp [intOf]; omega
    · obtain rfl : k = n := by omega
      have HST : Hid (Calls Tryd.prog 22 #[.pointer (some ⟨v1.heap.size, 0, none⟩)] wr fun e w' => e = .returned (.string (strB (mtT s xs))) ∧ Below v1.heap.size wr w') := by have h9 := Builder_String_any v1.heap.size v1.heap.size _ wr hib hz5; rw [List.take_of_length_le (by rw [HN.out]; omega)] at h9; exact h9
      clear hib hbe hll
      go_wp2_with (go_at_call 22; (with_reducible refine HST.out.mono ?_); rintro e w7 ⟨rfl, hb7⟩)
      go_ret
      exact ⟨rfl, gr_then (HB5.out.trans hb7) HB1.out⟩
end Go.Proofs.YtoojnfdphjdocaaDoor
