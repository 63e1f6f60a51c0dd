/- Decimal texts. -/
import Derived.Test.YtoojnfdphjdocaaDoorApp
import Derived.Lib.ItoaNum
import Derived.Lib.SlBytesRow
namespace Go.Proofs.YtoojnfdphjdocaaDoor
open Go.RowKit Go.Deep
def bF (c : UInt8) : Value := .int .u8 (c.toNat : Int)
def strB (l : List UInt8) : ByteArray := ⟨l.toArray⟩
theorem strB_app (a b : List UInt8) : strB a ++ strB b = strB (a ++ b) := by
  unfold strB
  apply ByteArray.ext
  simp
theorem strB_size (l : List UInt8) : (strB l).size = l.length := by simp [strB, ByteArray.size]
/-- the text of a number -/
def dS (n : Int) : List UInt8 := Lib.itoa n
def dgB (u : Nat) : UInt8 := UInt8.ofNat (48 + u % 10)
theorem dgB_nat (u : Nat) : (dgB u).toNat = 48 + u % 10 := by
  unfold dgB
  rw [UInt8.toNat_ofNat']
  omega
theorem dgB_F (u : Nat) : Value.int .u8 (48 + (u : Int) % 10) = bF (dgB u) := by
  unfold bF; rw [dgB_nat]; congr 1
def dgs (u : Nat) : List UInt8 := if _h : u = 0 then [] else dgs (u / 10) ++ [dgB u]
termination_by u
decreasing_by omega
theorem dgs_zero : dgs 0 = [] := by rw [dgs, dif_pos rfl]
theorem dgs_succ {u : Nat} (h : ¬ u = 0) : dgs u = dgs (u / 10) ++ [dgB u] := by rw [dgs, dif_neg h]
theorem dgs_dec (u : Nat) (h : ¬ u = 0) : dgs u = Lib.decDigits u := by
  rw [dgs_succ h, Lib.decDigits]
  split
  · rename_i h1
    rw [show u / 10 = 0 by omega, dgs_zero]
    unfold dgB
    rw [Nat.mod_eq_of_lt h1]; rfl
  · rename_i h1
    rw [dgs_dec (u / 10) (by omega)]; rfl
termination_by u
decreasing_by omega
theorem dgs_len : ∀ (k u : Nat), u < 10 ^ k → (dgs u).length ≤ k
  | 0, u, h => by rw [show u = 0 by simpa using h, dgs_zero]; exact Nat.le_refl _
  | k + 1, u, h => by
    by_cases h0 : u = 0
    · subst h0; rw [dgs_zero]; exact Nat.zero_le _
    · rw [dgs_succ h0, List.length_append]
      have := dgs_len k (u / 10) (by rw [Nat.pow_succ] at h; omega)
      simp; omega
theorem dgs_20 {u : Nat} (h : u ≤ 9223372036854775808) : (dgs u).length ≤ 20 := dgs_len 20 u (by omega)
theorem dgs_ne {u : Nat} (h : ¬ u = 0) : 0 < (dgs u).length := by rw [dgs_succ h]; simp
theorem dS_zero : dS 0 = [48] := by
  unfold dS Lib.itoa
  rw [if_neg (by decide)]
  exact Lib.decDigits_one (by decide)
theorem dS_pos {u : Nat} (h : ¬ u = 0) : dS (u : Int) = dgs u := by
  unfold dS Lib.itoa
  rw [if_neg (by omega), dgs_dec u h]; rfl
theorem dS_neg {u : Nat} (h : ¬ u = 0) : dS (-(u : Int)) = 45 :: dgs u := by
  unfold dS Lib.itoa
  rw [if_pos (by omega), dgs_dec u h]; simp
theorem dS_len {n : Int} (h : -9223372036854775808 ≤ n ∧ n ≤ 9223372036854775807) : (dS n).length ≤ 21 := by
  rcases Int.lt_or_le n 0 with h0 | h0
  · have e : n = -((n.natAbs : Nat) : Int) := by omega
    rw [e, dS_neg (by omega)]
    have := dgs_20 (u := n.natAbs) (by omega)
    simp; omega
  · by_cases h1 : n = 0
    · subst h1; rw [dS_zero]; simp
    · have e : n = ((n.natAbs : Nat) : Int) := by omega
      rw [e, dS_pos (by omega)]
      have := dgs_20 (u := n.natAbs) (by omega)
      omega
theorem tmod_neg10 (u : Nat) : (-(u : Int)).tmod 10 = -((u : Int) % 10) := by rw [Int.neg_tmod, Int.tmod_eq_emod_of_nonneg (by omega)]
theorem tdiv_neg10 (u : Nat) : (-(u : Int)).tdiv 10 = -((u / 10 : Nat) : Int) := by rw [Int.neg_tdiv, Int.tdiv_eq_ediv_of_nonneg (by omega)]; rfl
/-- a row of bytes as a text -/
theorem RS.bytes {w : World} {e : TypeId} {lo hi c g : Nat} {l : List UInt8} (h : RS bF e w lo hi (some ⟨g, 0, none⟩) c l) : Lib.Bytes w g 0 (strB l) := by
  intro i hi'
  have hl : i < l.length := by simpa [strB, ByteArray.size] using hi'
  obtain ⟨g', e1, _, _, _, hc, _⟩ := h.cellAt (List.getElem?_eq_getElem hl)
  simp only [Option.some.injEq, Addr.mk.injEq, and_true] at e1
  subst e1
  rw [Nat.zero_add, hc]
  rfl
theorem RS.text {P : Program} {w : World} {e : TypeId} {lo hi c : Nat} {A : Option Addr} {l : List UInt8} (h : RS bF e w lo hi A c l) (hp : 0 < l.length) (src dst el : TypeId) (hs : P.underlying src = some (.slice el)) (he : P.underlying el = some (.int .u8)) (hd : P.underlying dst = some .string) :
    (convert src dst (.slice A l.length c)).run P w = .ok (.string (strB l)) w := by
  obtain ⟨g, rfl, _⟩ := h.isAt hp
  have h2 := Lib.run_convert_whole (P := P) w src el dst hs he hd g 0 (strB l) h.bytes c
  rw [show (strB l).size = l.length by simp [strB, ByteArray.size]] at h2
  exact h2
theorem infoByte : (Tryd.prog.info? 5).map (fun i => (i.zero, i.size, i.bytes)) = some (some (.int .u8 0), 1, 1) := by kernel_rfl
set_option maxHeartbeats 4000000 in
set_option maxRecDepth 20000 in
theorem dec_pos (n : Nat) (hn0 : ¬ n = 0) (hn : n ≤ 9223372036854775808) (hn2 : (n : Int) ≤ 9223372036854775807) (w : World) : Calls Tryd.prog 33 #[.int .i64 (n : Int)] w fun e w' => e = .returned (.string (strB (dS (n : Int)))) ∧ Below w.heap.size w w' := by
  obtain ⟨i0, hi, hz0, hz1, hz2⟩ := info_parts infoByte
  go_enter Tryd.func33, Tryd.ntmps33
  go_wp2
  go_loopw [3, 4] (fun o k wr => ∃ (u g q : Nat) (l : List UInt8), u ≤ n ∧ k = .int .i64 (u : Int) ∧ o = .slice (some ⟨g, 0, none⟩) l.length q ∧ RS bF 5 wr w.heap.size wr.heap.size (some ⟨g, 0, none⟩) q l ∧ Hid (dgs n = dgs u ++ l) ∧ Below w.heap.size w wr) (fun _ k _ => (intOf k).natAbs)
  case atStart => exact ⟨n, w.heap.size, 0, [], Nat.le_refl _, rfl, rfl, (RS.lit0 (f := bF) (e := 5) w).top, by simp [Hid], gr_alloc (gr_refl w)⟩
  case round =>
    obtain ⟨u, g, q, l, hu, rfl, rfl, hr, HD, hbe⟩ := hrel
    have HR := Lib.hid hr
    have HB2 := Lib.hid hbe
    have hlen : l.length ≤ 20 := by have h1 := dgs_20 hn; rw [HD.out, List.length_append] at h1; omega
    have hsz := hbe.size
    clear hr hbe
    by_cases h0 : u = 0
    · subst h0
      have hl : l = dgs n := by have h1 := HD.out; rw [dgs_zero] at h1; simpa using h1.symm
      have hlp : 0 < l.length := by rw [hl]; exact dgs_ne hn0
      have HT := Lib.hid (show strB l = strB (dgs n) by rw [hl])
      have htx := HR.out.text (P := Tryd.prog) hlp 42 9 5 Tryd.underlying42 Tryd.underlying5 Tryd.underlying9
      have hlb : ((l.length : Int) == 0) = false := by rw [beq_eq_false_iff_ne]; omega
      have hc0 : ((0 : Nat) : Int) = 0 := rfl
      clear hl
      simp only [hc0]
      have hng : decide ((n : Int) < 0) = false := decide_eq_false (by omega)
      go_wp2
      go_ret
      exact ⟨by first | (rw [dS_pos hn0]; done) | (rw [dS_pos hn0]; rfl) | (rw [HT.out, dS_pos hn0]; done) | (rw [HT.out, dS_pos hn0]; rfl), HB2.out⟩
    · have hub : (u : Int) ≤ 9223372036854775808 := by omega
      have HLIT := Lib.hid (show RS bF 5 (wr.alloc (.cells #[.int .u8 (48 + (u : Int) % 10)] 5)) wr.heap.size (wr.heap.size + 1) (some ⟨wr.heap.size, 0, none⟩) 1 [dgB u] by rw [dgB_F]; exact RS.of_bv (xs := [dgB u]) (heap_alloc_new wr _) (Nat.le_refl _) (Nat.lt_succ_self _) (by unfold maxLen; simp))
      have HS := Lib.hid (dgs_succ h0)
      have hu1 : 1 ≤ (u : Int) := by omega
      have hm0 : 0 ≤ (u : Int) % 10 := by omega
      have hm1 : (u : Int) % 10 ≤ 9 := by omega
      have hne : ((u : Int) != 0) = true := by rw [bne_iff_ne]; omega
      have hd : decide ((u : Int) % 10 < 0) = false := decide_eq_false (by omega)
      clear h0
      go_wp2_with (at_builtin; refine wpList_app (by rfl) _ _ 42 (by rfl) (wr.heap.size) 5 i0 (.int .u8 0) 1 Tryd.underlying42 hi hz0 hz1 hz2 (by rfl) bF (fun _ => rfl) (some ⟨wr.heap.size, 0, none⟩) 1 1 [dgB u] (wr.heap.size + 1) (by rfl) (by rfl) HLIT.out (some ⟨g, 0, none⟩) (l.length) q l _ (by rfl) (by rfl) (HR.out.sv.below (gr_alloc (gr_refl wr))) (fun h => by cases h) (by unfold maxLen; omega) (by omega) (by simp) ?_; intro A2 c2 w2 hr2 hgrow hblk; obtain ⟨g2, rfl, hg2, _, _⟩ := hr2.isAt (by simp); have HR2 := Lib.hid hr2; have HB3 := Lib.hid ((gr_alloc HB2.out).grown hgrow (by have := HB2.out.size; simp only [World.size_alloc]; omega) (by intro k' hk'; simp at hk'; omega)); clear hr2 hgrow hblk)
      go_roundw
      case rel => exact ⟨u / 10, g2, c2, dgB u :: l, by omega, by first | rfl | go_num, by simp only [List.length_cons]; rw [Nat.add_comm], HR2.out.wide (by omega) (Nat.le_refl _), by rw [HD.out, HS.out, List.append_assoc]; rfl, HB3.out⟩
      case measure => simp [intOf]; omega
set_option maxHeartbeats 4000000 in
set_option maxRecDepth 20000 in
theorem dec_neg (n : Nat) (hn0 : ¬ n = 0) (hn : n ≤ 9223372036854775808) (w : World) : Calls Tryd.prog 33 #[.int .i64 (-(n : Int))] w fun e w' => e = .returned (.string (strB (dS (-(n : Int))))) ∧ Below w.heap.size w w' := by
  obtain ⟨i0, hi, hz0, hz1, hz2⟩ := info_parts infoByte
  go_enter Tryd.func33, Tryd.ntmps33
  go_wp2
  go_loopw [3, 4] (fun o k wr => ∃ (u g q : Nat) (l : List UInt8), u ≤ n ∧ k = .int .i64 (-(u : Int)) ∧ o = .slice (some ⟨g, 0, none⟩) l.length q ∧ RS bF 5 wr w.heap.size wr.heap.size (some ⟨g, 0, none⟩) q l ∧ Hid (dgs n = dgs u ++ l) ∧ Below w.heap.size w wr) (fun _ k _ => (intOf k).natAbs)
  case atStart => exact ⟨n, w.heap.size, 0, [], Nat.le_refl _, rfl, rfl, (RS.lit0 (f := bF) (e := 5) w).top, by simp [Hid], gr_alloc (gr_refl w)⟩
  case round =>
    obtain ⟨u, g, q, l, hu, rfl, rfl, hr, HD, hbe⟩ := hrel
    have HR := Lib.hid hr
    have HB2 := Lib.hid hbe
    have hlen : l.length ≤ 20 := by have h1 := dgs_20 hn; rw [HD.out, List.length_append] at h1; omega
    have hsz := hbe.size
    clear hr hbe
    by_cases h0 : u = 0
    · subst h0
      have hl : l = dgs n := by have h1 := HD.out; rw [dgs_zero] at h1; simpa using h1.symm
      have hlp : 0 < l.length := by rw [hl]; exact dgs_ne hn0
      have HT := Lib.hid (show strB l = strB (dgs n) by rw [hl])
      have htx := HR.out.text (P := Tryd.prog) hlp 42 9 5 Tryd.underlying42 Tryd.underlying5 Tryd.underlying9
      have hlb : ((l.length : Int) == 0) = false := by rw [beq_eq_false_iff_ne]; omega
      have hc0 : ((0 : Nat) : Int) = 0 := rfl
      clear hl
      simp only [hc0, Int.neg_zero]
      have hng1 : 0 < (n : Int) := by omega
      have hng2 := decide_eq_true hng1
      have hss : (strB l).size ≤ 20 := by rw [strB_size]; exact hlen
      have hng3 := decide_eq_true (show -(n : Int) < 0 by omega)
      go_wp2
      go_ret
      exact ⟨by rw [dS_neg hn0]; have h9 := strB_app [45] (dgs n); first | exact congrArg (fun s => Ending.returned (Value.string s)) h9 | (rw [HT.out]; exact congrArg (fun s => Ending.returned (Value.string s)) h9), HB2.out⟩
    · have hub : (u : Int) ≤ 9223372036854775808 := by omega
      have HLIT := Lib.hid (show RS bF 5 (wr.alloc (.cells #[.int .u8 (48 + (u : Int) % 10)] 5)) wr.heap.size (wr.heap.size + 1) (some ⟨wr.heap.size, 0, none⟩) 1 [dgB u] by rw [dgB_F]; exact RS.of_bv (xs := [dgB u]) (heap_alloc_new wr _) (Nat.le_refl _) (Nat.lt_succ_self _) (by unfold maxLen; simp))
      have HS := Lib.hid (dgs_succ h0)
      have hu1 : 1 ≤ (u : Int) := by omega
      have hm0 : 0 ≤ (u : Int) % 10 := by omega
      have hm1 : (u : Int) % 10 ≤ 9 := by omega
      have hne : (-(u : Int) != 0) = true := by rw [bne_iff_ne]; omega
      have ht1 := tmod_neg10 u
      have ht2 := tdiv_neg10 u
      have hq0 : (0 : Int) ≤ ((u / 10 : Nat) : Int) := by omega
      have hq1 : ((u / 10 : Nat) : Int) ≤ 9223372036854775807 := by omega
      by_cases hz : (u : Int) % 10 = 0
      · have HL0 := Lib.hid (show Value.int .u8 48 = bF (dgB u) by rw [← dgB_F, hz]; rfl)
        replace HLIT := Lib.hid (show RS bF 5 (wr.alloc (.cells #[.int .u8 48] 5)) wr.heap.size (wr.heap.size + 1) (some ⟨wr.heap.size, 0, none⟩) 1 [dgB u] by rw [HL0.out]; exact RS.of_bv (xs := [dgB u]) (heap_alloc_new wr _) (Nat.le_refl _) (Nat.lt_succ_self _) (by unfold maxLen; simp))
        rw [hz] at ht1
        have ht3 : (-(u : Int)).tmod 10 = 0 := ht1
        clear ht1 hm0 hm1 h0 hz
        go_wp2_with (at_builtin; refine wpList_app (by rfl) _ _ 42 (by rfl) (wr.heap.size) 5 i0 (.int .u8 0) 1 Tryd.underlying42 hi hz0 hz1 hz2 (by rfl) bF (fun _ => rfl) (some ⟨wr.heap.size, 0, none⟩) 1 1 [dgB u] (wr.heap.size + 1) (by rfl) (by rfl) HLIT.out (some ⟨g, 0, none⟩) (l.length) q l _ (by rfl) (by rfl) (HR.out.sv.below (gr_alloc (gr_refl wr))) (fun h => by cases h) (by unfold maxLen; omega) (by omega) (by simp) ?_; intro A2 c2 w2 hr2 hgrow hblk; obtain ⟨g2, rfl, hg2, _, _⟩ := hr2.isAt (by simp); have HR2 := Lib.hid hr2; have HB3 := Lib.hid ((gr_alloc HB2.out).grown hgrow (by have := HB2.out.size; simp only [World.size_alloc]; omega) (by intro k' hk'; simp at hk'; omega)); clear hr2 hgrow hblk)
        go_roundw
        case rel => exact ⟨u / 10, g2, c2, dgB u :: l, by omega, by first | rfl | go_num, by simp only [List.length_cons]; rw [Nat.add_comm], HR2.out.wide (by omega) (Nat.le_refl _), by rw [HD.out, HS.out, List.append_assoc]; rfl, HB3.out⟩
        case measure => simp [intOf]; omega
      have hy2 : 0 < (u : Int) % 10 := by omega
      have hy3 := decide_eq_true hy2
      have hy4 := decide_eq_true (show -((u : Int) % 10) < 0 by omega)
      clear hz
      clear h0
      go_wp2_with (at_builtin; refine wpList_app (by rfl) _ _ 42 (by rfl) (wr.heap.size) 5 i0 (.int .u8 0) 1 Tryd.underlying42 hi hz0 hz1 hz2 (by rfl) bF (fun _ => rfl) (some ⟨wr.heap.size, 0, none⟩) 1 1 [dgB u] (wr.heap.size + 1) (by rfl) (by rfl) HLIT.out (some ⟨g, 0, none⟩) (l.length) q l _ (by rfl) (by rfl) (HR.out.sv.below (gr_alloc (gr_refl wr))) (fun h => by cases h) (by unfold maxLen; omega) (by omega) (by simp) ?_; intro A2 c2 w2 hr2 hgrow hblk; obtain ⟨g2, rfl, hg2, _, _⟩ := hr2.isAt (by simp); have HR2 := Lib.hid hr2; have HB3 := Lib.hid ((gr_alloc HB2.out).grown hgrow (by have := HB2.out.size; simp only [World.size_alloc]; omega) (by intro k' hk'; simp at hk'; omega)); clear hr2 hgrow hblk)
      go_roundw
      case rel => exact ⟨u / 10, g2, c2, dgB u :: l, by omega, by first | rfl | go_num, by simp only [List.length_cons]; rw [Nat.add_comm], HR2.out.wide (by omega) (Nat.le_refl _), by rw [HD.out, HS.out, List.append_assoc]; rfl, HB3.out⟩
      case measure => simp [intOf]; omega
set_option maxHeartbeats 1000000 in
theorem dec_any (n : Int) (hn : -9223372036854775808 ≤ n ∧ n ≤ 9223372036854775807) (w : World) : Calls Tryd.prog 33 #[.int .i64 n] w fun e w' => e = .returned (.string (strB (dS n))) ∧ Below w.heap.size w w' := by
  rcases Int.lt_or_le n 0 with h0 | h0
  · have e : n = -((n.natAbs : Nat) : Int) := by omega
    have h := dec_neg n.natAbs (by omega) (by omega) w
    rw [← e] at h; exact h
  · by_cases h1 : n = 0
    · subst h1
      rw [dS_zero]
      go_enter Tryd.func33, Tryd.ntmps33
      go_wp2
      go_loopw [3, 4] (fun o k wr => o = .slice (some ⟨w.heap.size, 0, none⟩) 0 0 ∧ k = .int .i64 0 ∧ wr = w.alloc (.cells #[] 5)) (fun _ _ _ => 0)
      case atStart => exact ⟨rfl, rfl, rfl⟩
      case round =>
        obtain ⟨rfl, rfl, rfl⟩ := hrel
        go_wp2
        go_ret
        exact ⟨rfl, gr_alloc (gr_refl w)⟩
    · have e : n = ((n.natAbs : Nat) : Int) := by omega
      have h := dec_pos n.natAbs (by omega) (by omega) (by omega) w
      rw [← e] at h; exact h
end Go.Proofs.YtoojnfdphjdocaaDoor
