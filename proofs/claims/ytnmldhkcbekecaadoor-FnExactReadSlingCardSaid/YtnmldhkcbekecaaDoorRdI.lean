/- Numbers read by the program; pairs of numbers (the reference). -/
import Derived.Test.YtnmldhkcbekecaaDoorRdS
import Derived.Test.YtnmldhkcbekecaaDoorDecI
import Derived.Lib.AtoiErrMem
import Derived.WalkSpells
namespace Go.Proofs.YtnmldhkcbekecaaDoor
open Go.RowKit Go.Deep
theorem keepc {W w1 : World} {b o : Nat} {v : Value} (hb : Below W.heap.size W w1) (h : W.cell? ⟨b, o, none⟩ = some v) : w1.cell? ⟨b, o, none⟩ = some v := (hb.cell (p := ⟨b, o, none⟩) (lt_of_cell h)).trans h
/-- what the library's texts read of variables -/
def RVars (w : World) : Prop := (∃ m, w.cell? ⟨0, 0, none⟩ = some (.int .i64 m)) ∧ (∃ ev, w.cell? ⟨2, 0, none⟩ = some ev ∧ (ev = .nilIface ∨ ∃ te pe, ev = .iface te pe)) ∧ (∃ ev, w.cell? ⟨3, 0, none⟩ = some ev ∧ (ev = .nilIface ∨ ∃ te pe, ev = .iface te pe)) ∧ Pow10 w
theorem RVars.late {w w' : World} (h : RVars w) (hb : Below w.heap.size w w') : RVars w' := by
  obtain ⟨⟨m, h1⟩, ⟨e1, h2, k2⟩, ⟨e2, h3, k3⟩, h4⟩ := h
  exact ⟨⟨m, keepc hb h1⟩, ⟨e1, keepc hb h2, k2⟩, ⟨e2, keepc hb h3, k3⟩, h4.later hb⟩
theorem trim_tl (l : List UInt8) : Lib.trimPrefix l [45] = tlN l := by
  cases l with
  | nil => rfl
  | cons c r =>
    unfold Lib.trimPrefix Lib.hasPrefix
    by_cases h : c = 45
    · subst h; rfl
    · show (if ([45] : List UInt8).isPrefixOf (c :: r) = true then _ else _) = if c = 45 then r else c :: r
      rw [if_neg h, if_neg]
      simp [List.isPrefixOf, Ne.symm h]
theorem RVars.pow {w : World} (h : RVars w) : Pow10 w := h.2.2.2
def numS (s : ByteArray) : Int := numN s.data.toList
def okS (s : ByteArray) : Bool := okN s.data.toList
theorem trim_is (s : ByteArray) (w : World) {T : ByteArray} (hT : strB (tlN s.data.toList) = T) : Calls Tryd.prog 29 #[.string s, .string ⟨#[45]⟩] w fun e w' => e = .returned (.string T) ∧ w = w' := by
  refine (strings_TrimPrefix s ⟨#[45]⟩ w).mono fun e w' ⟨he, hw⟩ => ⟨?_, hw.symm⟩
  rw [he, ← hT, ← trim_tl]
  rfl
theorem parse_y (s : ByteArray) (w : World) (hs : s.size ≤ 1048576) {v : Int} (h : Lib.parseIntB 64 s.data.toList = .ok v) : Calls Tryd.prog 30 #[.string s, .int .i64 10, .int .i64 64] w fun e w' => e = .returned (.tuple #[.int .i64 v, .nilIface]) ∧ Below w.heap.size w w' := by
  refine (strconv_ParseInt_10_at64_ok s (by omega) v h w).mono fun e w' ⟨he, hw⟩ => ⟨he, ?_⟩
  rcases hw with rfl | ⟨t, rfl⟩
  · exact gr_refl _
  · exact Lib.bytesWorld_below _ _ _
/-- a number and an error were handed back -/
def BadNum (w : World) (e : Ending) (w' : World) : Prop := ∃ (v : Int) (t : TypeId) (p : Value), e = .returned (.tuple #[.int .i64 v, .iface t p]) ∧ Below w.heap.size w w'
theorem parse_n (s : ByteArray) (w : World) (hs : s.size ≤ 1048576) (h : ∀ v, Lib.parseIntB 64 s.data.toList ≠ .ok v) (hV : RVars w) : Calls Tryd.prog 30 #[.string s, .int .i64 10, .int .i64 64] w (BadNum w) := by
  obtain ⟨_, ⟨e1, h2, k2⟩, ⟨e2, h3, k3⟩, _⟩ := hV
  cases hp : Lib.parseIntB 64 s.data.toList
  · rename_i v; exact absurd hp (h v)
  · exact (strconv_ParseInt_10_at64_syntax s (by omega) hp e1 w h2 k2).mono fun e w' ⟨N, he, _, _, hb⟩ => ⟨_, _, _, he, hb⟩
  · exact (strconv_ParseInt_10_at64_range s (by omega) hp e2 w h3 k3).mono fun e w' ⟨N, he, _, _, hb⟩ => ⟨_, _, _, he, hb⟩
set_option maxHeartbeats 4000000 in
set_option maxRecDepth 20000 in
theorem readDec_any (s : ByteArray) (w : World) (hs : s.size ≤ 1048576) (hV : RVars w) : Calls Tryd.prog 26 #[.string s] w fun e w' => e = .returned (.tuple #[.int .i64 (numS s), .bool (okS s)]) ∧ Below w.heap.size w w' := by
  have HV := Lib.hid hV
  clear hV
  obtain ⟨R, hR⟩ : ∃ q, okS s = q := ⟨_, rfl⟩
  obtain ⟨V, hVV⟩ : ∃ q, numS s = q := ⟨_, rfl⟩
  rw [hR, hVV]
  have HR := Lib.hid hR
  have HN := Lib.hid hVV
  clear hR hVV
  obtain ⟨T, hT⟩ : ∃ T, strB (tlN s.data.toList) = T := ⟨_, rfl⟩
  have HT := Lib.hid hT
  have HTL := Lib.hid (show T.size = (tlN s.data.toList).length by rw [← hT, strB_size])
  clear hT
  have HBAD : Hid (okN s.data.toList = false → R = false ∧ V = 0) := fun h => ⟨HR.out.symm.trans h, HN.out.symm.trans (numN_f h)⟩
  by_cases h2 : 18 < T.size
  · have d2 : decide ((18 : Int) < (T.size : Int)) = true := decide_eq_true (by omega)
    have HB := Lib.hid (HBAD.out (okN_long (by rw [← HTL.out]; exact h2)))
    go_enter Tryd.func26, Tryd.ntmps26
    go_wp2_with (go_at_call 29; (with_reducible refine (trim_is s _ HT.out).mono ?_); rintro r w1 ⟨rfl, rfl⟩)
    go_returns
    exact ⟨by rw [HB.out.1, HB.out.2]; rfl, gr_refl _⟩
  have d2 : decide ((18 : Int) < (T.size : Int)) = false := decide_eq_false (by omega)
  by_cases hp : ∃ v, Lib.parseIntB 64 s.data.toList = .ok v
  case neg =>
    have HNP := Lib.hid (show ∀ v, Lib.parseIntB 64 s.data.toList ≠ .ok v from fun v h => hp ⟨v, h⟩)
    have HB := Lib.hid (HBAD.out (okN_noparse HNP.out))
    clear hp
    go_enter Tryd.func26, Tryd.ntmps26
    go_wp2_with fail
    go_at_call 29
    (with_reducible refine (trim_is s _ HT.out).mono ?_)
    rintro r w1 ⟨rfl, rfl⟩
    go_wp2_with fail
    go_at_call 30
    (with_reducible refine (parse_n s _ hs HNP.out HV.out).mono ?_)
    rintro r w2 ⟨v, t, p, rfl, hb⟩
    have HB2 := Lib.hid hb
    clear hb
    go_wp2
    go_returns
    exact ⟨by rw [HB.out.1, HB.out.2]; rfl, HB2.out⟩
  obtain ⟨v, hv⟩ := hp
  have HP := Lib.hid hv
  obtain ⟨o1, o2⟩ := okN_parse (by rw [← HTL.out]; omega) hv
  have HO1 := Lib.hid o1
  have HO2 := Lib.hid o2
  have hvb := Lib.parseIntB_bounds hv
  have hv1 : -9223372036854775808 ≤ v ∧ v ≤ 9223372036854775807 := by omega
  clear o1 o2 hv hvb
  by_cases he : dS v = s.data.toList
  · have HB := Lib.hid (show R = true ∧ V = v from ⟨HR.out.symm.trans (HO1.out.trans (decide_eq_true he)), HN.out.symm.trans (HO2.out (HO1.out.trans (decide_eq_true he)))⟩)
    have he2 : ((strB (dS v)).toList == s.toList) = true := by rw [he, strB_of]; exact beq_self_eq_true _
    clear he
    go_enter Tryd.func26, Tryd.ntmps26
    go_wp2_with fail
    go_at_call 29
    (with_reducible refine (trim_is s _ HT.out).mono ?_)
    rintro r w1 ⟨rfl, rfl⟩
    go_wp2_with fail
    go_at_call 30
    (with_reducible refine (parse_y s _ hs HP.out).mono ?_)
    rintro r w2 ⟨rfl, hb⟩
    have HB2 := Lib.hid hb
    have HV2 := Lib.hid (HV.out.late hb)
    clear hb
    go_wp2_with fail
    go_at_call 14
    (with_reducible refine (decimal_any v hv1 _ (RVars.pow HV2.out)).mono ?_)
    rintro r w3 ⟨rfl, hb⟩
    have HB3 := Lib.hid (gr_then hb HB2.out)
    clear hb
    go_wp2
    go_returns
    exact ⟨by rw [HB.out.1, HB.out.2]; rfl, HB3.out⟩
  · have HB := Lib.hid (show R = false ∧ V = 0 from HBAD.out (HO1.out.trans (decide_eq_false he)))
    have he2 : ((strB (dS v)).toList == s.toList) = false := by rw [beq_eq_false_iff_ne]; intro h9; have h8 := txt_eq h9; exact he (by rw [← h8, strB_list])
    clear he
    go_enter Tryd.func26, Tryd.ntmps26
    go_wp2_with fail
    go_at_call 29
    (with_reducible refine (trim_is s _ HT.out).mono ?_)
    rintro r w1 ⟨rfl, rfl⟩
    go_wp2_with fail
    go_at_call 30
    (with_reducible refine (parse_y s _ hs HP.out).mono ?_)
    rintro r w2 ⟨rfl, hb⟩
    have HB2 := Lib.hid hb
    have HV2 := Lib.hid (HV.out.late hb)
    clear hb
    go_wp2_with fail
    go_at_call 14
    (with_reducible refine (decimal_any v hv1 _ (RVars.pow HV2.out)).mono ?_)
    rintro r w3 ⟨rfl, hb⟩
    have HB3 := Lib.hid (gr_then hb HB2.out)
    clear hb
    go_wp2
    go_returns
    exact ⟨by rw [HB.out.1, HB.out.2]; rfl, HB3.out⟩
theorem intInfoR : (Tryd.prog.info? 2).map (fun i => (i.zero, i.size, i.bytes)) = some (some (.int .i64 0), 1, 8) := by kernel_rfl
/-- what readAll hands back -/
def RetAll (ws : List ByteArray) (w : World) (e : Ending) (w' : World) : Prop := ∃ (A : Option Addr) (m c : Nat), e = .returned (.tuple #[.slice A m c, .bool (ws.all okS)]) ∧ (ws.all okS = true → m = ws.length ∧ RS (.int .i64) 2 w' w.heap.size w'.heap.size A c (ws.map numS)) ∧ Below w.heap.size w w'
set_option maxHeartbeats 8000000 in
set_option maxRecDepth 20000 in
theorem readAll_any (A : Option Addr) (n c : Nat) (ws : List ByteArray) (w : World) (hl : ws.length = n) (hn : n ≤ 1000) (hs : ∀ s ∈ ws, s.size ≤ 1048576) (h : SV .string w w.heap.size A ws) (hV : RVars w) : Calls Tryd.prog 19 #[.slice A n c] w (RetAll ws w) := by
  obtain ⟨i0, hi, zi0, zi1, zi2⟩ := info_parts intInfoR
  have H := Lib.hid h
  have HV := Lib.hid hV
  have HL := Lib.hid hl
  have HS := Lib.hid hs
  clear h hV hl hs
  go_enter Tryd.func19, Tryd.ntmps19; go_wp2
  go_loopw [4, 11] (fun ov iv wr => ∃ (k d : Nat) (B : Option Addr), k ≤ n ∧ iv = .int .i64 (k : Int) ∧ ov = .slice B k d ∧ RS (.int .i64) 2 wr w.heap.size wr.heap.size B d ((ws.take k).map numS) ∧ Hid ((ws.take k).all okS = true) ∧ Below w.heap.size w wr) (fun _ iv _ => n - (intOf iv).toNat)
  case atStart => exact ⟨0, 0, none, by omega, rfl, rfl, RS.nil, rfl, gr_refl w⟩
  case round =>
    obtain ⟨k, d, B, hk, rfl, rfl, hr, HK, hbe⟩ := hrel
    have HRr := Lib.hid hr
    have HBe := Lib.hid hbe
    clear hr hbe
    by_cases hkn : k < n
    case neg =>
      obtain rfl : k = n := by omega
      have HTK := Lib.hid (show ws.take k = ws from List.take_of_length_le (by rw [HL.out]; exact Nat.le_refl _))
      have HA := Lib.hid (show ws.all okS = true by rw [← HTK.out]; exact HK.out)
      go_wp2
      go_returns
      exact ⟨B, k, d, by rw [HA.out]; rfl, fun _ => ⟨HL.out.symm, by rw [← HTK.out]; exact HRr.out⟩, HBe.out⟩
    obtain ⟨t, ht⟩ := at_of_lt (xs := ws) (k := k) (by rw [HL.out]; exact hkn)
    obtain ⟨b, off, rfl, hB, hc⟩ := (H.out.below HBe.out).at_ ht
    have hts := HS.out t (List.mem_of_getElem? ht)
    have HTK := Lib.hid (show ws.take (k + 1) = ws.take k ++ [t] by rw [List.take_add_one, ht]; rfl)
    have HMT := Lib.hid (List.mem_of_getElem? ht)
    clear ht
    have hd : decide (k < n) = true := decide_eq_true hkn
    obtain ⟨R, hR⟩ : ∃ q, okS t = q := ⟨_, rfl⟩
    obtain ⟨V, hVV⟩ : ∃ q, numS t = q := ⟨_, rfl⟩
    have HRT := Lib.hid hR
    have HVT := Lib.hid hVV
    clear hR hVV
    go_wp2_with fail
    go_at_call 26
    (with_reducible refine (readDec_any t _ hts (HV.out.late HBe.out)).mono ?_)
    rw [HRT.out, HVT.out]
    rintro r w2 ⟨rfl, hb⟩
    replace HRr := Lib.hid (HRr.out.late hb)
    have HBr := Lib.hid (gr_then hb HBe.out)
    have hzb := hb.size
    clear hb
    cases R
    · have HA := Lib.hid (show ws.all okS = false by rw [Bool.eq_false_iff]; intro h9; have h8 := List.all_eq_true.1 h9 t HMT.out; rw [HRT.out] at h8; cases h8)
      go_wp2
      go_returns
      exact ⟨none, 0, 0, by rw [HA.out]; rfl, (fun h9 => Bool.noConfusion (HA.out.symm.trans h9)), HBr.out⟩
    · go_wp2_with (at_builtin; refine wpList_app (by rfl) _ _ 45 (by rfl) (w.heap.size) 2 i0 (.int .i64 0) 8 Tryd.underlying45 hi zi0 zi1 zi2 (by rfl) (Value.int .i64) (fun _ => rfl) B (k) (d) ((ws.take k).map numS) (wr.heap.size) (by rfl) (by rw [List.length_map, List.length_take, HL.out]; omega) (HRr.out.late (gr_alloc (gr_refl w2))) (some ⟨w2.heap.size, 0, none⟩) 1 1 [V] (w2.heap.size + 1) (by rfl) (by rfl) (SV.of_new w2) (fun h => by cases h) (by unfold maxLen; omega) (by omega) (by have := HBr.out.size; simp only [World.size_alloc]; omega) ?_; intro A6 c6 w6 hr6 hgrow6 hblk6; have HR6 := Lib.hid hr6; have HB6 := Lib.hid ((HRr.out.late (gr_alloc (gr_refl w2))).after (gr_alloc (o := .cells #[.int .i64 V] 2) HBr.out) hgrow6 (by have := HBr.out.size; simp only [World.size_alloc]; omega) (Nat.le_refl _)); clear hr6 hgrow6 hblk6)
      go_roundw
      case rel => exact ⟨k + 1, c6, A6, by omega, by go_num, rfl, by rw [HTK.out, List.map_append, List.map_cons, List.map_nil, HVT.out]; exact HR6.out, by rw [Hid, HTK.out, List.all_append, HK.out]; simp [HRT.out], HB6.out⟩
      case measure => simp [intOf]; omega
/-- a pair of numbers -/
def prA (s : ByteArray) (b : UInt8) : Int := if (splB s b).length = 2 then numS ((splB s b).getD 0 ⟨#[]⟩) else 0
def prB (s : ByteArray) (b : UInt8) : Int := if (splB s b).length = 2 then numS ((splB s b).getD 1 ⟨#[]⟩) else 0
def prK (s : ByteArray) (b : UInt8) : Bool := decide ((splB s b).length = 2) && (okS ((splB s b).getD 0 ⟨#[]⟩) && okS ((splB s b).getD 1 ⟨#[]⟩))
theorem spl_size {s : ByteArray} {b : UInt8} (h : (splB s b).length = 2) : ((splB s b).getD 0 ⟨#[]⟩).size ≤ s.size ∧ ((splB s b).getD 1 ⟨#[]⟩).size ≤ s.size := by
  obtain ⟨A, B, e, _, _, e2⟩ := splB_two h
  rw [e2]
  subst e
  simp only [List.getD_cons_zero, List.getD_cons_succ, strB_size, List.length_append, List.length_cons]
  omega
theorem number_is (s : ByteArray) (w : World) (hs : s.size ≤ 1048576) {V : Int} {R : Bool} (hV : numS s = V) (hR : okS s = R) : Calls Tryd.prog 16 #[.string s] w fun e w' => e = .returned (.tuple #[.int .i64 V, .bool R]) ∧ Below w.heap.size w w' := by rw [← hV, ← hR]; exact number_any s w hs
set_option maxHeartbeats 8000000 in
set_option maxRecDepth 20000 in
theorem pair_is (s : ByteArray) (b : UInt8) (y : Int) (hy : (b.toNat : Int) = y) (w : World) (hs : s.size ≤ 1048576) : Calls Tryd.prog 17 #[.string s, .int .u8 y] w fun e w' => e = .returned (.tuple #[.int .i64 (prA s b), .int .i64 (prB s b), .bool (prK s b)]) ∧ Below w.heap.size w w' := by
  obtain ⟨L, hL⟩ : ∃ L, splB s b = L := ⟨_, rfl⟩
  have HSP : Hid (∀ w : World, Calls Tryd.prog 15 #[.string s, .int .u8 y] w fun e w' => ∃ (A : Option Addr) (n c : Nat), e = .returned (.slice A n c) ∧ L.length = n ∧ RS .string 9 w' w.heap.size w'.heap.size A c L ∧ Below w.heap.size w w') := fun w => by have h9 := split_is s b y hy w hs; rw [hL] at h9; exact h9
  by_cases h2 : L.length = 2
  case neg =>
    rw [show prA s b = 0 from if_neg (by rw [hL]; exact h2), show prB s b = 0 from if_neg (by rw [hL]; exact h2), show prK s b = false by unfold prK; rw [hL, decide_eq_false h2]; rfl]
    clear hL
    go_enter Tryd.func17, Tryd.ntmps17; go_wp2_with fail
    go_at_call 15
    (with_reducible refine (HSP.out _).mono ?_)
    rintro r w1 ⟨A, n, c, rfl, hn, hr, hb⟩
    have hd : ((n : Int) != 2) = true := by rw [bne_iff_ne]; omega
    have HB := Lib.hid hb
    clear hn hr hb
    go_wp2
    go_returns
    exact ⟨rfl, HB.out⟩
  obtain ⟨s1, s2⟩ := spl_size (by rw [hL]; exact h2)
  rw [hL] at s1 s2
  obtain ⟨x0, hx0⟩ := at_of_lt (xs := L) (k := 0) (by omega)
  obtain ⟨x1, hx1⟩ := at_of_lt (xs := L) (k := 1) (by omega)
  have g0 : L.getD 0 ⟨#[]⟩ = x0 := by rw [List.getD_eq_getElem?_getD, hx0]; rfl
  have g1 : L.getD 1 ⟨#[]⟩ = x1 := by rw [List.getD_eq_getElem?_getD, hx1]; rfl
  rw [g0] at s1
  rw [g1] at s2
  obtain ⟨a, ha⟩ : ∃ q, numS x0 = q := ⟨_, rfl⟩
  obtain ⟨e, he⟩ : ∃ q, numS x1 = q := ⟨_, rfl⟩
  obtain ⟨p, hp⟩ : ∃ q, okS x0 = q := ⟨_, rfl⟩
  obtain ⟨q, hq⟩ : ∃ q, okS x1 = q := ⟨_, rfl⟩
  rw [show prA s b = a by unfold prA; rw [hL, if_pos h2, g0, ha], show prB s b = e by unfold prB; rw [hL, if_pos h2, g1, he], show prK s b = (p && q) by unfold prK; rw [hL, decide_eq_true h2, g0, g1, hp, hq]; rfl]
  have K0 := Lib.hid hx0
  have K1 := Lib.hid hx1
  have Ha := Lib.hid ha
  have He := Lib.hid he
  have Hp := Lib.hid hp
  have Hq := Lib.hid hq
  have H2 := Lib.hid h2
  clear hL g0 g1 hx0 hx1 ha he hp hq h2
  go_enter Tryd.func17, Tryd.ntmps17; go_wp2_with fail
  go_at_call 15
  (with_reducible refine (HSP.out _).mono ?_)
  rintro r w1 ⟨A, n, c, rfl, hn, hr, hb⟩
  obtain rfl : n = 2 := hn.symm.trans H2.out
  obtain ⟨g, rfl, _, _, hg, c0, _⟩ := hr.cellAt K0.out
  obtain ⟨g', eg, _, _, _, c1, _⟩ := hr.cellAt K1.out
  simp only [Option.some.injEq, Addr.mk.injEq, and_true] at eg
  subst eg
  have HB := Lib.hid hb
  clear hn hr hb
  go_wp2_with fail
  go_at_call 16
  (with_reducible refine (number_is x0 _ (by omega) Ha.out Hp.out).mono ?_)
  rintro r w2 ⟨rfl, hb⟩
  replace c1 := keepc hb c1
  replace HB := Lib.hid (gr_then hb HB.out)
  clear hb c0
  go_wp2_with fail
  go_at_call 16
  (with_reducible refine (number_is x1 _ (by omega) He.out Hq.out).mono ?_)
  rintro r w3 ⟨rfl, hb⟩
  replace HB := Lib.hid (gr_then hb HB.out)
  clear hb c1
  cases p <;> (go_wp2; go_returns; exact ⟨rfl, HB.out⟩)
end Go.Proofs.YtnmldhkcbekecaaDoor
