/- Numbers read by the program; pairs of numbers (the reference). -/
import Derived.Test.YtoojnfdphjdocaaDoorRdS
import Derived.Test.YtoojnfdphjdocaaDoorDecI
import Derived.Lib.AtoiErrMem
import Derived.WalkSpells
namespace Go.Proofs.YtoojnfdphjdocaaDoor
open Go.RowKit Go.Deep
theorem keepc {W w1 : World} {b o : Nat} {v : Value} (hb : Below W.heap.size W w1) (h : W.cell? ⟨b, o, none⟩ = some v) : w1.cell? ⟨b, o, none⟩ = some v := (hb.cell (p := ⟨b, o, none⟩) (lt_of_cell h)).trans h
/-- what the library's texts read of variables -/
def RVars (w : World) : Prop := (∃ m, w.cell? ⟨0, 0, none⟩ = some (.int .i64 m)) ∧ (∃ ev, w.cell? ⟨2, 0, none⟩ = some ev ∧ (ev = .nilIface ∨ ∃ te pe, ev = .iface te pe)) ∧ (∃ ev, w.cell? ⟨3, 0, none⟩ = some ev ∧ (ev = .nilIface ∨ ∃ te pe, ev = .iface te pe)) ∧ Pow10 w
theorem RVars.late {w w' : World} (h : RVars w) (hb : Below w.heap.size w w') : RVars w' := by
  obtain ⟨⟨m, h1⟩, ⟨e1, h2, k2⟩, ⟨e2, h3, k3⟩, h4⟩ := h
  exact ⟨⟨m, keepc hb h1⟩, ⟨e1, keepc hb h2, k2⟩, ⟨e2, keepc hb h3, k3⟩, h4.later hb⟩
theorem trim_tl (l : List UInt8) : Lib.trimPrefix l [45] = tlN l := by
  cases l with
  | nil => rfl
  | cons c r =>
    unfold Lib.trimPrefix Lib.hasPrefix
    by_cases h : c = 45
    · subst h; rfl
    · show (if ([45] : List UInt8).isPrefixOf (c :: r) = true then _ else _) = if c = 45 then r else c :: r
      rw [if_neg h, if_neg]
      simp [List.isPrefixOf, Ne.symm h]
theorem RVars.pow {w : World} (h : RVars w) : Pow10 w := h.2.2.2
def numS (s : ByteArray) : Int := numN s.data.toList
def okS (s : ByteArray) : Bool := okN s.data.toList
theorem trim_is (s : ByteArray) (w : World) {T : ByteArray} (hT : strB (tlN s.data.toList) = T) : Calls Tryd.prog 42 #[.string s, .string ⟨#[45]⟩] w fun e w' => e = .returned (.string T) ∧ w = w' := by
  refine (strings_TrimPrefix s ⟨#[45]⟩ w).mono fun e w' ⟨he, hw⟩ => ⟨?_, hw.symm⟩
  rw [he, ← hT, ← trim_tl]
  rfl
theorem parse_y (s : ByteArray) (w : World) (hs : s.size ≤ 1048576) {v : Int} (h : Lib.parseIntB 64 s.data.toList = .ok v) : Calls Tryd.prog 43 #[.string s, .int .i64 10, .int .i64 64] w fun e w' => e = .returned (.tuple #[.int .i64 v, .nilIface]) ∧ Below w.heap.size w w' := by
  refine (strconv_ParseInt_10_at64_ok s (by omega) v h w).mono fun e w' ⟨he, hw⟩ => ⟨he, ?_⟩
  rcases hw with rfl | ⟨t, rfl⟩
  · exact gr_refl _
  · exact Lib.bytesWorld_below _ _ _
/-- a number and an error were handed back -/
def BadNum (w : World) (e : Ending) (w' : World) : Prop := ∃ (v : Int) (t : TypeId) (p : Value), e = .returned (.tuple #[.int .i64 v, .iface t p]) ∧ Below w.heap.size w w'
theorem parse_n (s : ByteArray) (w : World) (hs : s.size ≤ 1048576) (h : ∀ v, Lib.parseIntB 64 s.data.toList ≠ .ok v) (hV : RVars w) : Calls Tryd.prog 43 #[.string s, .int .i64 10, .int .i64 64] w (BadNum w) := by
  obtain ⟨_, ⟨e1, h2, k2⟩, ⟨e2, h3, k3⟩, _⟩ := hV
  cases hp : Lib.parseIntB 64 s.data.toList
  · rename_i v; exact absurd hp (h v)
  · exact (strconv_ParseInt_10_at64_syntax s (by omega) hp e1 w h2 k2).mono fun e w' ⟨N, he, _, _, hb⟩ => ⟨_, _, _, he, hb⟩
  · exact (strconv_ParseInt_10_at64_range s (by omega) hp e2 w h3 k3).mono fun e w' ⟨N, he, _, _, hb⟩ => ⟨_, _, _, he, hb⟩
set_option maxHeartbeats 4000000 in
set_option maxRecDepth 20000 in
theorem readDec_any (s : ByteArray) (w : World) (hs : s.size ≤ 1048576) (hV : RVars w) : Calls Tryd.prog 27 #[.string s] w fun e w' => e = .returned (.tuple #[.int .i64 (numS s), .bool (okS s)]) ∧ Below w.heap.size w w' := by
  have HV := Lib.hid hV
  clear hV
  obtain ⟨R, hR⟩ : ∃ q, okS s = q := ⟨_, rfl⟩
  obtain ⟨V, hVV⟩ : ∃ q, numS s = q := ⟨_, rfl⟩
  rw [hR, hVV]
  have HR := Lib.hid hR
  have HN := Lib.hid hVV
  clear hR hVV
  obtain ⟨T, hT⟩ : ∃ T, strB (tlN s.data.toList) = T := ⟨_, rfl⟩
  have HT := Lib.hid hT
  have HTL := Lib.hid (show T.size = (tlN s.data.toList).length by rw [← hT, strB_size])
  clear hT
  have HBAD : Hid (okN s.data.toList = false → R = false ∧ V = 0) := fun h => ⟨HR.out.symm.trans h, HN.out.symm.trans (numN_f h)⟩
  by_cases h2 : 18 < T.size
  · have d2 : decide ((18 : Int) < (T.size : Int)) = true := decide_eq_true (by omega)
    have HB := Lib.hid (HBAD.out (okN_long (by rw [← HTL.out]; exact h2)))
    go_enter Tryd.func27, Tryd.ntmps27
    go_wp2_with (go_at_call 42; (with_reducible refine (trim_is s _ HT.out).mono ?_); rintro r w1 ⟨rfl, rfl⟩)
    go_returns
    exact ⟨by rw [HB.out.1, HB.out.2]; rfl, gr_refl _⟩
  have d2 : decide ((18 : Int) < (T.size : Int)) = false := decide_eq_false (by omega)
  by_cases hp : ∃ v, Lib.parseIntB 64 s.data.toList = .ok v
  case neg =>
    have HNP := Lib.hid (show ∀ v, Lib.parseIntB 64 s.data.toList ≠ .ok v from fun v h => hp ⟨v, h⟩)
    have HB := Lib.hid (HBAD.out (okN_noparse HNP.out))
    clear hp
    go_enter Tryd.func27, Tryd.ntmps27
    go_wp2_with fail
    go_at_call 42
    (with_reducible refine (trim_is s _ HT.out).mono ?_)
    rintro r w1 ⟨rfl, rfl⟩
    go_wp2_with fail
    go_at_call 43
    (with_reducible refine (parse_n s _ hs HNP.out HV.out).mono ?_)
    rintro r w2 ⟨v, t, p, rfl, hb⟩
    have HB2 := Lib.hid hb
    clear hb
    go_wp2
    go_returns
    exact ⟨by rw [HB.out.1, HB.out.2]; rfl, HB2.out⟩
  obtain ⟨v, hv⟩ := hp
  have HP := Lib.hid hv
  obtain ⟨o1, o2⟩ := okN_parse (by rw [← HTL.out]; omega) hv
  have HO1 := Lib.hid o1
  have HO2 := Lib.hid o2
  have hvb := Lib.parseIntB_bounds hv
  have hv1 : -9223372036854775808 ≤ v ∧ v ≤ 9223372036854775807 := by omega
  clear o1 o2 hv hvb
  by_cases he : dS v = s.data.toList
  · have HB := Lib.hid (show R = true ∧ V = v from ⟨HR.out.symm.trans (HO1.out.trans (decide_eq_true he)), HN.out.symm.trans (HO2.out (HO1.out.trans (decide_eq_true he)))⟩)
    have he2 : ((strB (dS v)).toList == s.toList) = true := by rw [he, strB_of]; exact beq_self_eq_true _
    clear he
    go_enter Tryd.func27, Tryd.ntmps27
    go_wp2_with fail
    go_at_call 42
    (with_reducible refine (trim_is s _ HT.out).mono ?_)
    rintro r w1 ⟨rfl, rfl⟩
    go_wp2_with fail
    go_at_call 43
    (with_reducible refine (parse_y s _ hs HP.out).mono ?_)
    rintro r w2 ⟨rfl, hb⟩
    have HB2 := Lib.hid hb
    have HV2 := Lib.hid (HV.out.late hb)
    clear hb
    go_wp2_with fail
    go_at_call 20
    (with_reducible refine (decimal_any v hv1 _ (RVars.pow HV2.out)).mono ?_)
    rintro r w3 ⟨rfl, hb⟩
    have HB3 := Lib.hid (gr_then hb HB2.out)
    clear hb
    go_wp2
    go_returns
    exact ⟨by rw [HB.out.1, HB.out.2]; rfl, HB3.out⟩
  · have HB := Lib.hid (show R = false ∧ V = 0 from HBAD.out (HO1.out.trans (decide_eq_false he)))
    have he2 : ((strB (dS v)).toList == s.toList) = false := by rw [beq_eq_false_iff_ne]; intro h9; have h8 := txt_eq h9; exact he (by rw [← h8, strB_list])
    clear he
    go_enter Tryd.func27, Tryd.ntmps27
    go_wp2_with fail
    go_at_call 42
    (with_reducible refine (trim_is s _ HT.out).mono ?_)
    rintro r w1 ⟨rfl, rfl⟩
    go_wp2_with fail
    go_at_call 43
    (with_reducible refine (parse_y s _ hs HP.out).mono ?_)
    rintro r w2 ⟨rfl, hb⟩
    have HB2 := Lib.hid hb
    have HV2 := Lib.hid (HV.out.late hb)
    clear hb
    go_wp2_with fail
    go_at_call 20
    (with_reducible refine (decimal_any v hv1 _ (RVars.pow HV2.out)).mono ?_)
    rintro r w3 ⟨rfl, hb⟩
    have HB3 := Lib.hid (gr_then hb HB2.out)
    clear hb
    go_wp2
    go_returns
    exact ⟨by rw [HB.out.1, HB.out.2]; rfl, HB3.out⟩
end Go.Proofs.YtoojnfdphjdocaaDoor
