/- Texts split at a byte, and numbers read from texts (the reference). -/
import Derived.Test.YtoojnfdphjdocaaDoorSpl
namespace Go.Proofs.YtoojnfdphjdocaaDoor
open Go.RowKit Go.Deep
theorem strInfo : (Tryd.prog.info? 9).map (fun i => (i.zero, i.size, i.bytes)) = some (some (.string ⟨#[]⟩), 1, 16) := by kernel_rfl
theorem txt_eq {s t : ByteArray} (h : s.toList = t.toList) : s = t := by rw [ByteArray.toList_eq, ByteArray.toList_eq] at h; exact (strB_of s).symm.trans ((congrArg strB h).trans (strB_of t))
theorem atB_x {s : ByteArray} {k : Nat} (h : k < s.size) {b : UInt8} {x y : Int} (hx : ((s[k]'h).toNat : Int) = x) (hy : (b.toNat : Int) = y) : atB s k = b ↔ x = y := by
  rw [← atB_eq h]
  constructor
  · intro e; rw [← hx, ← hy, e]
  · intro e; apply UInt8.toNat_inj.1; omega
theorem u8_bd (c : UInt8) : 0 ≤ (c.toNat : Int) ∧ (c.toNat : Int) ≤ 255 := by have := c.toNat_lt; omega
set_option maxHeartbeats 8000000 in
set_option maxRecDepth 20000 in
theorem split_is (s : ByteArray) (b : UInt8) (y : Int) (hy : (b.toNat : Int) = y) (w : World) (hs : s.size ≤ 1048576) : Calls Tryd.prog 24 #[.string s, .int .u8 y] w fun e w' => ∃ (A : Option Addr) (n c : Nat), e = .returned (.slice A n c) ∧ (splB s b).length = n ∧ RS .string 9 w' w.heap.size w'.heap.size A c (splB s b) ∧ Below w.heap.size w w' := by
  obtain ⟨i0, hi, zi0, zi1, zi2⟩ := info_parts strInfo
  have HY := Lib.hid hy
  have hyb := u8_bd b
  rw [hy] at hyb
  clear hy
  go_enter Tryd.func24, Tryd.ntmps24; go_wp2
  go_loopw [5, 6, 7] (fun ov fv iv wr => ∃ (k n c : Nat) (A : Option Addr), k ≤ s.size ∧ iv = .int .i64 (k : Int) ∧ fv = .int .i64 ((frB s b k : Nat) : Int) ∧ ov = .slice A n c ∧ Hid ((ptB s b k).length = n) ∧ RS .string 9 wr w.heap.size wr.heap.size A c (ptB s b k) ∧ Below w.heap.size w wr) (fun _ _ iv _ => s.size - (intOf iv).toNat)
  case atStart => exact ⟨0, 0, 0, some ⟨w.heap.size, 0, none⟩, by omega, rfl, rfl, rfl, rfl, (RS.lit0 w).top, gr_alloc (gr_refl w)⟩
  case round =>
    obtain ⟨k, n, c, A, hk, rfl, rfl, rfl, HL, hr, hbe⟩ := hrel
    have HR := Lib.hid hr
    have HB := Lib.hid hbe
    clear hr hbe
    have hq := frB_le s b k
    have hnl := ptB_len s b k
    rw [HL.out] at hnl
    obtain ⟨q, eq⟩ : ∃ q, frB s b k = q := ⟨_, rfl⟩
    have HQ := Lib.hid eq
    rw [eq] at hq ⊢
    clear eq
    by_cases hkn : k < s.size
    case neg =>
      obtain rfl : k = s.size := by omega
      have HE := Lib.hid (show splB s b = ptB s b s.size ++ [s.extract q s.size] by unfold splB; rw [HQ.out])
      have hd : decide ((s.size : Int) < s.size) = false := decide_eq_false (by omega)
      go_wp2_with (at_builtin; refine wpList_app (by rfl) _ _ 53 (by rfl) (w.heap.size) 9 i0 (.string ⟨#[]⟩) 16 Tryd.underlying53 hi zi0 zi1 zi2 (by rfl) Value.string (fun _ => rfl) A (n) (c) (ptB s b s.size) (wr.heap.size) (by rfl) HL.out (HR.out.late (gr_alloc (gr_refl wr))) (some ⟨wr.heap.size, 0, none⟩) 1 1 [s.extract q s.size] (wr.heap.size + 1) (by rfl) (by rfl) (SV.of_new wr) (fun h => by cases h) (by unfold maxLen; omega) (by omega) (by have := HB.out.size; simp only [World.size_alloc]; omega) ?_; intro A6 c6 w6 hr6 hgrow6 hblk6; have HR6 := Lib.hid hr6; have HB6 := Lib.hid ((HR.out.late (gr_alloc (gr_refl wr))).after (gr_alloc (o := .cells #[.string (s.extract q s.size)] 9) HB.out) hgrow6 (by have := HB.out.size; simp only [World.size_alloc]; omega) (Nat.le_refl _)); clear hr6 hgrow6 hblk6)
      go_wp2
      go_returns
      exact ⟨A6, n + 1, c6, rfl, by rw [HE.out, List.length_append, HL.out]; rfl, by rw [HE.out]; exact HR6.out, HB6.out⟩
    have hd : decide ((k : Int) < s.size) = true := decide_eq_true (by omega)
    obtain ⟨x, hx⟩ : ∃ x : Int, ((s[k]'hkn).toNat : Int) = x := ⟨_, rfl⟩
    have HAX := Lib.hid (atB_x hkn hx HY.out)
    by_cases hxy : x = y
    · have hd2 : (x == y) = true := by rw [hxy]; exact beq_self_eq_true y
      have HP := Lib.hid (show ptB s b (k + 1) = ptB s b k ++ [s.extract q k] by rw [← HQ.out]; exact if_pos (HAX.out.2 hxy))
      have HF := Lib.hid (show frB s b (k + 1) = k + 1 from if_pos (HAX.out.2 hxy))
      clear hxy
      go_wp2_with (at_builtin; refine wpList_app (by rfl) _ _ 53 (by rfl) (w.heap.size) 9 i0 (.string ⟨#[]⟩) 16 Tryd.underlying53 hi zi0 zi1 zi2 (by rfl) Value.string (fun _ => rfl) A (n) (c) (ptB s b k) (wr.heap.size) (by rfl) HL.out (HR.out.late (gr_alloc (gr_refl wr))) (some ⟨wr.heap.size, 0, none⟩) 1 1 [s.extract q k] (wr.heap.size + 1) (by rfl) (by rfl) (SV.of_new wr) (fun h => by cases h) (by unfold maxLen; omega) (by omega) (by have := HB.out.size; simp only [World.size_alloc]; omega) ?_; intro A6 c6 w6 hr6 hgrow6 hblk6; have HR6 := Lib.hid hr6; have HB6 := Lib.hid ((HR.out.late (gr_alloc (gr_refl wr))).after (gr_alloc (o := .cells #[.string (s.extract q k)] 9) HB.out) hgrow6 (by have := HB.out.size; simp only [World.size_alloc]; omega) (Nat.le_refl _)); clear hr6 hgrow6 hblk6)
      go_roundw
      case rel => exact ⟨k + 1, n + 1, c6, A6, by omega, by go_num, by rw [HF.out]; go_num, rfl, by rw [Hid, HP.out, List.length_append, HL.out]; rfl, by rw [HP.out]; exact HR6.out, HB6.out⟩
      case measure => simp [intOf]; omega
    · have hd2 : (x == y) = false := beq_eq_false_iff_ne.2 hxy
      have HP := Lib.hid (show ptB s b (k + 1) = ptB s b k from if_neg (fun h => hxy (HAX.out.1 h)))
      have HF := Lib.hid (show frB s b (k + 1) = q by rw [← HQ.out]; exact if_neg (fun h => hxy (HAX.out.1 h)))
      clear hxy
      go_wp2
      go_roundw
      case rel => exact ⟨k + 1, n, c, A, by omega, by go_num, by rw [HF.out], rfl, by rw [Hid, HP.out]; exact HL.out, by rw [HP.out]; exact HR.out, HB.out⟩
      case measure => simp [intOf]; omega
def dgC (b : Int) : Bool := decide (48 ≤ b ∧ b ≤ 57)
theorem dgC_any (b : Int) (w : World) : Calls Tryd.prog 40 #[.int .u8 b] w fun e w' => e = .returned (.bool (dgC b)) ∧ w = w' := by
  by_cases h1 : 48 ≤ b
  case neg => have d1 := decide_eq_false h1; go_enter Tryd.func40, Tryd.ntmps40; go_wp2; go_returns; exact ⟨ret_bool (decide_eq_false (by omega)).symm, rfl⟩
  have d1 := decide_eq_true h1
  by_cases h2 : b ≤ 57
  case neg => have d2 := decide_eq_false h2; go_enter Tryd.func40, Tryd.ntmps40; go_wp2; go_returns; exact ⟨ret_bool (decide_eq_false (by omega)).symm, rfl⟩
  have d2 := decide_eq_true h2
  go_enter Tryd.func40, Tryd.ntmps40
  go_wp2
  go_returns
  exact ⟨ret_bool (decide_eq_true ⟨h1, h2⟩).symm, rfl⟩
theorem dgC_is {b : Int} {r : Bool} (h : dgC b = r) (w : World) : Calls Tryd.prog 40 #[.int .u8 b] w fun e w' => e = .returned (.bool r) ∧ w = w' := by rw [← h]; exact dgC_any b w
theorem take_at {s : ByteArray} {k : Nat} (h : k < s.size) : s.data.toList.take (k + 1) = s.data.toList.take k ++ [s[k]'h] := by
  rw [List.take_succ_eq_append_getElem (by rw [← Lib.size_eq]; exact h)]; rfl
theorem valD_snoc (a : List UInt8) (c : UInt8) : valD 0 (a ++ [c]) = valD 0 a * 10 + (c.toNat - 48) := by rw [valD_app]; rfl
theorem digOk_snoc (a : List UInt8) (c : UInt8) : digOk (a ++ [c]) = (digOk a && dgC (c.toNat : Int)) := by
  rw [digOk_app]
  congr 1
  unfold digOk dgC
  simp only [List.all_cons, List.all_nil, Bool.and_true]
  rw [Bool.eq_iff_iff, decide_eq_true_eq, decide_eq_true_eq]
  omega
theorem digOk_take {l : List UInt8} {k : Nat} (h : digOk (l.take k) = false) : digOk l = false := by
  cases hl : digOk l with
  | false => rfl
  | true =>
    have h2 : digOk (l.take k ++ l.drop k) = true := by rw [List.take_append_drop]; exact hl
    rw [digOk_app, h] at h2
    cases h2
theorem okN_bad {l : List UInt8} (h : digOk (tlN l) = false) : okN l = false := by
  cases ho : okN l with
  | false => rfl
  | true => rw [(okN_tl ho).2.2] at h; cases h
theorem okN_short {l : List UInt8} (h : (tlN l).length < 1) : okN l = false := by
  cases ho : okN l with
  | false => rfl
  | true => have := (okN_tl ho).1; omega
theorem okN_long {l : List UInt8} (h : 18 < (tlN l).length) : okN l = false := by
  cases ho : okN l with
  | false => rfl
  | true => have := (okN_tl ho).2.1; omega
set_option maxHeartbeats 16000000 in
set_option maxRecDepth 20000 in
theorem number_any (s : ByteArray) (w : World) (hs : s.size ≤ 1048576) : Calls Tryd.prog 25 #[.string s] w fun e w' => e = .returned (.tuple #[.int .i64 (numN s.data.toList), .bool (okN s.data.toList)]) ∧ Below w.heap.size w w' := by
  by_cases h0 : s.size = 0
  · have hl : s.data.toList = [] := List.length_eq_zero_iff.1 (by rw [← Lib.size_eq]; exact h0)
    have HF := Lib.hid (okN_short (l := s.data.toList) (by rw [hl]; decide))
    rw [HF.out, numN_f HF.out]
    obtain rfl : s = ⟨#[]⟩ := by rw [← strB_of s, hl]; rfl
    clear hl h0
    go_enter Tryd.func25, Tryd.ntmps25; go_wp2; go_returns; exact ⟨rfl, gr_refl w⟩
  have hp : 0 < s.size := by omega
  have hne1 : s.toList ≠ [] := by intro h9; have h8 := ByteArray.toList_eq s; rw [h9] at h8; rw [Lib.size_eq, ← h8] at hp; cases hp
  have hne2 : s.toList.isEmpty = false := by rw [Bool.eq_false_iff]; intro h9; exact hne1 (List.isEmpty_iff.1 h9)
  obtain ⟨x, hx⟩ : ∃ x : Int, ((s[0]'hp).toNat : Int) = x := ⟨_, rfl⟩
  have hcons : s.data.toList = s[0]'hp :: s.data.toList.drop 1 := by have h9 := List.drop_eq_getElem_cons (l := s.data.toList) (i := 0) (by rw [← Lib.size_eq]; exact hp); rw [List.drop_zero] at h9; exact h9
  have hsg : sgN s.data.toList = decide (x = 45) := by rw [hcons]; show decide (s[0]'hp = 45) = _; rw [Bool.eq_iff_iff, decide_eq_true_eq, decide_eq_true_eq, ← hx]; constructor; (intro h9; rw [h9]; rfl); (intro h9; apply UInt8.toNat_inj.1; show _ = 45; omega)
  by_cases hx45 : x = 45
  · have hsg1 := hsg.trans (decide_eq_true hx45)
    have HSG := Lib.hid hsg1
    have htl := tlN_y hsg1
    have hb45 : (x == 45) = true := by rw [hx45]; rfl
    have HT := Lib.hid (show (s.extract 1 s.size).data.toList = tlN s.data.toList by rw [ext_eq, strB_list]; have h9 := congrArg (List.drop 1) htl; rw [h9]; exact List.take_of_length_le (by have h8 := congrArg List.length htl; rw [← Lib.size_eq, List.length_cons] at h8; rw [List.drop_one, List.tail_cons]; omega))
    have hsz : (s.extract 1 s.size).size = s.size - 1 := by have h8 := congrArg List.length htl; rw [← Lib.size_eq, List.length_cons] at h8; rw [Lib.size_eq, HT.out]; omega
    obtain ⟨T, eT⟩ : ∃ T, s.extract 1 s.size = T := ⟨_, rfl⟩
    rw [eT] at HT hsz
    have HSZ := hsz
    clear hcons hsg hsg1 htl hx45
    by_cases h1 : 1 ≤ T.size
    case neg =>
      have d1 : decide ((T.size : Int) < 1) = true := decide_eq_true (by omega)
      have HF := Lib.hid (okN_short (l := s.data.toList) (by rw [← HT.out, ← Lib.size_eq]; omega))
      rw [HF.out, numN_f HF.out]
      go_enter Tryd.func25, Tryd.ntmps25
      go_wp2
      go_returns
      exact ⟨rfl, gr_refl w⟩
    have d1 : decide ((T.size : Int) < 1) = false := decide_eq_false (by omega)
    by_cases h2 : 18 < T.size
    · have d2 : decide ((18 : Int) < (T.size : Int)) = true := decide_eq_true (by omega)
      have HF := Lib.hid (okN_long (l := s.data.toList) (by rw [← HT.out, ← Lib.size_eq]; omega))
      rw [HF.out, numN_f HF.out]
      go_enter Tryd.func25, Tryd.ntmps25
      go_wp2
      go_returns
      exact ⟨rfl, gr_refl w⟩
    have d2 : decide ((18 : Int) < (T.size : Int)) = false := decide_eq_false (by omega)
    obtain ⟨R, hR⟩ : ∃ q, okN s.data.toList = q := ⟨_, rfl⟩
    obtain ⟨V, hV⟩ : ∃ q, numN s.data.toList = q := ⟨_, rfl⟩
    rw [hR, hV]
    have HR := Lib.hid hR
    have HV := Lib.hid hV
    clear hR hV
    go_enter Tryd.func25, Tryd.ntmps25
    go_wp2
    go_loop [5, 6] (fun nv iv => ∃ k : Nat, k ≤ T.size ∧ iv = .int .i64 (k : Int) ∧ nv = .int .i64 ((valD 0 (T.data.toList.take k) : Nat) : Int) ∧ Hid (digOk (T.data.toList.take k) = true)) (fun _ iv => T.size - (intOf iv).toNat)
    case atStart => exact ⟨0, by omega, rfl, rfl, rfl⟩
    case round =>
      obtain ⟨k, hk, rfl, rfl, HD⟩ := hrel
      have hvb := valD_18 HD.out (by rw [List.length_take]; omega)
      obtain ⟨N, eN⟩ : ∃ q, valD 0 (T.data.toList.take k) = q := ⟨_, rfl⟩
      rw [eN] at hvb ⊢
      have HN := Lib.hid eN
      clear eN
      by_cases hkn : k < T.size
      case neg =>
        obtain rfl : k = T.size := by omega
        have hta : T.data.toList.take T.size = T.data.toList := List.take_of_length_le (by rw [Lib.size_eq]; exact Nat.le_refl _)
        have HD2 := Lib.hid (show digOk (tlN s.data.toList) = true by rw [← HT.out, ← hta]; exact HD.out)
        have HN2 := Lib.hid (show valD 0 (tlN s.data.toList) = N by rw [← HT.out, ← hta]; exact HN.out)
        clear hta
        have HRD := Lib.hid (show readS s.data.toList = -(N : Int) by unfold readS; rw [HSG.out, HN2.out]; rfl)
        have HOK := Lib.hid (show okN s.data.toList = decide (dS (-(N : Int)) = s.data.toList) by rw [okN_of HD2.out (by rw [← HT.out, ← Lib.size_eq]; omega), HRD.out])
        have hd : decide ((T.size : Int) < (T.size : Int)) = false := decide_eq_false (by omega)
        have hd3 : decide ((T.size : Int) < (s.size : Int)) = true := decide_eq_true (by omega)
        have hbn : -9223372036854775808 ≤ -(N : Int) ∧ -(N : Int) ≤ 9223372036854775807 := by omega
        go_wp2_with fail
        go_at_call 33
        (with_reducible refine (dec_any (-(N : Int)) hbn _).mono ?_)
        rintro r w1 ⟨rfl, hb⟩
        have HB := Lib.hid hb
        clear hb
        by_cases he : dS (-(N : Int)) = s.data.toList
        · have HS := Lib.hid (show strB (dS (-(N : Int))) = s by rw [he, strB_of])
          have HR1 := Lib.hid (show R = true by rw [← HR.out, HOK.out]; exact decide_eq_true he)
          have HV1 := Lib.hid (show V = -(N : Int) by rw [← HV.out, (okN_t (HR.out.trans HR1.out)).2.2, HRD.out])
          have he2 : ((strB (dS (-(N : Int)))).toList == s.toList) = true := by rw [HS.out]; exact beq_self_eq_true _
          clear he
          go_wp2
          go_returns
          exact ⟨by rw [HR1.out, HV1.out]; rfl, HB.out⟩
        · have HR1 := Lib.hid (show R = false by rw [← HR.out, HOK.out]; exact decide_eq_false he)
          have HV1 := Lib.hid (show V = 0 by rw [← HV.out]; exact numN_f (HR.out.trans HR1.out))
          have he2 : ((strB (dS (-(N : Int)))).toList == s.toList) = false := by rw [beq_eq_false_iff_ne]; intro h9; have h8 := txt_eq h9; exact he (by rw [← h8, strB_list])
          clear he
          go_wp2
          go_returns
          exact ⟨by rw [HR1.out, HV1.out]; rfl, HB.out⟩
      have hd : decide ((k : Int) < (T.size : Int)) = true := decide_eq_true (by omega)
      obtain ⟨x, hx⟩ : ∃ x : Int, ((T[k]'hkn).toNat : Int) = x := ⟨_, rfl⟩
      have hxb := u8_bd (T[k]'hkn)
      rw [hx] at hxb
      have HTK := Lib.hid (take_at hkn)
      have HX := Lib.hid hx
      by_cases hdg : 48 ≤ x ∧ x ≤ 57
      · have HDG := Lib.hid (show dgC x = true from decide_eq_true hdg)
        have HD3 := Lib.hid (show digOk (T.data.toList.take (k + 1)) = true by rw [HTK.out, digOk_snoc, HD.out, HX.out, HDG.out]; rfl)
        have HN3 := Lib.hid (show ((valD 0 (T.data.toList.take (k + 1)) : Nat) : Int) = 10 * (N : Int) + (x - 48) by rw [HTK.out, valD_snoc, HN.out]; have h9 := HX.out; omega)
        have hv3 := valD_18 HD3.out (by rw [List.length_take]; omega)
        have hv4 : 10 * (N : Int) + (x - 48) < 1000000000000000000 := by rw [← HN3.out]; omega
        clear hv3
        go_wp2_with (go_at_call 40; (with_reducible refine (dgC_is HDG.out _).mono ?_); rintro r w1 ⟨rfl, rfl⟩)
        go_round
        case rel => exact ⟨k + 1, by omega, by go_num, by rw [HN3.out], HD3.out⟩
        case measure => simp [intOf]; omega
      · have HDG := Lib.hid (show dgC x = false from decide_eq_false hdg)
        have HF := Lib.hid (okN_bad (l := s.data.toList) (by rw [← HT.out]; exact digOk_take (k := k + 1) (by rw [HTK.out, digOk_snoc, HX.out, HDG.out, Bool.and_false])))
        have HR1 := Lib.hid (show R = false from HR.out.symm.trans HF.out)
        have HV1 := Lib.hid (show V = 0 by rw [← HV.out]; exact numN_f HF.out)
        go_wp2_with (go_at_call 40; (with_reducible refine (dgC_is HDG.out _).mono ?_); rintro r w1 ⟨rfl, rfl⟩)
        go_returns
        exact ⟨by rw [HR1.out, HV1.out]; rfl, gr_refl _⟩
  · have hsg1 := hsg.trans (decide_eq_false hx45)
    have HSG := Lib.hid hsg1
    have hb45 : (x == 45) = false := beq_eq_false_iff_ne.2 hx45
    have HT := Lib.hid (show s.data.toList = tlN s.data.toList from (tlN_n hsg1).symm)
    clear hcons hsg hsg1 hx45
    by_cases h1 : 1 ≤ s.size
    case neg =>
      have d1 : decide ((s.size : Int) < 1) = true := decide_eq_true (by omega)
      have HF := Lib.hid (okN_short (l := s.data.toList) (by rw [← HT.out, ← Lib.size_eq]; omega))
      rw [HF.out, numN_f HF.out]
      go_enter Tryd.func25, Tryd.ntmps25
      go_wp2
      go_returns
      exact ⟨rfl, gr_refl w⟩
    have d1 : decide ((s.size : Int) < 1) = false := decide_eq_false (by omega)
    by_cases h2 : 18 < s.size
    · have d2 : decide ((18 : Int) < (s.size : Int)) = true := decide_eq_true (by omega)
      have HF := Lib.hid (okN_long (l := s.data.toList) (by rw [← HT.out, ← Lib.size_eq]; omega))
      rw [HF.out, numN_f HF.out]
      go_enter Tryd.func25, Tryd.ntmps25
      go_wp2
      go_returns
      exact ⟨rfl, gr_refl w⟩
    have d2 : decide ((18 : Int) < (s.size : Int)) = false := decide_eq_false (by omega)
    obtain ⟨R, hR⟩ : ∃ q, okN s.data.toList = q := ⟨_, rfl⟩
    obtain ⟨V, hV⟩ : ∃ q, numN s.data.toList = q := ⟨_, rfl⟩
    rw [hR, hV]
    have HR := Lib.hid hR
    have HV := Lib.hid hV
    clear hR hV
    go_enter Tryd.func25, Tryd.ntmps25
    go_wp2
    go_loop [5, 6] (fun nv iv => ∃ k : Nat, k ≤ s.size ∧ iv = .int .i64 (k : Int) ∧ nv = .int .i64 ((valD 0 (s.data.toList.take k) : Nat) : Int) ∧ Hid (digOk (s.data.toList.take k) = true)) (fun _ iv => s.size - (intOf iv).toNat)
    case atStart => exact ⟨0, by omega, rfl, rfl, rfl⟩
    case round =>
      obtain ⟨k, hk, rfl, rfl, HD⟩ := hrel
      have hvb := valD_18 HD.out (by rw [List.length_take]; omega)
      obtain ⟨N, eN⟩ : ∃ q, valD 0 (s.data.toList.take k) = q := ⟨_, rfl⟩
      rw [eN] at hvb ⊢
      have HN := Lib.hid eN
      clear eN
      by_cases hkn : k < s.size
      case neg =>
        obtain rfl : k = s.size := by omega
        have hta : s.data.toList.take s.size = s.data.toList := List.take_of_length_le (by rw [Lib.size_eq]; exact Nat.le_refl _)
        have HD2 := Lib.hid (show digOk (tlN s.data.toList) = true by rw [← HT.out, ← hta]; exact HD.out)
        have HN2 := Lib.hid (show valD 0 (tlN s.data.toList) = N by rw [← HT.out, ← hta]; exact HN.out)
        clear hta
        have HRD := Lib.hid (show readS s.data.toList = (N : Int) by unfold readS; rw [HSG.out, HN2.out]; rfl)
        have HOK := Lib.hid (show okN s.data.toList = decide (dS ((N : Int)) = s.data.toList) by rw [okN_of HD2.out (by rw [← HT.out, ← Lib.size_eq]; omega), HRD.out])
        have hd : decide ((s.size : Int) < (s.size : Int)) = false := decide_eq_false (by omega)
        have hd3 : decide ((s.size : Int) < (s.size : Int)) = false := decide_eq_false (by omega)
        have hbn : -9223372036854775808 ≤ (N : Int) ∧ (N : Int) ≤ 9223372036854775807 := by omega
        go_wp2_with fail
        go_at_call 33
        (with_reducible refine (dec_any (N : Int) hbn _).mono ?_)
        rintro r w1 ⟨rfl, hb⟩
        have HB := Lib.hid hb
        clear hb
        by_cases he : dS ((N : Int)) = s.data.toList
        · have HS := Lib.hid (show strB (dS ((N : Int))) = s by rw [he, strB_of])
          have HR1 := Lib.hid (show R = true by rw [← HR.out, HOK.out]; exact decide_eq_true he)
          have HV1 := Lib.hid (show V = (N : Int) by rw [← HV.out, (okN_t (HR.out.trans HR1.out)).2.2, HRD.out])
          have he2 : ((strB (dS ((N : Int)))).toList == s.toList) = true := by rw [HS.out]; exact beq_self_eq_true _
          clear he
          go_wp2
          go_returns
          exact ⟨by rw [HR1.out, HV1.out]; rfl, HB.out⟩
        · have HR1 := Lib.hid (show R = false by rw [← HR.out, HOK.out]; exact decide_eq_false he)
          have HV1 := Lib.hid (show V = 0 by rw [← HV.out]; exact numN_f (HR.out.trans HR1.out))
          have he2 : ((strB (dS ((N : Int)))).toList == s.toList) = false := by rw [beq_eq_false_iff_ne]; intro h9; have h8 := txt_eq h9; exact he (by rw [← h8, strB_list])
          clear he
          go_wp2
          go_returns
          exact ⟨by rw [HR1.out, HV1.out]; rfl, HB.out⟩
      have hd : decide ((k : Int) < (s.size : Int)) = true := decide_eq_true (by omega)
      obtain ⟨x, hx⟩ : ∃ x : Int, ((s[k]'hkn).toNat : Int) = x := ⟨_, rfl⟩
      have hxb := u8_bd (s[k]'hkn)
      rw [hx] at hxb
      have HTK := Lib.hid (take_at hkn)
      have HX := Lib.hid hx
      by_cases hdg : 48 ≤ x ∧ x ≤ 57
      · have HDG := Lib.hid (show dgC x = true from decide_eq_true hdg)
        have HD3 := Lib.hid (show digOk (s.data.toList.take (k + 1)) = true by rw [HTK.out, digOk_snoc, HD.out, HX.out, HDG.out]; rfl)
        have HN3 := Lib.hid (show ((valD 0 (s.data.toList.take (k + 1)) : Nat) : Int) = 10 * (N : Int) + (x - 48) by rw [HTK.out, valD_snoc, HN.out]; have h9 := HX.out; omega)
        have hv3 := valD_18 HD3.out (by rw [List.length_take]; omega)
        have hv4 : 10 * (N : Int) + (x - 48) < 1000000000000000000 := by rw [← HN3.out]; omega
        clear hv3
        go_wp2_with (go_at_call 40; (with_reducible refine (dgC_is HDG.out _).mono ?_); rintro r w1 ⟨rfl, rfl⟩)
        go_round
        case rel => exact ⟨k + 1, by omega, by go_num, by rw [HN3.out], HD3.out⟩
        case measure => simp [intOf]; omega
      · have HDG := Lib.hid (show dgC x = false from decide_eq_false hdg)
        have HF := Lib.hid (okN_bad (l := s.data.toList) (by rw [← HT.out]; exact digOk_take (k := k + 1) (by rw [HTK.out, digOk_snoc, HX.out, HDG.out, Bool.and_false])))
        have HR1 := Lib.hid (show R = false from HR.out.symm.trans HF.out)
        have HV1 := Lib.hid (show V = 0 by rw [← HV.out]; exact numN_f HF.out)
        go_wp2_with (go_at_call 40; (with_reducible refine (dgC_is HDG.out _).mono ?_); rintro r w1 ⟨rfl, rfl⟩)
        go_returns
        exact ⟨by rw [HR1.out, HV1.out]; rfl, gr_refl _⟩
end Go.Proofs.YtoojnfdphjdocaaDoor
