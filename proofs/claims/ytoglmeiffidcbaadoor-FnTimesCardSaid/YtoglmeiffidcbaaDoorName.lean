/- Names: whether a text is one, both sides. -/
import Derived.Test.YtoglmeiffidcbaaDoorBase
import Derived.BigQuiet
namespace Go.Proofs.YtoglmeiffidcbaaDoor
open Go.RowKit Go.Deep
def bAt (s : ByteArray) (k : Nat) : Int := if h : k < s.size then (s[k].toNat : Int) else 0
def smB (b : Int) : Bool := decide (97 ≤ b ∧ b ≤ 122)
def dgC (b : Int) : Bool := decide (48 ≤ b ∧ b ≤ 57)
def nmC (b : Int) (k : Nat) : Bool := smB b || (decide (k ≠ 0) && (dgC b || decide (b = 45)))
def okNm (s : ByteArray) : Bool := (List.range s.size).all (fun k => nmC (bAt s k) k) && decide (1 ≤ s.size ∧ s.size ≤ 12)
theorem okNm_bad {s : ByteArray} {k : Nat} (hk : k < s.size) (h : nmC (bAt s k) k = false) : okNm s = false := by
  have : (List.range s.size).all (fun k => nmC (bAt s k) k) = false := by rw [List.all_eq_false]; exact ⟨k, List.mem_range.2 hk, by rw [h]; decide⟩
  unfold okNm; rw [this]; rfl
theorem okNm_sz {s : ByteArray} (h : ¬ (1 ≤ s.size ∧ s.size ≤ 12)) : okNm s = false := by unfold okNm; rw [decide_eq_false h]; simp
theorem okNm_end {s : ByteArray} (h : ∀ k, k < s.size → nmC (bAt s k) k = true) : okNm s = decide (1 ≤ s.size ∧ s.size ≤ 12) := by
  have : (List.range s.size).all (fun k => nmC (bAt s k) k) = true := by rw [List.all_eq_true]; intro k hk; exact h k (List.mem_range.1 hk)
  unfold okNm; rw [this]; simp
theorem bAt_y {s : ByteArray} {k : Nat} (h : k < s.size) : ((s[k]'h).toNat : Int) = bAt s k := by unfold bAt; rw [dif_pos h]
theorem smB_y {b : Int} (h : 97 ≤ b ∧ b ≤ 122) : smB b = true := decide_eq_true h
theorem smB_n {b : Int} (h : ¬ (97 ≤ b ∧ b ≤ 122)) : smB b = false := decide_eq_false h
set_option maxHeartbeats 4000000 in
theorem implNm_any (s : ByteArray) (w : World) (hn : s.size ≤ 9223372036854775806) : Calls Tryd.prog 65 #[.string s] w fun e w' => e = .returned (.bool (okNm s)) ∧ w = w' := by
  go_enter Tryd.func65, Tryd.ntmps65
  go_wp2
  go_loopw [8] (fun iv wr => ∃ k : Nat, k ≤ s.size ∧ iv = .int .i64 (k : Int) ∧ Hid (∀ j, j < k → nmC (bAt s j) j = true) ∧ w = wr) (fun iv _ => s.size - (intOf iv).toNat)
  case atStart => exact ⟨0, by omega, by simp, fun j hj => by omega, rfl⟩
  case round =>
    obtain ⟨k, hk, rfl, HK, rfl⟩ := hrel
    by_cases hkn : k < s.size
    case neg =>
      obtain rfl : k = s.size := by omega
      have hend := Lib.hid (okNm_end HK.out)
      have hd : decide ((s.size : Int) < s.size) = false := decide_eq_false (by omega)
      by_cases h1 : (1 : Int) ≤ s.size
      case neg => have d1 := decide_eq_false h1; go_wp2; go_returns; exact ⟨ret_bool (hend.out.trans (decide_eq_false (by omega))).symm, rfl⟩
      have d1 := decide_eq_true h1
      by_cases h2 : (s.size : Int) ≤ 12
      case neg => have d2 := decide_eq_false h2; go_wp2; go_returns; exact ⟨ret_bool (hend.out.trans (decide_eq_false (by omega))).symm, rfl⟩
      have d2 := decide_eq_true h2
      go_wp2
      go_returns
      exact ⟨ret_bool (hend.out.trans (decide_eq_true (by omega))).symm, rfl⟩
    have hd : decide ((k : Int) < s.size) = true := decide_eq_true (by omega)
    have hbv := bAt_y hkn
    obtain ⟨b, hb⟩ : ∃ b, bAt s k = b := ⟨_, rfl⟩
    rw [hb] at hbv
    have HE := Lib.hid hb
    clear hb
    by_cases h1 : 97 ≤ b
    case neg =>
      have d1 := decide_eq_false h1
      by_cases h3 : (k : Int) = 0
      case neg =>
        have d3 : (((k : Int)) == 0) = false := by simp; omega
        have e3 : (((k : Int)) != 0) = true := by simp; omega
        by_cases h4 : b = 45
        case neg =>
          have d4 : ((b) == 45) = false := by simp; omega
          have e4 : ((b) != 45) = true := by simp; omega
          by_cases h5 : b < 48
          case neg =>
            have d5 := decide_eq_false h5
            by_cases h6 : 57 < b
            case neg =>
              have d6 := decide_eq_false h6
              have hgood := Lib.hid (show nmC (bAt s k) k = true by rw [HE.out]; unfold nmC smB dgC; simp; omega)
              go_wp2
              go_roundw
              case rel => exact ⟨k + 1, by omega, by go_num, fun j hj => by by_cases e : j = k; (subst e; exact hgood.out); exact HK.out j (by omega), by first | rfl | trivial⟩
              case measure => simp [intOf]; omega
            have d6 := decide_eq_true h6
            have hbad := Lib.hid (okNm_bad hkn (show nmC (bAt s k) k = false by rw [HE.out]; unfold nmC smB dgC; simp; omega))
            go_wp2
            go_returns
            exact ⟨ret_bool hbad.out.symm, rfl⟩
          have d5 := decide_eq_true h5
          have hbad := Lib.hid (okNm_bad hkn (show nmC (bAt s k) k = false by rw [HE.out]; unfold nmC smB dgC; simp; omega))
          go_wp2
          go_returns
          exact ⟨ret_bool hbad.out.symm, rfl⟩
        have d4 : ((b) == 45) = true := by simp; omega
        have e4 : ((b) != 45) = false := by simp; omega
        have hgood := Lib.hid (show nmC (bAt s k) k = true by rw [HE.out]; unfold nmC smB dgC; simp; omega)
        go_wp2
        go_roundw
        case rel => exact ⟨k + 1, by omega, by go_num, fun j hj => by by_cases e : j = k; (subst e; exact hgood.out); exact HK.out j (by omega), by first | rfl | trivial⟩
        case measure => simp [intOf]; omega
      have d3 : (((k : Int)) == 0) = true := by simp; omega
      have e3 : (((k : Int)) != 0) = false := by simp; omega
      obtain rfl : k = 0 := by omega
      clear d3 e3 h3
      have hbad := Lib.hid (okNm_bad hkn (show nmC (bAt s 0) 0 = false by rw [HE.out]; unfold nmC smB dgC; simp; omega))
      go_wp2
      go_returns
      exact ⟨ret_bool hbad.out.symm, rfl⟩
    have d1 := decide_eq_true h1
    by_cases h2 : b ≤ 122
    case neg =>
      have d2 := decide_eq_false h2
      by_cases h3 : (k : Int) = 0
      case neg =>
        have d3 : (((k : Int)) == 0) = false := by simp; omega
        have e3 : (((k : Int)) != 0) = true := by simp; omega
        by_cases h4 : b = 45
        case neg =>
          have d4 : ((b) == 45) = false := by simp; omega
          have e4 : ((b) != 45) = true := by simp; omega
          by_cases h5 : b < 48
          case neg =>
            have d5 := decide_eq_false h5
            by_cases h6 : 57 < b
            case neg =>
              have d6 := decide_eq_false h6
              have hgood := Lib.hid (show nmC (bAt s k) k = true by rw [HE.out]; unfold nmC smB dgC; simp; omega)
              go_wp2
              go_roundw
              case rel => exact ⟨k + 1, by omega, by go_num, fun j hj => by by_cases e : j = k; (subst e; exact hgood.out); exact HK.out j (by omega), by first | rfl | trivial⟩
              case measure => simp [intOf]; omega
            have d6 := decide_eq_true h6
            have hbad := Lib.hid (okNm_bad hkn (show nmC (bAt s k) k = false by rw [HE.out]; unfold nmC smB dgC; simp; omega))
            go_wp2
            go_returns
            exact ⟨ret_bool hbad.out.symm, rfl⟩
          have d5 := decide_eq_true h5
          have hbad := Lib.hid (okNm_bad hkn (show nmC (bAt s k) k = false by rw [HE.out]; unfold nmC smB dgC; simp; omega))
          go_wp2
          go_returns
          exact ⟨ret_bool hbad.out.symm, rfl⟩
        have d4 : ((b) == 45) = true := by simp; omega
        have e4 : ((b) != 45) = false := by simp; omega
        have hgood := Lib.hid (show nmC (bAt s k) k = true by rw [HE.out]; unfold nmC smB dgC; simp; omega)
        go_wp2
        go_roundw
        case rel => exact ⟨k + 1, by omega, by go_num, fun j hj => by by_cases e : j = k; (subst e; exact hgood.out); exact HK.out j (by omega), by first | rfl | trivial⟩
        case measure => simp [intOf]; omega
      have d3 : (((k : Int)) == 0) = true := by simp; omega
      have e3 : (((k : Int)) != 0) = false := by simp; omega
      obtain rfl : k = 0 := by omega
      clear d3 e3 h3
      have hbad := Lib.hid (okNm_bad hkn (show nmC (bAt s 0) 0 = false by rw [HE.out]; unfold nmC smB dgC; simp; omega))
      go_wp2
      go_returns
      exact ⟨ret_bool hbad.out.symm, rfl⟩
    have d2 := decide_eq_true h2
    have hgood := Lib.hid (show nmC (bAt s k) k = true by rw [HE.out]; unfold nmC smB dgC; simp; omega)
    go_wp2
    go_roundw
    case rel => exact ⟨k + 1, by omega, by go_num, fun j hj => by by_cases e : j = k; (subst e; exact hgood.out); exact HK.out j (by omega), by first | rfl | trivial⟩
    case measure => simp [intOf]; omega
theorem smB_any (b : Int) (w : World) : Calls Tryd.prog 77 #[.int .u8 b] w fun e w' => e = .returned (.bool (smB b)) ∧ w = w' := by
  by_cases h1 : 97 ≤ b
  case neg => have d1 := decide_eq_false h1; go_enter Tryd.func77, Tryd.ntmps77; go_wp2; go_returns; exact ⟨ret_bool (decide_eq_false (by omega)).symm, rfl⟩
  have d1 := decide_eq_true h1
  by_cases h2 : b ≤ 122
  case neg => have d2 := decide_eq_false h2; go_enter Tryd.func77, Tryd.ntmps77; go_wp2; go_returns; exact ⟨ret_bool (decide_eq_false (by omega)).symm, rfl⟩
  have d2 := decide_eq_true h2
  go_enter Tryd.func77, Tryd.ntmps77
  go_wp2
  go_returns
  exact ⟨ret_bool (decide_eq_true ⟨h1, h2⟩).symm, rfl⟩
theorem smB_is {b : Int} {r : Bool} (h : smB b = r) (w : World) : Calls Tryd.prog 77 #[.int .u8 b] w fun e w' => e = .returned (.bool r) ∧ w = w' := by rw [← h]; exact smB_any b w
theorem dgC_any (b : Int) (w : World) : Calls Tryd.prog 78 #[.int .u8 b] w fun e w' => e = .returned (.bool (dgC b)) ∧ w = w' := by
  by_cases h1 : 48 ≤ b
  case neg => have d1 := decide_eq_false h1; go_enter Tryd.func78, Tryd.ntmps78; go_wp2; go_returns; exact ⟨ret_bool (decide_eq_false (by omega)).symm, rfl⟩
  have d1 := decide_eq_true h1
  by_cases h2 : b ≤ 57
  case neg => have d2 := decide_eq_false h2; go_enter Tryd.func78, Tryd.ntmps78; go_wp2; go_returns; exact ⟨ret_bool (decide_eq_false (by omega)).symm, rfl⟩
  have d2 := decide_eq_true h2
  go_enter Tryd.func78, Tryd.ntmps78
  go_wp2
  go_returns
  exact ⟨ret_bool (decide_eq_true ⟨h1, h2⟩).symm, rfl⟩
theorem dgC_is {b : Int} {r : Bool} (h : dgC b = r) (w : World) : Calls Tryd.prog 78 #[.int .u8 b] w fun e w' => e = .returned (.bool r) ∧ w = w' := by rw [← h]; exact dgC_any b w
set_option maxHeartbeats 4000000 in
theorem specNm_any (s : ByteArray) (w : World) (hn : s.size ≤ 9223372036854775806) : Calls Tryd.prog 54 #[.string s] w fun e w' => e = .returned (.bool (okNm s)) ∧ w = w' := by
  by_cases h0 : s.size = 0
  case pos =>
    have hbad := Lib.hid (okNm_sz (s := s) (by omega))
    obtain rfl : s = ⟨#[]⟩ := by obtain ⟨d⟩ := s; have : d = #[] := Array.size_eq_zero_iff.1 h0; rw [this]
    go_enter Tryd.func54, Tryd.ntmps54
    go_wp2_with (first | (go_at_call 77; (with_reducible refine (smB_is (by assumption) _).mono ?_); rintro e w1 ⟨rfl, rfl⟩) | (go_at_call 78; (with_reducible refine (dgC_is (by assumption) _).mono ?_); rintro e w1 ⟨rfl, rfl⟩) | fail)
    go_returns
    exact ⟨ret_bool hbad.out.symm, rfl⟩
  have hnl : s.toList ≠ [] := fun h9 => h0 (by rw [ByteArray.toList_eq] at h9; have h8 : s.data.toList.length = 0 := by rw [h9]; rfl
                                               simpa using h8)
  have hne : s.toList.isEmpty = false := by cases hh : s.toList with | nil => exact absurd hh hnl | cons a l => rfl
  by_cases h1 : 12 < (s.size : Int)
  case pos => have d1 := decide_eq_true h1; have hbad := Lib.hid (okNm_sz (s := s) (by omega)); go_enter Tryd.func54, Tryd.ntmps54; go_wp2_with (first | (go_at_call 77; (with_reducible refine (smB_is (by assumption) _).mono ?_); rintro e w1 ⟨rfl, rfl⟩) | (go_at_call 78; (with_reducible refine (dgC_is (by assumption) _).mono ?_); rintro e w1 ⟨rfl, rfl⟩) | fail); go_returns; exact ⟨ret_bool hbad.out.symm, rfl⟩
  have d1 := decide_eq_false h1
  have hp : 0 < s.size := by omega
  have hbv := bAt_y hp
  obtain ⟨q, hq⟩ : ∃ q, smB (bAt s 0) = q := ⟨_, rfl⟩
  cases q
  · have hbad := Lib.hid (okNm_bad hp (show nmC (bAt s 0) 0 = false by unfold nmC; rw [hq]; rfl))
    go_enter Tryd.func54, Tryd.ntmps54
    go_wp2_with (first | (go_at_call 77; (with_reducible refine (smB_is (by assumption) _).mono ?_); rintro e w1 ⟨rfl, rfl⟩) | (go_at_call 78; (with_reducible refine (dgC_is (by assumption) _).mono ?_); rintro e w1 ⟨rfl, rfl⟩) | fail)
    go_returns
    exact ⟨ret_bool hbad.out.symm, rfl⟩
  go_enter Tryd.func54, Tryd.ntmps54
  go_wp2_with (first | (go_at_call 77; (with_reducible refine (smB_is (by assumption) _).mono ?_); rintro e w1 ⟨rfl, rfl⟩) | (go_at_call 78; (with_reducible refine (dgC_is (by assumption) _).mono ?_); rintro e w1 ⟨rfl, rfl⟩) | fail)
  have HQ := Lib.hid hq
  clear hq hbv
  go_loopw [3] (fun iv wr => ∃ k : Nat, k ≤ s.size ∧ iv = .int .i64 (k : Int) ∧ Hid (∀ j, j < k → nmC (bAt s j) j = true) ∧ w = wr) (fun iv _ => s.size - (intOf iv).toNat)
  case atStart => exact ⟨0, by omega, by simp, fun j hj => by omega, rfl⟩
  case round =>
    obtain ⟨k, hk, rfl, HK, rfl⟩ := hrel
    by_cases hkn : k < s.size
    case neg =>
      obtain rfl : k = s.size := by omega
      have hend := Lib.hid (okNm_end HK.out)
      have hd : decide ((s.size : Int) < s.size) = false := decide_eq_false (by omega)
      go_wp2
      go_returns
      exact ⟨ret_bool (hend.out.trans (decide_eq_true (by omega))).symm, rfl⟩
    have hd : decide ((k : Int) < s.size) = true := decide_eq_true (by omega)
    have hbv := bAt_y hkn
    obtain ⟨b, hb⟩ : ∃ b, bAt s k = b := ⟨_, rfl⟩
    rw [hb] at hbv
    have HE := Lib.hid hb
    clear hb
    obtain ⟨q1, h1⟩ : ∃ q, smB b = q := ⟨_, rfl⟩
    cases q1
    case true =>
      have hgood := Lib.hid (show nmC (bAt s k) k = true by rw [HE.out]; unfold nmC; rw [h1]; rfl)
      go_wp2_with (first | (go_at_call 77; (with_reducible refine (smB_is (by assumption) _).mono ?_); rintro e w1 ⟨rfl, rfl⟩) | (go_at_call 78; (with_reducible refine (dgC_is (by assumption) _).mono ?_); rintro e w1 ⟨rfl, rfl⟩) | fail)
      go_roundw
      case rel => exact ⟨k + 1, by omega, by go_num, fun j hj => by by_cases e : j = k; (subst e; exact hgood.out); exact HK.out j (by omega), by first | rfl | trivial⟩
      case measure => simp [intOf]; omega
    have hk0 : k ≠ 0 := fun h9 => by subst h9; have h8 := HQ.out; rw [HE.out, h1] at h8; cases h8
    obtain ⟨q2, h2⟩ : ∃ q, dgC b = q := ⟨_, rfl⟩
    cases q2
    case true =>
      have hgood := Lib.hid (show nmC (bAt s k) k = true by rw [HE.out]; unfold nmC; rw [h1, h2, decide_eq_true hk0]; rfl)
      go_wp2_with (first | (go_at_call 77; (with_reducible refine (smB_is (by assumption) _).mono ?_); rintro e w1 ⟨rfl, rfl⟩) | (go_at_call 78; (with_reducible refine (dgC_is (by assumption) _).mono ?_); rintro e w1 ⟨rfl, rfl⟩) | fail)
      go_roundw
      case rel => exact ⟨k + 1, by omega, by go_num, fun j hj => by by_cases e : j = k; (subst e; exact hgood.out); exact HK.out j (by omega), by first | rfl | trivial⟩
      case measure => simp [intOf]; omega
    by_cases h3 : b = 45
    case pos =>
      have d3 : (b == 45) = true := by simp [h3]
      have e3 : (b != 45) = false := by simp [h3]
      have h4 := Lib.hid h3
      clear h3
      have hgood := Lib.hid (show nmC (bAt s k) k = true by rw [HE.out]; unfold nmC; rw [h1, h2, decide_eq_true hk0, decide_eq_true h4.out]; rfl)
      go_wp2_with (first | (go_at_call 77; (with_reducible refine (smB_is (by assumption) _).mono ?_); rintro e w1 ⟨rfl, rfl⟩) | (go_at_call 78; (with_reducible refine (dgC_is (by assumption) _).mono ?_); rintro e w1 ⟨rfl, rfl⟩) | fail)
      go_roundw
      case rel => exact ⟨k + 1, by omega, by go_num, fun j hj => by by_cases e : j = k; (subst e; exact hgood.out); exact HK.out j (by omega), by first | rfl | trivial⟩
      case measure => simp [intOf]; omega
    have d3 : (b == 45) = false := by simp [h3]
    have e3 : (b != 45) = true := by simp [h3]
    have hbad := Lib.hid (okNm_bad hkn (show nmC (bAt s k) k = false by rw [HE.out]; unfold nmC; rw [h1, h2, decide_eq_false h3]; simp))
    go_wp2_with (first | (go_at_call 77; (with_reducible refine (smB_is (by assumption) _).mono ?_); rintro e w1 ⟨rfl, rfl⟩) | (go_at_call 78; (with_reducible refine (dgC_is (by assumption) _).mono ?_); rintro e w1 ⟨rfl, rfl⟩) | fail)
    go_returns
    exact ⟨ret_bool hbad.out.symm, rfl⟩
end Go.Proofs.YtoglmeiffidcbaaDoor
