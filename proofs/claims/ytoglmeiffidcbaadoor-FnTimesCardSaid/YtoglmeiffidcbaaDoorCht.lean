/- Charts: their steps, whether one is valid, both sides. -/
import Derived.Test.YtoglmeiffidcbaaDoorBase
import Derived.Test.YtoglmeiffidcbaaDoorSlices
import Derived.Test.YtoglmeiffidcbaaDoorApp
import Derived.BigQuiet
namespace Go.Proofs.YtoglmeiffidcbaaDoor
open Go.RowKit Go.Deep
def rdC (zs : List Int) (k : Nat) : Int := zs.getD (k * 2) 0
def ldC (zs : List Int) (k : Nat) : Int := zs.getD (k * 2 + 1) 0
theorem si2 {w : World} {B : Nat} {A : Option Addr} {zs : List Int} {n k : Nat} (h : SI w B A zs) (hz : zs.length = n * 2) (hk : k < n) : ∃ b off, A = some ⟨b, off, none⟩ ∧ b < B ∧ w.cell? ⟨b, off + k * 2, none⟩ = some (.int .i64 (rdC zs k)) ∧ w.cell? ⟨b, off + k * 2 + 1, none⟩ = some (.int .i64 (ldC zs k)) := by
  obtain ⟨b, off, e, hB, hc⟩ := h (by omega)
  exact ⟨b, off, e, hB, hc (k * 2) (by omega), by have := hc (k * 2 + 1) (by omega); rwa [← Nat.add_assoc] at this⟩
/-- step i is one that may stand there -/
def stepOk (zs : List Int) (i : Nat) : Bool := inI (rdC zs i) 1 1000 && (inI (ldC zs i) 0 50000 && (decide (i = 0) || (decide (rdC zs (i - 1) < rdC zs i) && decide (ldC zs i ≤ ldC zs (i - 1)))))
def okCh (zs : List Int) (n : Nat) : Bool := (List.range n).all (stepOk zs) && inI n 1 20
theorem okCh_bad {zs : List Int} {n k : Nat} (hk : k < n) (h : stepOk zs k = false) : okCh zs n = false := by
  have : (List.range n).all (stepOk zs) = false := by rw [List.all_eq_false]; exact ⟨k, List.mem_range.2 hk, by rw [h]; decide⟩
  unfold okCh; rw [this]; rfl
theorem okCh_end {zs : List Int} {n : Nat} (h : ∀ k, k < n → stepOk zs k = true) : okCh zs n = inI n 1 20 := by
  have : (List.range n).all (stepOk zs) = true := by rw [List.all_eq_true]; intro k hk; exact h k (List.mem_range.1 hk)
  unfold okCh; rw [this]; simp
theorem okCh_t {zs : List Int} {n : Nat} (h : okCh zs n = true) : (∀ k, k < n → stepOk zs k = true) ∧ 1 ≤ n ∧ n ≤ 20 := by
  unfold okCh at h
  simp only [Bool.and_eq_true, List.all_eq_true, List.mem_range] at h
  have := inI_t h.2
  exact ⟨h.1, by omega, by omega⟩
theorem stepOk_t {zs : List Int} {k : Nat} (h : stepOk zs k = true) : (1 ≤ rdC zs k ∧ rdC zs k ≤ 1000) ∧ (0 ≤ ldC zs k ∧ ldC zs k ≤ 50000) := by
  unfold stepOk at h
  simp only [Bool.and_eq_true] at h
  exact ⟨inI_t h.1, inI_t h.2.1⟩
theorem incht_is {n a b : Int} {r : Bool} (h : inI n a b = r) {P : Program} {f : FuncId} {args : Array Value} {w : World} (c : Calls P f args w fun e w' => e = .returned (.bool (inI n a b)) ∧ w = w') : Calls P f args w fun e w' => e = .returned (.bool r) ∧ w = w' := by rw [← h]; exact c
set_option maxHeartbeats 8000000 in
set_option maxRecDepth 20000 in
theorem l03Ok_any (A : Option Addr) (n c : Nat) (zs : List Int) (w : World) (hn : n ≤ 1048576) (hz : zs.length = n * 2) (h : SI w w.heap.size A zs) : Calls Tryd.prog 55 #[.slice A n c] w fun e w' => e = .returned (.bool (okCh zs n)) ∧ Below w.heap.size w w' := by
  have HZ := Lib.hid hz
  have H := Lib.hid h
  clear hz h
  go_enter Tryd.func55, Tryd.ntmps55
  go_wp2
  go_loopw [3] (fun iv wr => ∃ k : Nat, k ≤ n ∧ iv = .int .i64 (k : Int) ∧ Hid (∀ j, j < k → stepOk zs j = true) ∧ Below w.heap.size w wr) (fun iv _ => n - (intOf iv).toNat)
  case atStart => exact ⟨0, by omega, by simp, fun j hj => by omega, gr_refl w⟩
  case round =>
    obtain ⟨k, hk, rfl, HK, hb⟩ := hrel
    have HB := Lib.hid hb
    clear hb
    by_cases hkn : k < n
    case neg =>
      obtain rfl : k = n := by omega
      have hend := Lib.hid (okCh_end HK.out)
      have hd : decide ((k : Int) < k) = false := decide_eq_false (by omega)
      obtain ⟨q, hq⟩ : ∃ q, inI k 1 20 = q := ⟨_, rfl⟩
      have HQ := Lib.hid hq
      go_wp2_with (go_at_call 25; (with_reducible refine (incht_is (by assumption) (in_any _ _ _ _)).mono ?_); rintro e w1 ⟨rfl, rfl⟩)
      go_returns
      exact ⟨ret_bool (hend.out.trans HQ.out).symm, HB.out⟩
    have hd : decide ((k : Int) < n) = true := decide_eq_true (by omega)
    obtain ⟨b, off, hA, hB, p0, p1⟩ := si2 ((H.out.below HB.out).more HB.out.size) HZ.out hkn
    subst hA
    have HP : Hid (∀ m, m < n → wr.cell? ⟨b, off + m * 2, none⟩ = some (.int .i64 (rdC zs m)) ∧ wr.cell? ⟨b, off + m * 2 + 1, none⟩ = some (.int .i64 (ldC zs m))) := fun m hm => by
      obtain ⟨b', off', hA', _, q0, q1⟩ := si2 ((H.out.below HB.out).more HB.out.size) HZ.out hm
      simp only [Option.some.injEq, Addr.mk.injEq, and_true] at hA'
      obtain ⟨rfl, rfl⟩ := hA'
      exact ⟨q0, q1⟩
    obtain ⟨q1, h1⟩ : ∃ q, inI (rdC zs k) 1 1000 = q := ⟨_, rfl⟩
    obtain ⟨q2, h2⟩ : ∃ q, inI (ldC zs k) 0 50000 = q := ⟨_, rfl⟩
    cases q1
    · have hbad := Lib.hid (okCh_bad hkn (show stepOk zs k = false by simp [stepOk, h1]))
      go_wp2_with (go_at_call 25; (with_reducible refine (incht_is (by assumption) (in_any _ _ _ _)).mono ?_); rintro e w1 ⟨rfl, rfl⟩)
      go_returns
      exact ⟨ret_bool hbad.out.symm, by repeat' (first | with_reducible exact HB.out | (with_reducible refine gr_drewN ?_) | (with_reducible refine gr_drew ?_) | (with_reducible refine gr_alloc ?_))⟩
    cases q2
    · have hbad := Lib.hid (okCh_bad hkn (show stepOk zs k = false by simp [stepOk, h1, h2]))
      go_wp2_with (go_at_call 25; (with_reducible refine (incht_is (by assumption) (in_any _ _ _ _)).mono ?_); rintro e w1 ⟨rfl, rfl⟩)
      go_returns
      exact ⟨ret_bool hbad.out.symm, by repeat' (first | with_reducible exact HB.out | (with_reducible refine gr_drewN ?_) | (with_reducible refine gr_drew ?_) | (with_reducible refine gr_alloc ?_))⟩
    rcases k with _ | m
    · have hk0 : decide ((0 : Int) < 0) = false := by decide
      have hok : stepOk zs 0 = true := by simp [stepOk, h1, h2]
      have HOK := Lib.hid (fun j (hj : j < 1) => (show stepOk zs j = true from (Nat.lt_one_iff.1 hj).symm ▸ hok))
      clear hok
      simp only [Nat.zero_mul, Nat.add_zero, Int.natCast_zero] at *
      go_wp2_with (go_at_call 25; (with_reducible refine (incht_is (by assumption) (in_any _ _ _ _)).mono ?_); rintro e w1 ⟨rfl, rfl⟩)
      go_quiet (fail)
      go_wp2
      go_roundw
      case rel => exact ⟨1, by omega, by go_num, HOK.out, by repeat' (first | with_reducible exact HB.out | (with_reducible refine gr_drewN ?_) | (with_reducible refine gr_drew ?_) | (with_reducible refine gr_alloc ?_))⟩
      case measure => simp [intOf]; omega
    · obtain ⟨r0, r1⟩ := HP.out m (by omega)
      have hk0 : decide ((0 : Int) < ((m + 1 : Nat) : Int)) = true := decide_eq_true (by omega)
      have hm1 : (((m + 1 : Nat) : Int)) - 1 = (m : Int) := by omega
      by_cases h3 : rdC zs (m + 1) ≤ rdC zs m
      case pos =>
        have hbad := Lib.hid (okCh_bad hkn (show stepOk zs (m + 1) = false by simp [stepOk, h1, h2]; omega))
        have hd3 := decide_eq_true h3
        go_wp2_with (go_at_call 25; (with_reducible refine (incht_is (by assumption) (in_any _ _ _ _)).mono ?_); rintro e w1 ⟨rfl, rfl⟩)
        go_quiet (fail)
        go_wp2
        go_returns
        exact ⟨ret_bool hbad.out.symm, by repeat' (first | with_reducible exact HB.out | (with_reducible refine gr_drewN ?_) | (with_reducible refine gr_drew ?_) | (with_reducible refine gr_alloc ?_))⟩
      have hd3 := decide_eq_false h3
      by_cases h4 : ldC zs m < ldC zs (m + 1)
      case pos =>
        have hbad := Lib.hid (okCh_bad hkn (show stepOk zs (m + 1) = false by simp [stepOk, h1, h2]; omega))
        have hd4 := decide_eq_true h4
        go_wp2_with (go_at_call 25; (with_reducible refine (incht_is (by assumption) (in_any _ _ _ _)).mono ?_); rintro e w1 ⟨rfl, rfl⟩)
        go_quiet (fail)
        go_wp2
        go_returns
        exact ⟨ret_bool hbad.out.symm, by repeat' (first | with_reducible exact HB.out | (with_reducible refine gr_drewN ?_) | (with_reducible refine gr_drew ?_) | (with_reducible refine gr_alloc ?_))⟩
      have hd4 := decide_eq_false h4
      have hok : stepOk zs (m + 1) = true := by simp [stepOk, h1, h2]; omega
      have HOK := Lib.hid (fun j (hj : j < m + 1 + 1) => (show stepOk zs j = true from if hjm : j = m + 1 then hjm ▸ hok else HK.out j (by omega)))
      clear hok
      go_wp2_with (go_at_call 25; (with_reducible refine (incht_is (by assumption) (in_any _ _ _ _)).mono ?_); rintro e w1 ⟨rfl, rfl⟩)
      go_quiet (fail)
      go_wp2
      go_roundw
      case rel => exact ⟨m + 1 + 1, by omega, by go_num, HOK.out, by repeat' (first | with_reducible exact HB.out | (with_reducible refine gr_drewN ?_) | (with_reducible refine gr_drew ?_) | (with_reducible refine gr_alloc ?_))⟩
      case measure => simp [intOf]; omega
set_option maxHeartbeats 8000000 in
set_option maxRecDepth 20000 in
theorem validChart_any (A : Option Addr) (n c : Nat) (zs : List Int) (w : World) (hn : n ≤ 1048576) (hz : zs.length = n * 2) (h : SI w w.heap.size A zs) : Calls Tryd.prog 66 #[.slice A n c] w fun e w' => e = .returned (.bool (okCh zs n)) ∧ Below w.heap.size w w' := by
  have HZ := Lib.hid hz
  have H := Lib.hid h
  clear hz h
  go_enter Tryd.func66, Tryd.ntmps66
  go_wp2
  go_loopw [7] (fun iv wr => ∃ k : Nat, k ≤ n ∧ iv = .int .i64 (k : Int) ∧ Hid (∀ j, j < k → stepOk zs j = true) ∧ Below w.heap.size w wr) (fun iv _ => n - (intOf iv).toNat)
  case atStart => exact ⟨0, by omega, by simp, fun j hj => by omega, gr_refl w⟩
  case round =>
    obtain ⟨k, hk, rfl, HK, hb⟩ := hrel
    have HB := Lib.hid hb
    clear hb
    by_cases hkn : k < n
    case neg =>
      obtain rfl : k = n := by omega
      have hend := Lib.hid (okCh_end HK.out)
      have hd : decide ((k : Int) < k) = false := decide_eq_false (by omega)
      obtain ⟨q, hq⟩ : ∃ q, inI k 1 20 = q := ⟨_, rfl⟩
      have HQ := Lib.hid hq
      by_cases h1 : 1 ≤ (k : Int)
      · by_cases h2 : (k : Int) ≤ 20
        · have hh := Lib.hid (inI_y ⟨h1, h2⟩)
          have hd2 := decide_eq_true h1
          have hd3 := decide_eq_true h2
          go_wp2
          go_returns
          exact ⟨ret_bool (hend.out.trans hh.out).symm, HB.out⟩
        · have hh := Lib.hid (inI_n (n := k) (a := 1) (b := 20) (by omega))
          have hd2 := decide_eq_true h1
          have hd3 := decide_eq_false h2
          go_wp2
          go_returns
          exact ⟨ret_bool (hend.out.trans hh.out).symm, HB.out⟩
      · have hh := Lib.hid (inI_n (n := k) (a := 1) (b := 20) (by omega))
        have hd2 := decide_eq_false h1
        go_wp2
        go_returns
        exact ⟨ret_bool (hend.out.trans hh.out).symm, HB.out⟩
    have hd : decide ((k : Int) < n) = true := decide_eq_true (by omega)
    obtain ⟨b, off, hA, hB, p0, p1⟩ := si2 ((H.out.below HB.out).more HB.out.size) HZ.out hkn
    subst hA
    have HP : Hid (∀ m, m < n → wr.cell? ⟨b, off + m * 2, none⟩ = some (.int .i64 (rdC zs m)) ∧ wr.cell? ⟨b, off + m * 2 + 1, none⟩ = some (.int .i64 (ldC zs m))) := fun m hm => by
      obtain ⟨b', off', hA', _, q0, q1⟩ := si2 ((H.out.below HB.out).more HB.out.size) HZ.out hm
      simp only [Option.some.injEq, Addr.mk.injEq, and_true] at hA'
      obtain ⟨rfl, rfl⟩ := hA'
      exact ⟨q0, q1⟩
    have hbw : b < wr.heap.size := hB
    obtain ⟨q1, h1⟩ : ∃ q, inI (rdC zs k) 1 1000 = q := ⟨_, rfl⟩
    obtain ⟨q2, h2⟩ : ∃ q, inI (ldC zs k) 0 50000 = q := ⟨_, rfl⟩
    cases q1
    · have hbad := Lib.hid (okCh_bad hkn (show stepOk zs k = false by simp [stepOk, h1]))
      go_wp2_with (go_at_call 28; (with_reducible refine (incht_is (by assumption) (within_any _ _ _ _)).mono ?_); rintro e w1 ⟨rfl, rfl⟩)
      go_returns
      exact ⟨ret_bool hbad.out.symm, by repeat' (first | with_reducible exact HB.out | (with_reducible refine gr_drewN ?_) | (with_reducible refine gr_drew ?_) | (with_reducible refine gr_alloc ?_))⟩
    cases q2
    · have hbad := Lib.hid (okCh_bad hkn (show stepOk zs k = false by simp [stepOk, h1, h2]))
      go_wp2_with (go_at_call 28; (with_reducible refine (incht_is (by assumption) (within_any _ _ _ _)).mono ?_); rintro e w1 ⟨rfl, rfl⟩)
      go_returns
      exact ⟨ret_bool hbad.out.symm, by repeat' (first | with_reducible exact HB.out | (with_reducible refine gr_drewN ?_) | (with_reducible refine gr_drew ?_) | (with_reducible refine gr_alloc ?_))⟩
    rcases k with _ | m
    · have hk0 : decide ((0 : Int) < 0) = false := by decide
      have hok : stepOk zs 0 = true := by simp [stepOk, h1, h2]
      have HOK := Lib.hid (fun j (hj : j < 1) => (show stepOk zs j = true from (Nat.lt_one_iff.1 hj).symm ▸ hok))
      clear hok
      simp only [Nat.zero_mul, Nat.add_zero, Int.natCast_zero] at *
      go_wp2_with (go_at_call 28; (with_reducible refine (incht_is (by assumption) (within_any _ _ _ _)).mono ?_); rintro e w1 ⟨rfl, rfl⟩)
      go_quiet (fail)
      go_wp2
      go_roundw
      case rel => exact ⟨1, by omega, by go_num, HOK.out, by repeat' (first | with_reducible exact HB.out | (with_reducible refine gr_drewN ?_) | (with_reducible refine gr_drew ?_) | (with_reducible refine gr_alloc ?_))⟩
      case measure => simp [intOf]; omega
    · obtain ⟨r0, r1⟩ := HP.out m (by omega)
      have hk0 : decide ((0 : Int) < ((m + 1 : Nat) : Int)) = true := decide_eq_true (by omega)
      have hm1 : (((m + 1 : Nat) : Int)) - 1 = (m : Int) := by omega
      by_cases h3 : rdC zs (m + 1) ≤ rdC zs m
      case pos =>
        have hbad := Lib.hid (okCh_bad hkn (show stepOk zs (m + 1) = false by simp [stepOk, h1, h2]; omega))
        have hd3 := decide_eq_true h3
        go_wp2_with (go_at_call 28; (with_reducible refine (incht_is (by assumption) (within_any _ _ _ _)).mono ?_); rintro e w1 ⟨rfl, rfl⟩)
        go_quiet (fail)
        go_wp2
        go_returns
        exact ⟨ret_bool hbad.out.symm, by repeat' (first | with_reducible exact HB.out | (with_reducible refine gr_drewN ?_) | (with_reducible refine gr_drew ?_) | (with_reducible refine gr_alloc ?_))⟩
      have hd3 := decide_eq_false h3
      by_cases h4 : ldC zs m < ldC zs (m + 1)
      case pos =>
        have hbad := Lib.hid (okCh_bad hkn (show stepOk zs (m + 1) = false by simp [stepOk, h1, h2]; omega))
        have hd4 := decide_eq_true h4
        go_wp2_with (go_at_call 28; (with_reducible refine (incht_is (by assumption) (within_any _ _ _ _)).mono ?_); rintro e w1 ⟨rfl, rfl⟩)
        go_quiet (fail)
        go_wp2
        go_returns
        exact ⟨ret_bool hbad.out.symm, by repeat' (first | with_reducible exact HB.out | (with_reducible refine gr_drewN ?_) | (with_reducible refine gr_drew ?_) | (with_reducible refine gr_alloc ?_))⟩
      have hd4 := decide_eq_false h4
      have hok : stepOk zs (m + 1) = true := by simp [stepOk, h1, h2]; omega
      have HOK := Lib.hid (fun j (hj : j < m + 1 + 1) => (show stepOk zs j = true from if hjm : j = m + 1 then hjm ▸ hok else HK.out j (by omega)))
      clear hok
      go_wp2_with (go_at_call 28; (with_reducible refine (incht_is (by assumption) (within_any _ _ _ _)).mono ?_); rintro e w1 ⟨rfl, rfl⟩)
      go_quiet (fail)
      go_wp2
      go_roundw
      case rel => exact ⟨m + 1 + 1, by omega, by go_num, HOK.out, by repeat' (first | with_reducible exact HB.out | (with_reducible refine gr_drewN ?_) | (with_reducible refine gr_drew ?_) | (with_reducible refine gr_alloc ?_))⟩
      case measure => simp [intOf]; omega
end Go.Proofs.YtoglmeiffidcbaaDoor
