/- Contracts of ValidTable and CountConflicts, both sides. -/
import Derived.Test.YtmgbbkglafnibaaTab
namespace Go.Proofs.Ytmgbbkglafnibaa
open Go.RowKit
def all24 (T : List (List Bool)) : Bool := T.all fun bs => decide (bs.length = 24)
def okT (T : List (List Bool)) : Bool := decide (T.length = 24) && all24 T
theorem all24_bad {T : List (List Bool)} {j : Nat} {bs : List Bool} (hj : T[j]? = some bs) (h : ¬ bs.length = 24) : all24 T = false := by
  unfold all24
  rw [List.all_eq_false]
  exact ⟨bs, List.mem_iff_getElem?.2 ⟨j, hj⟩, by simpa using h⟩
theorem all24_y {T : List (List Bool)} (h : ∀ (j : Nat) bs, T[j]? = some bs → bs.length = 24) : all24 T = true := by
  unfold all24
  rw [List.all_eq_true]
  intro bs hb
  obtain ⟨j, hj⟩ := List.mem_iff_getElem?.1 hb
  exact decide_eq_true (h j bs hj)
theorem all24_t {T : List (List Bool)} (h : all24 T = true) {j : Nat} {bs : List Bool} (hj : T[j]? = some bs) : bs.length = 24 := by
  unfold all24 at h
  rw [List.all_eq_true] at h
  exact of_decide_eq_true (h bs (List.mem_iff_getElem?.2 ⟨j, hj⟩))
theorem okT_t {T : List (List Bool)} (h : okT T = true) : T.length = 24 ∧ all24 T = true := by unfold okT at h; simpa using h
theorem okT_n {T : List (List Bool)} (h : ¬ T.length = 24) : okT T = false := by simp [okT, h]
theorem okT_y {T : List (List Bool)} (h : T.length = 24) : okT T = all24 T := by simp [okT, h]
def cntR (bs : List Bool) (k : Nat) : Int := ((bs.take k).filter id).length
theorem cntR_bd (bs : List Bool) (k : Nat) : 0 ≤ cntR bs k ∧ cntR bs k ≤ k := by
  unfold cntR
  have h1 := List.length_filter_le id (bs.take k)
  have h2 := List.length_take_le k bs
  omega
theorem cntR_step {bs : List Bool} {k : Nat} {x : Bool} (h : bs[k]? = some x) : cntR bs (k + 1) = cntR bs k + (if x = true then 1 else 0) := by
  unfold cntR
  rw [List.take_add_one, h]
  cases x <;> simp
def cntS (T : List (List Bool)) : Nat → Int
  | 0 => 0
  | k + 1 => cntS T k + cntR (T.getD k []) 24
theorem cntS_bd (T : List (List Bool)) : ∀ k : Nat, 0 ≤ cntS T k ∧ cntS T k ≤ 24 * k
  | 0 => ⟨Int.le_refl 0, Int.le_refl 0⟩
  | k + 1 => by
    have h1 := cntS_bd T k
    have h2 := cntR_bd (T.getD k []) 24
    show 0 ≤ cntS T k + cntR (T.getD k []) 24 ∧ cntS T k + cntR (T.getD k []) 24 ≤ _
    omega
theorem cntS_step {T : List (List Bool)} {k : Nat} {bs : List Bool} (h : T[k]? = some bs) : cntS T (k + 1) = cntS T k + cntR bs 24 := by
  show cntS T k + cntR (T.getD k []) 24 = _
  rw [List.getD_eq_getElem?_getD, h]
  rfl
def ccN (T : List (List Bool)) : Int := if okT T = true then cntS T 24 else 0
def ccE (T : List (List Bool)) : Int := if okT T = true then 0 else 8
/-- the index of a row that is not of 24; -1 if there is none -/
def IdxOk (T : List (List Bool)) (w : World) (e : Ending) (w' : World) : Prop := ∃ r : Int, e = .returned (.int .i64 r) ∧ w = w' ∧ all24 T = decide (r < 0)
set_option maxHeartbeats 2000000 in
theorem l15Ok_any (A : Option Addr) (c : Nat) (T : List (List Bool)) (w : World) (hn : T.length ≤ 1048576) (h : TB .bool w w.heap.size A T) : Calls Try.prog 41 #[.slice A T.length c] w fun e w' => e = .returned (.bool (okT T)) ∧ w = w' := by
  obtain ⟨n, hn'⟩ : ∃ n, T.length = n := ⟨_, rfl⟩
  have HN := Lib.hid hn'
  have H := Lib.hid h
  clear h
  rw [hn'] at hn ⊢
  clear hn'
  go_enter Try.func41, Try.ntmps41
  go_wp2
  go_loop [3] (fun i => ∃ k : Nat, k ≤ n ∧ i = .int .i64 k ∧ Hid (∀ (j : Nat) bs, j < k → T[j]? = some bs → bs.length = 24)) (fun i => n - (intOf i).toNat)
  case atStart => exact ⟨0, by omega, rfl, fun j bs hj => by omega⟩
  case round =>
    obtain ⟨k, hk, rfl, HS⟩ := hrel
    by_cases hlt : k < n
    · obtain ⟨bs, hx⟩ := at_of_lt (xs := T) (k := k) (by rw [HN.out]; exact hlt)
      obtain ⟨b, off, A', c', rfl, hB, hc, _⟩ := H.out.row hx
      by_cases hl : bs.length = 24
      · have hb : ((bs.length : Int) != 24) = false := by rw [bne_eq_false_iff_eq]; omega
        have HX := Lib.hid hx
        have HL := Lib.hid hl
        clear hx hl
        go_wp2
        go_round
        case rel => exact ⟨k + 1, by omega, by go_num, fun j bs' hj hb' => by by_cases e : j = k; (subst e; have e2 := HX.out.symm.trans hb'; simp only [Option.some.injEq] at e2; rw [← e2]; exact HL.out); exact HS.out j bs' (by omega) hb'⟩
        case measure => simp [intOf]; omega
      · have hb : ((bs.length : Int) != 24) = true := by rw [bne_iff_ne]; omega
        have HO := Lib.hid (show okT T = false by unfold okT; rw [all24_bad hx hl]; simp)
        clear hx hl
        go_wp2
        go_ret
        exact ⟨ret_bool HO.out.symm, rfl⟩
    · obtain rfl : k = n := by omega
      have HA := Lib.hid (all24_y (T := T) (fun j bs hj => HS.out j bs (by rw [← HN.out]; exact lt_of_at hj) hj))
      by_cases hl : k = 24
      · have hb : ((k : Int) == 24) = true := beq_iff_eq.2 (by omega)
        have HO := Lib.hid (show okT T = true by rw [okT_y (by rw [HN.out]; exact hl), HA.out])
        clear hl
        go_wp2
        go_ret
        exact ⟨ret_bool HO.out.symm, rfl⟩
      · have hb : ((k : Int) == 24) = false := beq_eq_false_iff_ne.2 (by omega)
        have HO := Lib.hid (show okT T = false from okT_n (by rw [HN.out]; exact hl))
        go_wp2
        go_ret
        exact ⟨ret_bool HO.out.symm, rfl⟩
set_option maxHeartbeats 1000000 in
theorem specVt_any (A : Option Addr) (c : Nat) (T : List (List Bool)) (w : World) (hn : T.length ≤ 1048576) (h : TB .bool w w.heap.size A T) : Calls Try.prog 12 #[.slice A T.length c] w fun e w' => e = .returned (.bool (okT T)) ∧ w = w' := by
  have H := Lib.hid h
  clear h
  go_enter Try.func12, Try.ntmps12; go_wp2_with (go_at_call 41; (with_reducible refine (l15Ok_any _ _ T _ hn H.out).mono ?_); rintro e w1 ⟨rfl, rfl⟩)
  go_ret; exact ⟨rfl, rfl⟩
set_option maxHeartbeats 1000000 in
theorem vt1_is (A : Option Addr) (n c : Nat) {r : Bool} (h : ((n : Int) != 24) = r) (w : World) (_ : n ≤ 9223372036854775807) : Calls Try.prog 44 #[.slice A n c] w fun e w' => e = .returned (.bool r) ∧ w = w' := by
  cases r
  · go_enter Try.func44, Try.ntmps44; go_wp2; go_ret; exact ⟨rfl, rfl⟩
  · go_enter Try.func44, Try.ntmps44; go_wp2; go_ret; exact ⟨rfl, rfl⟩
set_option maxHeartbeats 2000000 in
theorem idxF_any (A : Option Addr) (c : Nat) (T : List (List Bool)) (w : World) (hn : T.length ≤ 1048576) (h : TB .bool w w.heap.size A T) (hbs : ∀ (j : Nat) bs, T[j]? = some bs → bs.length ≤ 1048576) : Calls Try.prog 61 #[.slice A T.length c, .func (.func 44) #[] #[]] w (IdxOk T w) := by
  obtain ⟨n, hn'⟩ : ∃ n, T.length = n := ⟨_, rfl⟩
  have HN := Lib.hid hn'
  have H := Lib.hid h
  clear h
  rw [hn'] at hn ⊢
  clear hn'
  have HB := Lib.hid hbs
  clear hbs
  go_enter Try.func61, Try.ntmps61
  go_wp2
  go_loop [8] (fun i => ∃ k : Nat, k ≤ n ∧ i = .int .i64 k ∧ Hid (∀ (j : Nat) bs, j < k → T[j]? = some bs → bs.length = 24)) (fun i => n - (intOf i).toNat)
  case atStart => exact ⟨0, by omega, rfl, fun j bs hj => by omega⟩
  case round =>
    obtain ⟨k, hk, rfl, HS⟩ := hrel
    by_cases hlt : k < n
    · obtain ⟨bs, hx⟩ := at_of_lt (xs := T) (k := k) (by rw [HN.out]; exact hlt)
      obtain ⟨b, off, A', c', rfl, hB, hc, _⟩ := H.out.row hx
      have hbl := HB.out k bs hx
      by_cases hl : bs.length = 24
      · have hb : ((bs.length : Int) != 24) = false := by rw [bne_eq_false_iff_eq]; omega
        have HX := Lib.hid hx
        have HL := Lib.hid hl
        clear hx hl
        go_wp2_with (go_at_call 44; (with_reducible refine (vt1_is _ _ _ hb _ (by omega)).mono ?_); rintro e w1 ⟨rfl, rfl⟩)
        go_round
        case rel => exact ⟨k + 1, by omega, by go_num, fun j bs' hj hb' => by by_cases e : j = k; (subst e; have e2 := HX.out.symm.trans hb'; simp only [Option.some.injEq] at e2; rw [← e2]; exact HL.out); exact HS.out j bs' (by omega) hb'⟩
        case measure => simp [intOf]; omega
      · have hb : ((bs.length : Int) != 24) = true := by rw [bne_iff_ne]; omega
        have HO := Lib.hid (all24_bad hx hl)
        clear hx hl
        go_wp2_with (go_at_call 44; (with_reducible refine (vt1_is _ _ _ hb _ (by omega)).mono ?_); rintro e w1 ⟨rfl, rfl⟩)
        go_ret
        exact ⟨k, rfl, rfl, by rw [HO.out]; exact (decide_eq_false (by omega)).symm⟩
    · obtain rfl : k = n := by omega
      have HA := Lib.hid (all24_y (T := T) (fun j bs hj => HS.out j bs (by rw [← HN.out]; exact lt_of_at hj) hj))
      go_wp2
      go_ret
      exact ⟨-1, rfl, rfl, by rw [HA.out]; rfl⟩
set_option maxHeartbeats 1000000 in
theorem contF_any (A : Option Addr) (c : Nat) (T : List (List Bool)) (w : World) (hn : T.length ≤ 1048576) (h : TB .bool w w.heap.size A T) (hbs : ∀ (j : Nat) bs, T[j]? = some bs → bs.length ≤ 1048576) : Calls Try.prog 43 #[.slice A T.length c, .func (.func 44) #[] #[]] w fun e w' => e = .returned (.bool (!(all24 T))) ∧ w = w' := by
  have H := Lib.hid h
  have HB := Lib.hid hbs
  clear h hbs
  go_enter Try.func43, Try.ntmps43; go_wp2_with fail
  go_at_call 61
  (with_reducible refine (idxF_any _ _ T _ hn H.out HB.out).mono ?_)
  rintro e w1 ⟨r, rfl, rfl, ha⟩
  have HA := Lib.hid ha
  clear ha
  by_cases hr : r < 0
  · have hd : decide (0 ≤ r) = false := decide_eq_false (by omega)
    go_wp2
    go_ret
    exact ⟨ret_bool (by rw [HA.out, decide_eq_true (show r < 0 by omega)]; rfl), rfl⟩
  · have hp : 0 ≤ r := by omega
    go_wp2
    go_ret
    exact ⟨ret_bool (by rw [HA.out, decide_eq_false (show ¬ r < 0 by omega)]; rfl), rfl⟩
set_option maxHeartbeats 1000000 in
theorem implVt_any (A : Option Addr) (c : Nat) (T : List (List Bool)) (w : World) (hn : T.length ≤ 1048576) (h : TB .bool w w.heap.size A T) (hbs : ∀ (j : Nat) bs, T[j]? = some bs → bs.length ≤ 1048576) : Calls Try.prog 14 #[.slice A T.length c] w fun e w' => e = .returned (.bool (okT T)) ∧ w = w' := by
  have H := Lib.hid h
  have HB := Lib.hid hbs
  clear h hbs
  by_cases hl : T.length = 24
  · have hb : ((T.length : Int) == 24) = true := beq_iff_eq.2 (by omega)
    rw [okT_y hl]
    clear hl
    go_enter Try.func14, Try.ntmps14; go_wp2_with (go_at_call 43; (with_reducible refine (contF_any _ _ T _ hn H.out HB.out).mono ?_); rintro e w1 ⟨rfl, rfl⟩)
    go_ret
    exact ⟨ret_bool (by simp), rfl⟩
  · have hb : ((T.length : Int) == 24) = false := beq_eq_false_iff_ne.2 (by omega)
    rw [okT_n hl]
    go_enter Try.func14, Try.ntmps14; go_wp2_with (go_at_call 43; (with_reducible refine (contF_any _ _ T _ hn H.out HB.out).mono ?_); rintro e w1 ⟨rfl, rfl⟩)
    go_ret
    exact ⟨rfl, rfl⟩
set_option maxHeartbeats 1000000 in
theorem l15Ok_is (A : Option Addr) (c : Nat) (T : List (List Bool)) (w : World) (hn : T.length ≤ 1048576) (h : TB .bool w w.heap.size A T) {r : Bool} (hr : okT T = r) : Calls Try.prog 41 #[.slice A T.length c] w fun e w' => e = .returned (.bool r) ∧ w = w' := by
  subst hr
  exact l15Ok_any A c T w hn h
set_option maxHeartbeats 1000000 in
theorem implVt_is (A : Option Addr) (c : Nat) (T : List (List Bool)) (w : World) (hn : T.length ≤ 1048576) (h : TB .bool w w.heap.size A T) (hbs : ∀ (j : Nat) bs, T[j]? = some bs → bs.length ≤ 1048576) {r : Bool} (hr : okT T = r) : Calls Try.prog 14 #[.slice A T.length c] w fun e w' => e = .returned (.bool r) ∧ w = w' := by
  subst hr
  exact implVt_any A c T w hn h hbs
set_option maxHeartbeats 2000000 in
theorem specCc_any (A : Option Addr) (c : Nat) (T : List (List Bool)) (w : World) (hn : T.length ≤ 1048576) (h : TB .bool w w.heap.size A T) : Calls Try.prog 16 #[.slice A T.length c] w fun e w' => e = .returned (.tuple #[.int .i64 (ccN T), .int .i64 (ccE T)]) ∧ w = w' := by
  by_cases hok : okT T = true
  case neg =>
    have hok := (Bool.not_eq_true _).mp hok
    have HV : Hid (∀ _u : Unit, Calls Try.prog 41 #[.slice A T.length c] w fun e w' => e = .returned (.bool false) ∧ w = w') := fun _ => l15Ok_is A c T w hn h hok
    rw [show ccN T = 0 by simp [ccN, hok], show ccE T = 8 by simp [ccE, hok]]
    clear h hok
    go_enter Try.func16, Try.ntmps16; go_wp2_with (go_at_call 41; (with_reducible refine (HV.out ()).mono ?_); rintro e w1 ⟨rfl, rfl⟩)
    go_returns; exact ⟨rfl, rfl⟩
  have HV : Hid (∀ _u : Unit, Calls Try.prog 41 #[.slice A T.length c] w fun e w' => e = .returned (.bool true) ∧ w = w') := fun _ => l15Ok_is A c T w hn h hok
  obtain ⟨hl, ha⟩ := okT_t hok
  rw [show ccN T = cntS T 24 by simp [ccN, hok], show ccE T = 0 by simp [ccE, hok]]
  have H := Lib.hid h
  have HL := Lib.hid hl
  have HA := Lib.hid ha
  rw [hl] at HV hn ⊢
  clear h hok hl ha
  go_enter Try.func16, Try.ntmps16; go_wp2_with (go_at_call 41; (with_reducible refine (HV.out ()).mono ?_); rintro e w1 ⟨rfl, rfl⟩)
  go_loop [4, 5] (fun x i => ∃ k : Nat, k ≤ 24 ∧ i = .int .i64 k ∧ x = .int .i64 (cntS T k)) (fun _ i => 24 - (intOf i).toNat)
  case atStart => exact ⟨0, by omega, rfl, rfl⟩
  case round =>
    obtain ⟨k, hk, rfl, rfl⟩ := hrel
    have hs := cntS_bd T k
    by_cases hlt : k < 24
    · obtain ⟨bs, hx⟩ := at_of_lt (xs := T) (k := k) (by rw [HL.out]; exact hlt)
      have hlen := all24_t HA.out hx
      obtain ⟨b, off, A', c', rfl, hB, hc, hsv⟩ := H.out.row hx
      rw [hlen] at hc
      obtain ⟨b2, off2, rfl, hB2, hc2⟩ := hsv (by omega)
      have HS := Lib.hid (cntS_step hx)
      have HC := Lib.hid hc2
      have HE := Lib.hid hlen
      clear hx hlen hc2
      obtain ⟨s, hs0⟩ : ∃ s, cntS T k = s := ⟨_, rfl⟩
      have HS0 := Lib.hid hs0
      rw [hs0] at hs ⊢
      clear hs0
      go_wp2
      go_loop [4, 6] (fun x j => ∃ m : Nat, m ≤ 24 ∧ j = .int .i64 m ∧ x = .int .i64 (s + cntR bs m)) (fun _ j => 24 - (intOf j).toNat)
      case atStart => exact ⟨0, by omega, rfl, by simp [cntR]⟩
      case round =>
        obtain ⟨m, hm, rfl, rfl⟩ := hrel
        have hcb := cntR_bd bs m
        by_cases hlm : m < 24
        · obtain ⟨x, hx⟩ := at_of_lt (xs := bs) (k := m) (by rw [HE.out]; exact hlm)
          have hcm := HC.out m x hx
          have HST := Lib.hid (cntR_step hx)
          clear hx
          cases x
          · go_wp2
            go_round
            case rel => exact ⟨m + 1, by omega, by go_num, by rw [HST.out]; simp⟩
            case measure => simp [intOf]; omega
          · go_wp2
            go_round
            case rel => exact ⟨m + 1, by omega, by go_num, by rw [HST.out, if_pos rfl, Int.add_assoc]⟩
            case measure => simp [intOf]; omega
        · obtain rfl : m = 24 := by omega
          go_wp2
          go_round
          case rel => exact ⟨k + 1, by omega, by go_num, by rw [HS.out, HS0.out]⟩
          case measure => simp [intOf]; omega
    · obtain rfl : k = 24 := by omega
      go_wp2
      go_returns
      exact ⟨rfl, rfl⟩
set_option maxHeartbeats 2000000 in
theorem implCc_any (A : Option Addr) (c : Nat) (T : List (List Bool)) (w : World) (hn : T.length ≤ 1048576) (h : TB .bool w w.heap.size A T) (hbs : ∀ (j : Nat) bs, T[j]? = some bs → bs.length ≤ 1048576) : Calls Try.prog 17 #[.slice A T.length c] w fun e w' => e = .returned (.tuple #[.int .i64 (ccN T), .int .i64 (ccE T)]) ∧ w = w' := by
  by_cases hok : okT T = true
  case neg =>
    have hok := (Bool.not_eq_true _).mp hok
    have HV : Hid (∀ _u : Unit, Calls Try.prog 14 #[.slice A T.length c] w fun e w' => e = .returned (.bool false) ∧ w = w') := fun _ => implVt_is A c T w hn h hbs hok
    rw [show ccN T = 0 by simp [ccN, hok], show ccE T = 8 by simp [ccE, hok]]
    clear h hok hbs
    go_enter Try.func17, Try.ntmps17; go_wp2_with (go_at_call 14; (with_reducible refine (HV.out ()).mono ?_); rintro e w1 ⟨rfl, rfl⟩)
    go_returns; exact ⟨rfl, rfl⟩
  have HV : Hid (∀ _u : Unit, Calls Try.prog 14 #[.slice A T.length c] w fun e w' => e = .returned (.bool true) ∧ w = w') := fun _ => implVt_is A c T w hn h hbs hok
  obtain ⟨hl, ha⟩ := okT_t hok
  rw [show ccN T = cntS T 24 by simp [ccN, hok], show ccE T = 0 by simp [ccE, hok]]
  have H := Lib.hid h
  have HL := Lib.hid hl
  have HA := Lib.hid ha
  rw [hl] at HV hn ⊢
  clear h hok hl ha hbs
  go_enter Try.func17, Try.ntmps17; go_wp2_with (go_at_call 14; (with_reducible refine (HV.out ()).mono ?_); rintro e w1 ⟨rfl, rfl⟩)
  go_loop [4, 14] (fun x i => ∃ k : Nat, k ≤ 24 ∧ i = .int .i64 k ∧ x = .int .i64 (cntS T k)) (fun _ i => 24 - (intOf i).toNat)
  case atStart => exact ⟨0, by omega, rfl, rfl⟩
  case round =>
    obtain ⟨k, hk, rfl, rfl⟩ := hrel
    have hs := cntS_bd T k
    by_cases hlt : k < 24
    · obtain ⟨bs, hx⟩ := at_of_lt (xs := T) (k := k) (by rw [HL.out]; exact hlt)
      have hlen := all24_t HA.out hx
      obtain ⟨b, off, A', c', rfl, hB, hc, hsv⟩ := H.out.row hx
      rw [hlen] at hc
      obtain ⟨b2, off2, rfl, hB2, hc2⟩ := hsv (by omega)
      have HS := Lib.hid (cntS_step hx)
      have HC := Lib.hid hc2
      have HE := Lib.hid hlen
      clear hx hlen hc2
      obtain ⟨s, hs0⟩ : ∃ s, cntS T k = s := ⟨_, rfl⟩
      have HS0 := Lib.hid hs0
      rw [hs0] at hs ⊢
      clear hs0
      go_wp2
      go_loop [4, 20] (fun x j => ∃ m : Nat, m ≤ 24 ∧ j = .int .i64 m ∧ x = .int .i64 (s + cntR bs m)) (fun _ j => 24 - (intOf j).toNat)
      case atStart => exact ⟨0, by omega, rfl, by simp [cntR]⟩
      case round =>
        obtain ⟨m, hm, rfl, rfl⟩ := hrel
        have hcb := cntR_bd bs m
        by_cases hlm : m < 24
        · obtain ⟨x, hx⟩ := at_of_lt (xs := bs) (k := m) (by rw [HE.out]; exact hlm)
          have hcm := HC.out m x hx
          have HST := Lib.hid (cntR_step hx)
          clear hx
          cases x
          · go_wp2
            go_round
            case rel => exact ⟨m + 1, by omega, by go_num, by rw [HST.out]; simp⟩
            case measure => simp [intOf]; omega
          · go_wp2
            go_round
            case rel => exact ⟨m + 1, by omega, by go_num, by rw [HST.out, if_pos rfl, Int.add_assoc]⟩
            case measure => simp [intOf]; omega
        · obtain rfl : m = 24 := by omega
          go_wp2
          go_round
          case rel => exact ⟨k + 1, by omega, by go_num, by rw [HS.out, HS0.out]⟩
          case measure => simp [intOf]; omega
    · obtain rfl : k = 24 := by omega
      go_wp2
      go_returns
      exact ⟨rfl, rfl⟩
end Go.Proofs.Ytmgbbkglafnibaa
