/- The laws' functions on tables of integers: sizes, copies, comparisons, marks. -/
import Derived.Test.YtoojnfdphjdocaaTab
import Derived.Test.YtoojnfdphjdocaaInts
import Derived.Test.YtoojnfdphjdocaaTR
namespace Go.Proofs.Ytoojnfdphjdocaa
open Go.RowKit
set_option maxHeartbeats 1000000 in
theorem szInt64SS_any (A : Option Addr) (c : Nat) (left : Int) (T : List (List Int)) (w : World) (ht : TB (.int .i64) w w.heap.size A T) (hn : T.length ≤ 9223372036854775807) (hbs : ∀ (j : Nat) bs, T[j]? = some bs → bs.length ≤ 9223372036854775807) (h0 : 0 ≤ left) (h1 : left ≤ 1048576) : Calls Try.prog 30 #[.slice A T.length c, .int .i64 left] w (SzOk T w) := by
  by_cases hl : left < T.length
  · go_enter Try.func30, Try.ntmps30; go_wp2; go_ret; exact ⟨-1, rfl, rfl, by omega, fun h => by omega⟩
  have hd := decide_eq_false hl
  have hlen : T.length ≤ 1048576 := by omega
  have HT := Lib.hid ht
  have HB := Lib.hid hbs
  clear ht hbs
  obtain ⟨n, hn'⟩ : ∃ n, T.length = n := ⟨_, rfl⟩
  have HN := Lib.hid hn'
  rw [hn'] at hn hl hd hlen ⊢
  clear hn'
  go_enter Try.func30, Try.ntmps30
  go_wp2
  go_loop [1, 5] (fun l i => ∃ (k : Nat) (x : Int), k ≤ n ∧ i = .int .i64 k ∧ l = .int .i64 x ∧ 0 ≤ x ∧ x ≤ 1048576 ∧ Hid (∀ (j : Nat) bs, j < k → T[j]? = some bs → bs.length ≤ 1048576)) (fun _ i => n - (intOf i).toNat)
  case atStart => exact ⟨0, left - n, by omega, rfl, rfl, by omega, by omega, fun j bs hj => by omega⟩
  case round =>
    obtain ⟨k, x, hk, rfl, rfl, hx0, hx1, HS⟩ := hrel
    by_cases hlt : k < n
    · obtain ⟨bs, hbs⟩ := at_of_lt (xs := T) (k := k) (by rw [HN.out]; exact hlt)
      obtain ⟨b, off, A', c', rfl, hB, hc, hsv⟩ := HT.out.row hbs
      have hbl := HB.out k bs hbs
      have HK := Lib.hid hbs
      clear hbs hsv
      by_cases hm : x < bs.length
      · go_wp2_with (go_at_call 45; (with_reducible refine (szInt64S_any _ _ _ _ _ hbl hx0 hx1).mono ?_); rintro e w1 ⟨rfl, rfl⟩; rw [if_pos hm])
        go_ret
        exact ⟨-1, rfl, rfl, by omega, fun h => by omega⟩
      · go_wp2_with (go_at_call 45; (with_reducible refine (szInt64S_any _ _ _ _ _ hbl hx0 hx1).mono ?_); rintro e w1 ⟨rfl, rfl⟩; rw [if_neg hm])
        go_round
        case rel => exact ⟨k + 1, x - bs.length, by omega, by go_num, rfl, by omega, by omega, fun j bs' hj hb => by by_cases e : j = k; (subst e; have := HK.out.symm.trans hb; simp at this; subst this; omega); exact HS.out j bs' (by omega) hb⟩
        case measure => simp [intOf]; omega
    · obtain rfl : k = n := by omega
      go_wp2
      go_ret
      exact ⟨x, rfl, rfl, hx1, fun _ => ⟨by rw [HN.out]; exact hlen, fun j bs hj => HS.out j bs (by rw [← HN.out]; exact lt_of_at hj) hj⟩⟩

theorem infoInts : (Try.prog.info? 22).map (fun i => (i.zero, i.size, i.bytes)) = some (some (.slice none 0 0), 1, 24) := by kernel_rfl
theorem madeInts (n : Nat) (hn : n ≤ 1048576) (w : World) : (Instr.makeSlice 41 (.int .i64 (n : Int)) (.int .i64 (n : Int))).run Try.prog w = .ok (.slice (some ⟨w.heap.size, 0, none⟩) n n) (w.alloc (.cells (Array.replicate n (.slice none 0 0)) 22)) := by
  obtain ⟨i0, hi, hz0, hz1, hz2⟩ := info_parts infoInts
  exact made_one 41 22 i0 _ Try.underlying41 hi hz0 hz1 rfl n (by rw [hz2]; omega) (by omega) w

set_option maxHeartbeats 1000000 in
theorem toInt64SS_any (A : Option Addr) (c : Nat) (T : List (List Int)) (w : World) (hz : Sizes T) (h : TB (.int .i64) w w.heap.size A T) : Calls Try.prog 32 #[.slice A T.length c] w fun e w' => e = .returned (.slice (some ⟨w.heap.size, 0, none⟩) T.length T.length) ∧ FT (.int .i64) 2 22 w' w.heap.size T ∧ Below w.heap.size w w' := by
  have hn := hz.1
  have hmk := madeInts T.length hn
  have H := Lib.hid h
  have HZ := Lib.hid hz.2
  clear h hz
  obtain ⟨n, hn'⟩ : ∃ n, T.length = n := ⟨_, rfl⟩
  have HN := Lib.hid hn'
  rw [hn'] at hn hmk ⊢
  clear hn'
  go_enter Try.func32, Try.ntmps32
  go_wp2
  go_loopw [4] (fun i wr => ∃ k : Nat, k ≤ n ∧ i = .int .i64 k ∧ HalfT (.int .i64) 2 22 wr w.heap.size T k ∧ Below w.heap.size w wr) (fun i _ => n - (intOf i).toNat)
  case atStart => exact ⟨0, by omega, rfl, ⟨[], Fr.nil, by rw [HN.out]; exact BV.made (f := sl) w _ n (none, 0, 0)⟩, gr_alloc (gr_refl w)⟩
  case round =>
    obtain ⟨k, hk, rfl, hht, hbe⟩ := hrel
    by_cases hlt : k < n
    · obtain ⟨bs, hx⟩ := at_of_lt (xs := T) (k := k) (by rw [HN.out]; exact hlt)
      obtain ⟨b, off, A', c', rfl, hB, hc, hsv⟩ := (H.out.below hbe).row hx
      have hbl := HZ.out k bs hx
      have HX := Lib.hid hx
      have HH := Lib.hid hht
      have HB := Lib.hid hbe
      have hsz := hbe.size
      have HS := Lib.hid (hsv.more hsz)
      clear hht hbe hsv hx
      go_wp2_with fail
      go_at_call 46
      (with_reducible refine (toInt64S_any _ _ _ _ hbl HS.out).mono ?_)
      rintro e w1 ⟨rfl, hbv, hb⟩
      obtain ⟨d0, d1, hnx⟩ := HH.out.next HX.out hb hbv (Nat.le_refl _)
      have HNX := Lib.hid hnx
      have HB2 := Lib.hid (gr_then hb HB.out)
      clear hnx hbv hb
      go_wp2
      go_roundw
      case rel => exact ⟨k + 1, by omega, by go_num, HNX.out, HB2.out.setCell (Nat.le_refl _) _⟩
      case measure => simp [intOf]; omega
    · obtain rfl : k = n := by omega
      rw [← HN.out] at hht
      have HH := Lib.hid hht.all
      have HB := Lib.hid hbe
      clear hht hbe
      go_wp2
      go_ret
      exact ⟨rfl, HH.out, HB.out⟩

set_option maxHeartbeats 1000000 in
theorem eqInt64SS_same (A A' : Option Addr) (c c' : Nat) (T : List (List Int)) (w : World) (hz : Sizes T) (h : TB (.int .i64) w w.heap.size A T) (h' : TB (.int .i64) w w.heap.size A' T) : Calls Try.prog 34 #[.slice A T.length c, .slice A' T.length c'] w fun e w' => e = .returned (.bool true) ∧ ∃ q, w' = w.drewN q := by
  have H := Lib.hid h
  have H' := Lib.hid h'
  have HZ := Lib.hid hz.2
  have hn := hz.1
  clear h h' hz
  obtain ⟨n, hn'⟩ : ∃ n, T.length = n := ⟨_, rfl⟩
  have HN := Lib.hid hn'
  rw [hn'] at hn ⊢
  clear hn'
  go_enter Try.func34, Try.ntmps34
  go_wp2
  go_loopw [5] (fun i wr => ∃ k : Nat, k ≤ n ∧ i = .int .i64 k ∧ ∃ q, wr = w.drewN q) (fun i _ => n - (intOf i).toNat)
  case atStart => exact ⟨0, by omega, rfl, 0, rfl⟩
  case round =>
    obtain ⟨k, hk, rfl, q, rfl⟩ := hrel
    by_cases hlt : k < n
    · obtain ⟨bs, hx⟩ := at_of_lt (xs := T) (k := k) (by rw [HN.out]; exact hlt)
      obtain ⟨b, off, A1, c1, rfl, hB, hc, hs⟩ := H.out.row hx
      obtain ⟨b', off', A2, c2, rfl, hB', hc', hs'⟩ := H'.out.row hx
      have hbl := HZ.out k bs hx
      have HS := Lib.hid hs
      have HS' := Lib.hid hs'
      clear hx hs hs'
      have i0 : (0 : Int) ≤ (k : Int) := by omega
      have i1 : (k : Int) < (n : Int) := by omega
      go_wp2
      go_quiet ((go_at_call 48; exact quiet_add (eqInt64S_same _ _ _ _ bs _ hbl HS.out HS'.out)))
      go_wp2
      go_roundw
      case rel => exact ⟨k + 1, by omega, by go_num, _, rfl⟩
      case measure => simp [intOf]; omega
    · obtain rfl : k = n := by omega
      go_wp2
      go_ret
      exact ⟨rfl, q, rfl⟩

set_option maxHeartbeats 2000000 in
theorem markInt64S_big (A : Option Addr) (c : Nat) (xs : List Int) (k : Int) (lo hi : Nat) (w : World) (hn : xs.length ≤ 1048576) (hk : 0 ≤ k ∧ k ≤ 9007199254740992) (h : RS (.int .i64) 2 w lo hi A c xs) :
    Calls Try.prog 63 #[.slice A xs.length c, .int .i64 k] w fun e w' => e = .returned (.int .i64 (k + xs.length)) ∧ RS (.int .i64) 2 w' lo hi A c (seqI k xs.length) ∧ Only lo hi w w' := by
  have H := Lib.hid h
  clear h
  obtain ⟨n, hn'⟩ : ∃ n, xs.length = n := ⟨_, rfl⟩
  have HN := Lib.hid hn'
  rw [hn'] at hn ⊢
  clear hn'
  obtain ⟨hk0, hk1⟩ := hk
  go_enter Try.func63, Try.ntmps63
  go_wp2
  go_loopw [1, 5] (fun kv i wr => ∃ j : Nat, j ≤ n ∧ i = .int .i64 j ∧ kv = .int .i64 (k + (j : Int)) ∧ RS (.int .i64) 2 wr lo hi A c (seqI k j ++ xs.drop j) ∧ Only lo hi w wr) (fun _ i _ => n - (intOf i).toNat)
  case atStart => exact ⟨0, by omega, rfl, by simp, by simpa [seqI] using H.out, Only.refl _ _ _⟩
  case round =>
    obtain ⟨j, hj, rfl, rfl, hrs, hon⟩ := hrel
    by_cases hlt : j < n
    · obtain ⟨x, hx⟩ := at_of_lt (xs := xs) (k := j) (by rw [HN.out]; exact hlt)
      obtain ⟨g, rfl, hg1, hg2, hc, hf, hrs2, hon2⟩ := hrs.put (seq_here (k := k) hx) (k + (j : Int))
      rw [seq_put (by rw [HN.out]; exact hlt)] at hrs2
      have HR := Lib.hid hrs2
      have HO := Lib.hid (hon.trans hon2)
      clear hrs hon hrs2 hon2 hx
      go_wp2
      go_roundw
      case rel => exact ⟨j + 1, by omega, by go_num, by go_num, HR.out, HO.out⟩
      case measure => simp [intOf]; omega
    · obtain rfl : j = n := by omega
      have HR := Lib.hid hrs
      have HO := Lib.hid hon
      clear hrs hon
      go_wp2
      go_ret
      exact ⟨rfl, by have h := HR.out; rw [List.drop_of_length_le (by rw [HN.out]; omega), List.append_nil] at h; exact h, HO.out⟩

/-- how many values the first k rows hold -/
def sumI (T : List (List Int)) : Nat → Nat
  | 0 => 0
  | k + 1 => sumI T k + (T.getD k []).length
theorem sumI_step {T : List (List Int)} {k : Nat} {bs : List Int} (h : T[k]? = some bs) : sumI T (k + 1) = sumI T k + bs.length := by
  show sumI T k + (T.getD k []).length = _
  rw [List.getD_eq_getElem?_getD, h]; rfl
/-- the first i rows marked -/
def mkI (k : Int) (T : List (List Int)) (i : Nat) : List (List Int) := (List.range T.length).map fun j => if j < i then seqI (k + sumI T j) (T.getD j []).length else T.getD j []
theorem mkI_len (k : Int) (T : List (List Int)) (i : Nat) : (mkI k T i).length = T.length := by simp [mkI]
theorem mkI_at {k : Int} {T : List (List Int)} {i j : Nat} {bs : List Int} (h : T[j]? = some bs) : (mkI k T i)[j]? = some (if j < i then seqI (k + sumI T j) bs.length else bs) := by
  have hl := lt_of_at h
  unfold mkI
  rw [List.getElem?_map, List.getElem?_range hl]
  simp [List.getD_eq_getElem?_getD, h]
theorem mkI_zero (k : Int) (T : List (List Int)) : mkI k T 0 = T := by
  apply List.ext_getElem?
  intro j
  by_cases hj : j < T.length
  · obtain ⟨bs, hb⟩ := at_of_lt hj
    rw [mkI_at hb, if_neg (by omega), hb]
  · rw [List.getElem?_eq_none (by rw [mkI_len]; omega), List.getElem?_eq_none (by omega)]
theorem mkI_set {k : Int} {T : List (List Int)} {i : Nat} {bs : List Int} (h : T[i]? = some bs) : (mkI k T i).set i (seqI (k + sumI T i) bs.length) = mkI k T (i + 1) := by
  apply List.ext_getElem?
  intro j
  by_cases hj : j < T.length
  · obtain ⟨bj, hb⟩ := at_of_lt hj
    rw [List.getElem?_set, mkI_len]
    by_cases e : i = j
    · subst e
      rw [h] at hb; cases hb
      rw [if_pos rfl, if_pos hj, mkI_at h, if_pos (by omega)]
    · rw [if_neg e, mkI_at hb, mkI_at hb]
      by_cases hlt : j < i
      · rw [if_pos hlt, if_pos (by omega)]
      · rw [if_neg hlt, if_neg (by omega)]
  · rw [List.getElem?_eq_none (by simp [mkI_len]; omega), List.getElem?_eq_none (by rw [mkI_len]; omega)]

set_option maxHeartbeats 2000000 in
theorem markInt64SS_any (A : Option Addr) (c : Nat) (T : List (List Int)) (k : Int) (lo hi : Nat) (w : World) (hz : Sizes T) (hk : 0 ≤ k ∧ k ≤ 1048576000) (h : TR (.int .i64) 2 22 w lo hi A c T) :
    Calls Try.prog 35 #[.slice A T.length c, .int .i64 k] w fun e w' => e = .returned (.int .i64 (k + sumI T T.length)) ∧ TR (.int .i64) 2 22 w' lo hi A c (mkI k T T.length) ∧ Only lo hi w w' := by
  have H := Lib.hid h
  clear h
  have hsum : ∀ j, j ≤ T.length → sumI T j ≤ 1048576 * j := by
    intro j
    induction j with
    | zero => intro _; exact Nat.le_refl _
    | succ j ih =>
      intro hj
      obtain ⟨bs, hb⟩ := at_of_lt (xs := T) (k := j) (by omega)
      rw [sumI_step hb]
      have := ih (by omega)
      have := hz.2 j bs hb
      omega
  have HS := Lib.hid hsum
  have HZ := Lib.hid hz
  obtain ⟨n, hn'⟩ : ∃ n, T.length = n := ⟨_, rfl⟩
  have HN := Lib.hid hn'
  have hn : n ≤ 1048576 := hn' ▸ hz.1
  rw [hn']
  clear hn' hz hsum
  obtain ⟨hk0, hk1⟩ := hk
  go_enter Try.func35, Try.ntmps35
  go_wp2
  go_loopw [1, 5] (fun kv i wr => ∃ j : Nat, j ≤ n ∧ i = .int .i64 j ∧ kv = .int .i64 (k + (sumI T j : Int)) ∧ TR (.int .i64) 2 22 wr lo hi A c (mkI k T j) ∧ Only lo hi w wr) (fun _ i _ => n - (intOf i).toNat)
  case atStart => exact ⟨0, by omega, rfl, by simp [sumI], by rw [mkI_zero]; exact H.out, Only.refl _ _ _⟩
  case round =>
    obtain ⟨j, hj, rfl, rfl, hrs, hon⟩ := hrel
    by_cases hlt : j < n
    · obtain ⟨bs, hbs⟩ := at_of_lt (xs := T) (k := j) (by rw [HN.out]; exact hlt)
      have hat : (mkI k T j)[j]? = some bs := by rw [mkI_at hbs, if_neg (by omega)]
      have hsj := HS.out j (by rw [HN.out]; exact hj)
      have hbl := HZ.out.2 j bs hbs
      obtain ⟨g, gk, ck, rfl, hc, hr, hl1, hl2, hset⟩ := hrs.row hat
      have HR := Lib.hid hr
      have HT := Lib.hid hset
      have HO := Lib.hid hon
      have HST := Lib.hid (sumI_step hbs)
      have HSET := Lib.hid (mkI_set (k := k) hbs)
      clear hrs hr hset hon hat hbs
      obtain ⟨S, hS⟩ : ∃ S, sumI T j = S := ⟨_, rfl⟩
      have HSS := Lib.hid hS
      rw [hS] at hsj ⊢
      clear hS
      go_wp2_with (go_at_call 63; (with_reducible refine (markInt64S_big _ _ bs (k + (S : Int)) gk (gk + 1) _ hbl (by constructor <;> omega) HR.out).mono ?_); rintro e w1 ⟨rfl, hr, ho⟩; have HR2 := Lib.hid hr; have HO2 := Lib.hid ho; clear hr ho)
      go_roundw
      case rel => exact ⟨j + 1, by omega, by go_num, by rw [HST.out, HSS.out]; go_num, by have h := HT.out w1 _ HO2.out HR2.out (seqI_len _ _); rw [← HSS.out, HSET.out] at h; exact h, HO.out.trans (HO2.out.wide hl1 (by omega))⟩
      case measure => simp [intOf]; omega
    · obtain rfl : j = n := by omega
      have HR := Lib.hid hrs
      have HO := Lib.hid hon
      clear hrs hon
      go_wp2
      go_ret
      exact ⟨rfl, HR.out, HO.out⟩

end Go.Proofs.Ytoojnfdphjdocaa
