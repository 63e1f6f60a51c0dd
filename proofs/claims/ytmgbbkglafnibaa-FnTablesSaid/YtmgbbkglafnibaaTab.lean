/- The laws' functions on tables of bools: sizes, copies, comparisons. -/
import Derived.Test.YtmgbbkglafnibaaTabW
namespace Go.Proofs.Ytmgbbkglafnibaa
open Go.RowKit
theorem quiet_add {P : Program} {f : FuncId} {args : Array Value} {w : World} {a n : Nat} {v : Value}
    (h : Calls P f args (w.drewN (a + n)) fun e w' => e = .returned v ∧ ∃ m, w' = (w.drewN (a + n)).drewN m) :
    Calls P f args (w.drewN (a + n)) fun e w'' => e = .returned v ∧ ∃ m, w'' = w.drewN (a + m) :=
  h.mono fun _ _ ⟨he, m, hm⟩ => ⟨he, n + m, by rw [hm, World.drewN_drewN, Nat.add_assoc]⟩
set_option maxHeartbeats 1000000 in
theorem szBoolS_any (A : Option Addr) (n c : Nat) (left : Int) (w : World) (hn : n ≤ 9223372036854775807) (h0 : 0 ≤ left) (h1 : left ≤ 1048576) : Calls Try.prog 40 #[.slice A n c, .int .i64 left] w fun e w' => e = .returned (.int .i64 (if left < n then -1 else left - n)) ∧ w = w' := by
  by_cases hl : left < n
  · rw [if_pos hl]; go_enter Try.func40, Try.ntmps40; go_wp2; go_ret; exact ⟨rfl, rfl⟩
  · rw [if_neg hl]; go_enter Try.func40, Try.ntmps40; go_wp2; go_ret; exact ⟨rfl, rfl⟩
set_option maxHeartbeats 1000000 in
theorem szBoolSS_any (A : Option Addr) (c : Nat) (left : Int) (T : List (List Bool)) (w : World) (ht : TB .bool w w.heap.size A T) (hn : T.length ≤ 9223372036854775807) (hbs : ∀ (j : Nat) bs, T[j]? = some bs → bs.length ≤ 9223372036854775807) (h0 : 0 ≤ left) (h1 : left ≤ 1048576) : Calls Try.prog 11 #[.slice A T.length c, .int .i64 left] w (SzOk T w) := by
  by_cases hl : left < T.length
  · go_enter Try.func11, Try.ntmps11; go_wp2; go_ret; exact ⟨-1, rfl, rfl, by omega, fun h => by omega⟩
  have hd := decide_eq_false hl
  have hlen : T.length ≤ 1048576 := by omega
  have HT := Lib.hid ht
  have HB := Lib.hid hbs
  clear ht hbs
  obtain ⟨n, hn'⟩ : ∃ n, T.length = n := ⟨_, rfl⟩
  have HN := Lib.hid hn'
  rw [hn'] at hn hl hd hlen ⊢
  clear hn'
  go_enter Try.func11, Try.ntmps11
  go_wp2
  go_loop [1, 5] (fun l i => ∃ (k : Nat) (x : Int), k ≤ n ∧ i = .int .i64 k ∧ l = .int .i64 x ∧ 0 ≤ x ∧ x ≤ 1048576 ∧ Hid (∀ (j : Nat) bs, j < k → T[j]? = some bs → bs.length ≤ 1048576)) (fun _ i => n - (intOf i).toNat)
  case atStart => exact ⟨0, left - n, by omega, rfl, rfl, by omega, by omega, fun j bs hj => by omega⟩
  case round =>
    obtain ⟨k, x, hk, rfl, rfl, hx0, hx1, HS⟩ := hrel
    by_cases hlt : k < n
    · obtain ⟨bs, hbs⟩ := at_of_lt (xs := T) (k := k) (by rw [HN.out]; exact hlt)
      obtain ⟨b, off, A', c', rfl, hB, hc, hsv⟩ := HT.out.row hbs
      have hbl := HB.out k bs hbs
      have HK := Lib.hid hbs
      clear hbs hsv
      by_cases hm : x < bs.length
      · go_wp2_with (go_at_call 40; (with_reducible refine (szBoolS_any _ _ _ _ _ hbl hx0 hx1).mono ?_); rintro e w1 ⟨rfl, rfl⟩; rw [if_pos hm])
        go_ret
        exact ⟨-1, rfl, rfl, by omega, fun h => by omega⟩
      · go_wp2_with (go_at_call 40; (with_reducible refine (szBoolS_any _ _ _ _ _ hbl hx0 hx1).mono ?_); rintro e w1 ⟨rfl, rfl⟩; rw [if_neg hm])
        go_round
        case rel => exact ⟨k + 1, x - bs.length, by omega, by go_num, rfl, by omega, by omega, fun j bs' hj hb => by by_cases e : j = k; (subst e; have := HK.out.symm.trans hb; simp at this; subst this; omega); exact HS.out j bs' (by omega) hb⟩
        case measure => simp [intOf]; omega
    · obtain rfl : k = n := by omega
      go_wp2
      go_ret
      exact ⟨x, rfl, rfl, hx1, fun _ => ⟨by rw [HN.out]; exact hlen, fun j bs hj => HS.out j bs (by rw [← HN.out]; exact lt_of_at hj) hj⟩⟩
theorem infoBool : (Try.prog.info? 4).map (fun i => (i.zero, i.size, i.bytes)) = some (some (.bool false), 1, 1) := by kernel_rfl
theorem madeBool (n : Nat) (hn : n ≤ 1048576) (w : World) : (Instr.makeSlice 49 (.int .i64 (n : Int)) (.int .i64 (n : Int))).run Try.prog w = .ok (.slice (some ⟨w.heap.size, 0, none⟩) n n) (w.alloc (.cells (Array.replicate n (.bool false)) 4)) := by
  obtain ⟨i0, hi, hz0, hz1, hz2⟩ := info_parts infoBool
  exact made_one 49 4 i0 _ Try.underlying49 hi hz0 hz1 rfl n (by rw [hz2]; omega) (by omega) w
set_option maxHeartbeats 1000000 in
theorem toBoolS_any (A : Option Addr) (c : Nat) (bs : List Bool) (w : World) (hn : bs.length ≤ 1048576) (h : SV .bool w w.heap.size A bs) : Calls Try.prog 42 #[.slice A bs.length c] w fun e w' => e = .returned (.slice (some ⟨w.heap.size, 0, none⟩) bs.length bs.length) ∧ BV .bool w' w.heap.size 4 bs ∧ Below w.heap.size w w' := by
  have hmk := madeBool bs.length hn
  have H := Lib.hid h
  clear h
  obtain ⟨n, hn'⟩ : ∃ n, bs.length = n := ⟨_, rfl⟩
  have HN := Lib.hid hn'
  rw [hn'] at hn hmk ⊢
  clear hn'
  go_enter Try.func42, Try.ntmps42
  go_wp2
  go_loopw [4] (fun i wr => ∃ k : Nat, k ≤ n ∧ i = .int .i64 k ∧ BV .bool wr w.heap.size 4 (rowV false bs k) ∧ Below w.heap.size w wr) (fun i _ => n - (intOf i).toNat)
  case atStart => exact ⟨0, by omega, rfl, by rw [rowV_zero, HN.out]; exact BV.made w _ _ _, gr_alloc (gr_refl w)⟩
  case round =>
    obtain ⟨k, hk, rfl, hbv, hbe⟩ := hrel
    by_cases hlt : k < n
    · obtain ⟨x, hx⟩ := at_of_lt (xs := bs) (k := k) (by rw [HN.out]; exact hlt)
      obtain ⟨b, off, rfl, hB, hc⟩ := (H.out.below hbe).at_ hx
      have hr : (rowV false bs k)[k]? = some false := by rw [rowV_at (by rw [HN.out]; omega), if_neg (by omega), if_pos (by rw [HN.out]; omega)]
      have hc2 := hbv.cell hr
      have hf2 := hbv.free k
      have HP := Lib.hid (rowV_set (z := false) hx ▸ hbv.put k x)
      have HB := Lib.hid hbe
      clear hbv hbe hr hx
      go_wp2
      go_roundw
      case rel => exact ⟨k + 1, by omega, by go_num, HP.out, HB.out.setCell (Nat.le_refl _) _⟩
      case measure => simp [intOf]; omega
    · obtain rfl : k = n := by omega
      rw [rowV_all (by rw [HN.out]; omega)] at hbv
      go_wp2
      go_ret
      exact ⟨rfl, hbv, hbe⟩
theorem infoBools : (Try.prog.info? 49).map (fun i => (i.zero, i.size, i.bytes)) = some (some (.slice none 0 0), 1, 24) := by kernel_rfl
theorem madeBools (n : Nat) (hn : n ≤ 1048576) (w : World) : (Instr.makeSlice 22 (.int .i64 (n : Int)) (.int .i64 (n : Int))).run Try.prog w = .ok (.slice (some ⟨w.heap.size, 0, none⟩) n n) (w.alloc (.cells (Array.replicate n (.slice none 0 0)) 49)) := by
  obtain ⟨i0, hi, hz0, hz1, hz2⟩ := info_parts infoBools
  exact made_one 22 49 i0 _ Try.underlying22 hi hz0 hz1 rfl n (by rw [hz2]; omega) (by omega) w
/-- a table half laid -/
def HalfT {α : Type} (f : α → Value) (t ts : Nat) (w : World) (g : Nat) (T : List (List α)) (k : Nat) : Prop :=
  ∃ gs, Fr f t w g gs (T.take k) ∧ BV sl w g ts (rowsOf gs (T.take k) ++ List.replicate (T.length - k) (none, 0, 0))
theorem HalfT.all {α : Type} {f : α → Value} {t ts : Nat} {w : World} {g : Nat} {T : List (List α)} (h : HalfT f t ts w g T T.length) : FT f t ts w g T := by
  obtain ⟨gs, h1, h2⟩ := h
  rw [List.take_length] at h1 h2
  rw [Nat.sub_self, List.replicate_zero, List.append_nil] at h2
  exact ⟨gs, h1, h2⟩
theorem HalfT.next {α : Type} {f : α → Value} {t ts : Nat} {w w' : World} {g g' k : Nat} {T : List (List α)} {bs : List α} (h : HalfT f t ts w g T k) (hk : T[k]? = some bs) (hb : Below w.heap.size w w') (hn : BV f w' g' t bs) (hg : w.heap.size ≤ g') :
    w'.cell? ⟨g, k, none⟩ = some (.slice none 0 0) ∧ w'.frozen? ⟨g, k, none⟩ = false ∧ HalfT f t ts (w'.setCell ⟨g, k, none⟩ (.slice (some ⟨g', 0, none⟩) bs.length bs.length)) g T (k + 1) := by
  obtain ⟨gs, h1, h2⟩ := h
  have hl := lt_of_at hk
  have htk : (T.take k).length = k := by rw [List.length_take]; omega
  have hgl : (rowsOf gs (T.take k)).length = k := by rw [rowsOf_len h1.1, htk]
  have h2' := h2.late hb
  have hat : (rowsOf gs (T.take k) ++ List.replicate (T.length - k) ((none : Option Addr), 0, 0))[k]? = some (none, 0, 0) := by
    rw [List.getElem?_append, if_neg (by omega), hgl, Nat.sub_self, List.getElem?_replicate, if_pos (by omega)]
  have htake : T.take (k + 1) = T.take k ++ [bs] := by
    rw [List.take_add_one, hk]; rfl
  have h3 := h1.snoc hb hn hg h2.lt
  rw [← htake] at h3
  refine ⟨h2'.cell hat, h2'.free k, gs ++ [g'], h3.far k _, ?_⟩
  have h4 := h2'.put k ((some ⟨g', 0, none⟩ : Option Addr), bs.length, bs.length)
  rw [htake, rowsOf_snoc h1.1]
  have e : (rowsOf gs (T.take k) ++ List.replicate (T.length - k) ((none : Option Addr), 0, 0)).set k ((some ⟨g', 0, none⟩ : Option Addr), bs.length, bs.length) = rowsOf gs (T.take k) ++ [((some ⟨g', 0, none⟩ : Option Addr), bs.length, bs.length)] ++ List.replicate (T.length - (k + 1)) ((none : Option Addr), 0, 0) := by
    rw [List.set_append, if_neg (by omega), hgl, Nat.sub_self, show T.length - k = (T.length - (k + 1)) + 1 by omega, List.replicate_succ, List.set_cons_zero, List.append_assoc]
    rfl
  rw [e] at h4
  exact h4
set_option maxHeartbeats 1000000 in
theorem toBoolSS_any (A : Option Addr) (c : Nat) (T : List (List Bool)) (w : World) (hz : Sizes T) (h : TB .bool w w.heap.size A T) : Calls Try.prog 13 #[.slice A T.length c] w fun e w' => e = .returned (.slice (some ⟨w.heap.size, 0, none⟩) T.length T.length) ∧ FT .bool 4 49 w' w.heap.size T ∧ Below w.heap.size w w' := by
  have hn := hz.1
  have hmk := madeBools T.length hn
  have H := Lib.hid h
  have HZ := Lib.hid hz.2
  clear h hz
  obtain ⟨n, hn'⟩ : ∃ n, T.length = n := ⟨_, rfl⟩
  have HN := Lib.hid hn'
  rw [hn'] at hn hmk ⊢
  clear hn'
  go_enter Try.func13, Try.ntmps13
  go_wp2
  go_loopw [4] (fun i wr => ∃ k : Nat, k ≤ n ∧ i = .int .i64 k ∧ HalfT .bool 4 49 wr w.heap.size T k ∧ Below w.heap.size w wr) (fun i _ => n - (intOf i).toNat)
  case atStart => exact ⟨0, by omega, rfl, ⟨[], Fr.nil, by rw [HN.out]; exact BV.made (f := sl) w _ n (none, 0, 0)⟩, gr_alloc (gr_refl w)⟩
  case round =>
    obtain ⟨k, hk, rfl, hht, hbe⟩ := hrel
    by_cases hlt : k < n
    · obtain ⟨bs, hx⟩ := at_of_lt (xs := T) (k := k) (by rw [HN.out]; exact hlt)
      obtain ⟨b, off, A', c', rfl, hB, hc, hsv⟩ := (H.out.below hbe).row hx
      have hbl := HZ.out k bs hx
      have HX := Lib.hid hx
      have HH := Lib.hid hht
      have HB := Lib.hid hbe
      have hsz := hbe.size
      have HS := Lib.hid (hsv.more hsz)
      clear hht hbe hsv hx
      go_wp2_with fail
      go_at_call 42
      (with_reducible refine (toBoolS_any _ _ _ _ hbl HS.out).mono ?_)
      rintro e w1 ⟨rfl, hbv, hb⟩
      obtain ⟨d0, d1, hnx⟩ := HH.out.next HX.out hb hbv (Nat.le_refl _)
      have HNX := Lib.hid hnx
      have HB2 := Lib.hid (gr_then hb HB.out)
      clear hnx hbv hb
      go_wp2
      go_roundw
      case rel => exact ⟨k + 1, by omega, by go_num, HNX.out, HB2.out.setCell (Nat.le_refl _) _⟩
      case measure => simp [intOf]; omega
    · obtain rfl : k = n := by omega
      rw [← HN.out] at hht
      have HH := Lib.hid hht.all
      have HB := Lib.hid hbe
      clear hht hbe
      go_wp2
      go_ret
      exact ⟨rfl, HH.out, HB.out⟩
set_option maxHeartbeats 1000000 in
theorem eqBoolS_same (A A' : Option Addr) (c c' : Nat) (bs : List Bool) (w : World) (hn : bs.length ≤ 1048576) (h : SV .bool w w.heap.size A bs) (h' : SV .bool w w.heap.size A' bs) : Calls Try.prog 45 #[.slice A bs.length c, .slice A' bs.length c'] w fun e w' => e = .returned (.bool true) ∧ ∃ q, w' = w.drewN q := by
  have H := Lib.hid h
  have H' := Lib.hid h'
  clear h h'
  obtain ⟨n, hn'⟩ : ∃ n, bs.length = n := ⟨_, rfl⟩
  have HN := Lib.hid hn'
  rw [hn'] at hn ⊢
  clear hn'
  go_enter Try.func45, Try.ntmps45
  go_wp2
  go_loopw [5] (fun i wr => ∃ k : Nat, k ≤ n ∧ i = .int .i64 k ∧ ∃ q, wr = w.drewN q) (fun i _ => n - (intOf i).toNat)
  case atStart => exact ⟨0, by omega, rfl, 0, rfl⟩
  case round =>
    obtain ⟨k, hk, rfl, q, rfl⟩ := hrel
    by_cases hlt : k < n
    · obtain ⟨x, hx⟩ := at_of_lt (xs := bs) (k := k) (by rw [HN.out]; exact hlt)
      obtain ⟨b, off, rfl, hB, hc⟩ := H.out.at_ hx
      obtain ⟨b', off', rfl, hB', hc'⟩ := H'.out.at_ hx
      clear hx
      have i0 : (0 : Int) ≤ (k : Int) := by omega
      have i1 : (k : Int) < (n : Int) := by omega
      go_wp2
      go_quiet (fail)
      go_wp2
      go_roundw
      case rel => exact ⟨k + 1, by omega, by go_num, _, rfl⟩
      case measure => simp [intOf]; omega
    · obtain rfl : k = n := by omega
      go_wp2
      go_ret
      exact ⟨rfl, q, rfl⟩
set_option maxHeartbeats 1000000 in
theorem eqBoolSS_same (A A' : Option Addr) (c c' : Nat) (T : List (List Bool)) (w : World) (hz : Sizes T) (h : TB .bool w w.heap.size A T) (h' : TB .bool w w.heap.size A' T) : Calls Try.prog 15 #[.slice A T.length c, .slice A' T.length c'] w fun e w' => e = .returned (.bool true) ∧ ∃ q, w' = w.drewN q := by
  have H := Lib.hid h
  have H' := Lib.hid h'
  have HZ := Lib.hid hz.2
  have hn := hz.1
  clear h h' hz
  obtain ⟨n, hn'⟩ : ∃ n, T.length = n := ⟨_, rfl⟩
  have HN := Lib.hid hn'
  rw [hn'] at hn ⊢
  clear hn'
  go_enter Try.func15, Try.ntmps15
  go_wp2
  go_loopw [5] (fun i wr => ∃ k : Nat, k ≤ n ∧ i = .int .i64 k ∧ ∃ q, wr = w.drewN q) (fun i _ => n - (intOf i).toNat)
  case atStart => exact ⟨0, by omega, rfl, 0, rfl⟩
  case round =>
    obtain ⟨k, hk, rfl, q, rfl⟩ := hrel
    by_cases hlt : k < n
    · obtain ⟨bs, hx⟩ := at_of_lt (xs := T) (k := k) (by rw [HN.out]; exact hlt)
      obtain ⟨b, off, A1, c1, rfl, hB, hc, hs⟩ := H.out.row hx
      obtain ⟨b', off', A2, c2, rfl, hB', hc', hs'⟩ := H'.out.row hx
      have hbl := HZ.out k bs hx
      have HS := Lib.hid hs
      have HS' := Lib.hid hs'
      clear hx hs hs'
      have i0 : (0 : Int) ≤ (k : Int) := by omega
      have i1 : (k : Int) < (n : Int) := by omega
      go_wp2
      go_quiet ((go_at_call 45; exact quiet_add (eqBoolS_same _ _ _ _ bs _ hbl HS.out HS'.out)))
      go_wp2
      go_roundw
      case rel => exact ⟨k + 1, by omega, by go_num, _, rfl⟩
      case measure => simp [intOf]; omega
    · obtain rfl : k = n := by omega
      go_wp2
      go_ret
      exact ⟨rfl, q, rfl⟩
end Go.Proofs.Ytmgbbkglafnibaa
