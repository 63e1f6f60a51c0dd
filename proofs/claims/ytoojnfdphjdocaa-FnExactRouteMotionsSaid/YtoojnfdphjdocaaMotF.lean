/- Motions: DirectionAfter, both sides; marks; results that are motions of new memory. -/
import Derived.Test.YtoojnfdphjdocaaMotE
import Derived.Test.YtoojnfdphjdocaaOwn
namespace Go.Proofs.Ytoojnfdphjdocaa
open Go.RowKit
/-- the direction after m steps, and the code -/
def daV (s : Int) (xs : List Int) (m : Int) : Int := if okM s xs = false then 0 else if m < 0 then 0 else dirAt s xs (min m.toNat xs.length)
def daC (s : Int) (xs : List Int) (m : Int) : Int := if okM s xs = false then 1 else if m < 0 then 2 else 0
/-- a motion of new memory and a code were handed back -/
def RetM (s : Int) (xs : List Int) (k : Int) (e : TypeId) (w : World) (E : Ending) (w' : World) : Prop :=
  ∃ A c, E = .returned (.tuple #[.agg #[.int .i64 s, .slice A xs.length c], .int .i64 k]) ∧ RS (.int .i64) e w' w.heap.size w'.heap.size A c xs ∧ Below w.heap.size w w'
theorem ok_is {s : Int} {xs : List Int} {r : Bool} (h : okM s xs = r) {P : Program} {f : FuncId} {v : Array Value} {w : World} {K : World → World → Prop} (c : Calls P f v w fun e w' => e = .returned (.bool (okM s xs)) ∧ K w w') : Calls P f v w fun e w' => e = .returned (.bool r) ∧ K w w' := by subst h; exact c
theorem trk_at {s : Int} {xs : List Int} {k : Nat} (h : k ≤ xs.length) : (trk s xs xs.length)[k]? = some (dirAt s xs k) := by unfold trk; rw [List.getElem?_map, List.getElem?_range (by omega)]; rfl
set_option maxHeartbeats 2000000 in
theorem at_any (s : Int) (A : Option Addr) (c : Nat) (k : Int) (xs : List Int) (w : World) (hn : xs.length ≤ 200) (hk : 0 ≤ k ∧ k ≤ 1048576) (h : SV (.int .i64) w w.heap.size A (trk s xs xs.length)) : Calls Try.prog 55 #[.slice A (xs.length + 1) c, .int .i64 k] w fun e w' => e = .returned (.int .i64 (dirAt s xs (min k.toNat xs.length))) ∧ w = w' := by
  obtain ⟨q, rfl⟩ : ∃ q : Nat, k = q := ⟨k.toNat, by omega⟩
  have HE := Lib.hid (trk_at (s := s) (xs := xs) (k := min (q : Int).toNat xs.length) (by omega))
  obtain ⟨b, off, rfl, hB, hc⟩ := h.at_ HE.out
  clear h HE
  obtain ⟨n, hn'⟩ : ∃ n, xs.length = n := ⟨_, rfl⟩
  rw [hn'] at hn hc ⊢
  clear hn'
  by_cases hq : q ≤ n
  · obtain ⟨m, hm⟩ : ∃ m, min (q : Int).toNat n = m := ⟨_, rfl⟩
    have hqm : q = m := by omega
    rw [hm] at hc ⊢
    clear hm
    subst hqm
    by_cases hqn : q = n
    · subst hqn; go_enter Try.func55, Try.ntmps55; go_wp2; go_ret; exact ⟨rfl, rfl⟩
    · have hlt : q < n := by omega
      go_enter Try.func55, Try.ntmps55; go_wp2; go_ret; exact ⟨rfl, rfl⟩
  · have hlt : n < q := by omega
    have hm : min (q : Int).toNat n = n := by omega
    rw [hm] at hc ⊢
    clear hm
    go_enter Try.func55, Try.ntmps55; go_wp2; go_ret; exact ⟨rfl, rfl⟩
set_option maxHeartbeats 4000000 in
theorem specDa_any (s : Int) (A : Option Addr) (c : Nat) (xs : List Int) (w : World) (hn : xs.length ≤ 1048576) (h : SV (.int .i64) w w.heap.size A xs) (m : Int) (hm : -9223372036854775808 ≤ m ∧ m ≤ 9223372036854775807) : Calls Try.prog 20 #[.agg #[.int .i64 s, .slice A xs.length c], .int .i64 m] w fun e w' => e = .returned (.tuple #[.int .i64 (daV s xs m), .int .i64 (daC s xs m)]) ∧ Below w.heap.size w w' := by
  have hb0 : Below w.heap.size w (w.alloc (.cells #[.int .i64 s, .slice A xs.length c] 27)) := gr_alloc (gr_refl w)
  have H := Lib.hid (h.later hb0)
  have c0 : (w.alloc (.cells #[.int .i64 s, .slice A xs.length c] 27)).cell? ⟨w.heap.size, 0, none⟩ = some (.int .i64 s) := by simp [go_sem]
  have c1 : (w.alloc (.cells #[.int .i64 s, .slice A xs.length c] 27)).cell? ⟨w.heap.size, 1, none⟩ = some (.slice A xs.length c) := by simp [go_sem]
  have HB0 := Lib.hid hb0
  clear h hb0
  by_cases hok : okM s xs = true
  case neg => have hok := (Bool.not_eq_true _).mp hok; have HK := Lib.hid hok; rw [show daV s xs m = 0 by unfold daV; rw [if_pos hok], show daC s xs m = 1 by unfold daC; rw [if_pos hok]]; clear hok; go_enter Try.func20, Try.ntmps20; go_wp2_with (go_at_call 49; (with_reducible refine (ok_is (K := fun w w' => w = w') HK.out (l16Ok_any _ _ _ _ xs _ hn c0 c1 H.out)).mono ?_); rintro e w1 ⟨rfl, rfl⟩); go_ret2; exact ⟨rfl, HB0.out⟩
  have HK := Lib.hid hok
  have hf : ¬ okM s xs = false := by rw [hok]; decide
  by_cases h0 : m < 0
  case pos => rw [show daV s xs m = 0 by unfold daV; rw [if_neg hf, if_pos h0], show daC s xs m = 2 by unfold daC; rw [if_neg hf, if_pos h0]]; clear hok hf; go_enter Try.func20, Try.ntmps20; go_wp2_with (go_at_call 49; (with_reducible refine (ok_is (K := fun w w' => w = w') HK.out (l16Ok_any _ _ _ _ xs _ hn c0 c1 H.out)).mono ?_); rintro e w1 ⟨rfl, rfl⟩); go_ret2; exact ⟨rfl, HB0.out⟩
  rw [show daV s xs m = dirAt s xs (min m.toNat xs.length) by unfold daV; rw [if_neg hf, if_neg h0], show daC s xs m = 0 by unfold daC; rw [if_neg hf, if_neg h0]]
  have h1 : 0 ≤ m := by omega
  clear hok hf
  go_enter Try.func20, Try.ntmps20; go_wp2_with (first | (go_at_call 49; (with_reducible refine (ok_is (K := fun w w' => w = w') HK.out (l16Ok_any _ _ _ _ xs _ hn c0 c1 H.out)).mono ?_); rintro e w1 ⟨rfl, rfl⟩) | (go_at_call 54; (with_reducible refine (l16At_any _ s m _ _ xs _ HK.out ⟨h1, hm.2⟩ c0 c1 H.out).mono ?_); rintro e w1 ⟨rfl, rfl⟩)); go_ret2; exact ⟨rfl, HB0.out⟩
set_option maxHeartbeats 4000000 in
theorem implDa_any (s : Int) (A : Option Addr) (c : Nat) (xs : List Int) (w : World) (hn : xs.length ≤ 1048576) (h : SV (.int .i64) w w.heap.size A xs) (m : Int) (hm : -9223372036854775808 ≤ m ∧ m ≤ 9223372036854775807) : Calls Try.prog 21 #[.agg #[.int .i64 s, .slice A xs.length c], .int .i64 m] w fun e w' => e = .returned (.tuple #[.int .i64 (daV s xs m), .int .i64 (daC s xs m)]) ∧ Below w.heap.size w w' := by
  have hb0 : Below w.heap.size w (w.alloc (.cells #[.int .i64 s, .slice A xs.length c] 27)) := gr_alloc (gr_refl w)
  have H := Lib.hid (h.later hb0)
  have c0 : (w.alloc (.cells #[.int .i64 s, .slice A xs.length c] 27)).cell? ⟨w.heap.size, 0, none⟩ = some (.int .i64 s) := by simp [go_sem]
  have c1 : (w.alloc (.cells #[.int .i64 s, .slice A xs.length c] 27)).cell? ⟨w.heap.size, 1, none⟩ = some (.slice A xs.length c) := by simp [go_sem]
  have HB0 := Lib.hid hb0
  clear h hb0
  by_cases hok : okM s xs = true
  case neg => have hok := (Bool.not_eq_true _).mp hok; have HK := Lib.hid hok; rw [show daV s xs m = 0 by unfold daV; rw [if_pos hok], show daC s xs m = 1 by unfold daC; rw [if_pos hok]]; clear hok; go_enter Try.func21, Try.ntmps21; go_wp2_with (go_at_call 19; (with_reducible refine (ok_is (K := fun w w' => Below w.heap.size w w') HK.out (implVm_any s _ _ xs _ hn H.out)).mono ?_); rintro e w1 ⟨rfl, hb1⟩; have c0 := keepc hb1 c0; have c1 := keepc hb1 c1; have HB1 := Lib.hid (gr_then hb1 HB0.out); have H1 := Lib.hid (H.out.later hb1); clear hb1); go_ret2; exact ⟨rfl, HB1.out⟩
  have HK := Lib.hid hok
  have hf : ¬ okM s xs = false := by rw [hok]; decide
  have hn2 : xs.length ≤ 200 := (okM_t hok).2.1
  by_cases h0 : m < 0
  case pos => rw [show daV s xs m = 0 by unfold daV; rw [if_neg hf, if_pos h0], show daC s xs m = 2 by unfold daC; rw [if_neg hf, if_pos h0]]; clear hok hf; go_enter Try.func21, Try.ntmps21; go_wp2_with (go_at_call 19; (with_reducible refine (ok_is (K := fun w w' => Below w.heap.size w w') HK.out (implVm_any s _ _ xs _ hn H.out)).mono ?_); rintro e w1 ⟨rfl, hb1⟩; have c0 := keepc hb1 c0; have c1 := keepc hb1 c1; have HB1 := Lib.hid (gr_then hb1 HB0.out); have H1 := Lib.hid (H.out.later hb1); clear hb1); go_ret2; exact ⟨rfl, HB1.out⟩
  rw [show daV s xs m = dirAt s xs (min m.toNat xs.length) by unfold daV; rw [if_neg hf, if_neg h0], show daC s xs m = 0 by unfold daC; rw [if_neg hf, if_neg h0]]
  have h1 : 0 ≤ m := by omega
  clear hok hf
  by_cases h2 : m ≤ 200
  · go_enter Try.func21, Try.ntmps21; go_wp2_with (first | (go_at_call 19; (with_reducible refine (ok_is (K := fun w w' => Below w.heap.size w w') HK.out (implVm_any s _ _ xs _ hn H.out)).mono ?_); rintro e w1 ⟨rfl, hb1⟩; have c0 := keepc hb1 c0; have c1 := keepc hb1 c1; have HB1 := Lib.hid (gr_then hb1 HB0.out); have H1 := Lib.hid (H.out.later hb1); clear hb1) | (go_at_call 56; (with_reducible refine (track_any s _ _ xs _ HK.out H1.out).mono ?_); rintro e w2 ⟨g, cap, rfl, hsv, hb2⟩; have HT := Lib.hid hsv; have HB2 := Lib.hid (gr_then hb2 HB1.out); clear hsv hb2) | (go_at_call 55; (with_reducible refine (at_any s _ _ _ xs _ hn2 (by constructor <;> omega) HT.out).mono ?_); rintro e w3 ⟨rfl, rfl⟩)); go_ret2; exact ⟨rfl, HB2.out⟩
  · have HE := Lib.hid (show min m.toNat xs.length = xs.length by omega)
    go_enter Try.func21, Try.ntmps21; go_wp2_with (first | (go_at_call 19; (with_reducible refine (ok_is (K := fun w w' => Below w.heap.size w w') HK.out (implVm_any s _ _ xs _ hn H.out)).mono ?_); rintro e w1 ⟨rfl, hb1⟩; have c0 := keepc hb1 c0; have c1 := keepc hb1 c1; have HB1 := Lib.hid (gr_then hb1 HB0.out); have H1 := Lib.hid (H.out.later hb1); clear hb1) | (go_at_call 56; (with_reducible refine (track_any s _ _ xs _ HK.out H1.out).mono ?_); rintro e w2 ⟨g, cap, rfl, hsv, hb2⟩; have HT := Lib.hid hsv; have HB2 := Lib.hid (gr_then hb2 HB1.out); clear hsv hb2) | (go_at_call 55; (with_reducible refine (at_any s _ _ _ xs _ hn2 (by constructor <;> omega) HT.out).mono ?_); rintro e w3 ⟨rfl, rfl⟩)); go_ret2; exact ⟨by first | (rw [HE.out]; done) | (rw [HE.out]; rfl), HB2.out⟩
set_option maxHeartbeats 2000000 in
theorem markMotion_any (s : Int) (A : Option Addr) (c : Nat) (xs : List Int) (k : Int) (lo hi : Nat) (w : World) (hn : xs.length ≤ 1048576) (hk : 0 ≤ k ∧ k ≤ 1048576000) (h : RS (.int .i64) 2 w lo hi A c xs) : Calls Try.prog 24 #[.agg #[.int .i64 s, .slice A xs.length c], .int .i64 k] w fun e w' => e = .returned (.int .i64 (k + xs.length)) ∧ RS (.int .i64) 2 w' lo hi A c (seqI k xs.length) ∧ Only lo hi w w' := by
  have hb0 : Below w.heap.size w (w.alloc (.cells #[.int .i64 s, .slice A xs.length c] 27)) := gr_alloc (gr_refl w)
  have H := Lib.hid (h.late hb0)
  have HB0 := Lib.hid hb0
  clear h hb0
  go_enter Try.func24, Try.ntmps24; go_wp2_with (go_at_call 63; (with_reducible refine (markInt64S_any _ _ xs k lo hi _ hn hk H.out).mono ?_); rintro e w1 ⟨rfl, hr, ho⟩; have HR := Lib.hid hr; have HO := Lib.hid ho; clear hr ho)
  go_ret
  exact ⟨rfl, HR.out, (Only.of_below HB0.out).trans HO.out⟩
set_option maxHeartbeats 2000000 in
theorem heldMotion_any (s : Int) (A : Option Addr) (c : Nat) (k : Int) (n : Nat) (w : World) (hn : n ≤ 1048576) (hk : 0 ≤ k ∧ k ≤ 1048576000) (h : SV (.int .i64) w w.heap.size A (seqI k n)) : Calls Try.prog 25 #[.agg #[.int .i64 s, .slice A n c], .int .i64 k] w fun e w' => e = .returned (.int .i64 (k + n)) ∧ Below w.heap.size w w' := by
  have hb0 : Below w.heap.size w (w.alloc (.cells #[.int .i64 s, .slice A n c] 27)) := gr_alloc (gr_refl w)
  have H := Lib.hid (h.later hb0)
  have HB0 := Lib.hid hb0
  clear h hb0
  obtain ⟨hk0, hk1⟩ := hk
  go_enter Try.func25, Try.ntmps25; go_wp2_with (go_at_call 64; (with_reducible refine (heldInt64S_any _ _ k n _ hn ⟨hk0, hk1⟩ H.out).mono ?_); rintro e w1 ⟨rfl, rfl⟩)
  go_ret
  exact ⟨rfl, HB0.out⟩
end Go.Proofs.Ytoojnfdphjdocaa
