/- The direction of a motion after some steps, the reference. -/
import Derived.Test.YtoojnfdphjdocaaMotC
import Derived.Test.YtoojnfdphjdocaaTurns
namespace Go.Proofs.Ytoojnfdphjdocaa
open Go.RowKit
/-- the direction after k steps -/
def dirAt (s : Int) (xs : List Int) : Nat → Int
  | 0 => s
  | k + 1 => (dirAt s xs k + xs.getD k 0) % 24
theorem dirAt_bd {s : Int} (hs : 0 ≤ s ∧ s ≤ 23) (xs : List Int) : ∀ k : Nat, 0 ≤ dirAt s xs k ∧ dirAt s xs k ≤ 23
  | 0 => hs
  | k + 1 => by show 0 ≤ (dirAt s xs k + xs.getD k 0) % 24 ∧ (dirAt s xs k + xs.getD k 0) % 24 ≤ 23; omega
theorem dirAt_step {s x : Int} {xs : List Int} {k : Nat} (h : xs[k]? = some x) : dirAt s xs (k + 1) = (dirAt s xs k + x) % 24 := by
  show (dirAt s xs k + xs.getD k 0) % 24 = _
  rw [List.getD_eq_getElem?_getD, h]; rfl
theorem okM_t {s : Int} {xs : List Int} (h : okM s xs = true) : (0 ≤ s ∧ s ≤ 23) ∧ xs.length ≤ 200 ∧ ∀ (j : Nat) x, xs[j]? = some x → -1 ≤ x ∧ x ≤ 1 := by
  unfold okM at h
  simp only [Bool.and_eq_true, decide_eq_true_eq] at h
  refine ⟨inI_t h.1.1, h.1.2, fun j x hj => ?_⟩
  have ha := h.2
  unfold allTurn at ha
  rw [List.all_eq_true] at ha
  exact inI_t (ha x (List.mem_iff_getElem?.2 ⟨j, hj⟩))
set_option maxHeartbeats 2000000 in
theorem l16At_any (b : Nat) (s m : Int) (A : Option Addr) (c : Nat) (xs : List Int) (w : World) (hok : okM s xs = true) (hm : 0 ≤ m ∧ m ≤ 9223372036854775807) (c0 : w.cell? ⟨b, 0, none⟩ = some (.int .i64 s)) (c1 : w.cell? ⟨b, 1, none⟩ = some (.slice A xs.length c)) (h : SV (.int .i64) w w.heap.size A xs) : Calls Try.prog 54 #[.pointer (some ⟨b, 0, none⟩), .int .i64 m] w fun e w' => e = .returned (.int .i64 (dirAt s xs (min m.toNat xs.length))) ∧ w = w' := by
  obtain ⟨hs, hn, hx⟩ := okM_t hok
  have HXS := Lib.hid hx
  have H := Lib.hid h
  clear h hx hok
  obtain ⟨n, hn'⟩ : ∃ n, xs.length = n := ⟨_, rfl⟩
  have HN := Lib.hid hn'
  rw [hn'] at hn c1 ⊢
  clear hn'
  go_enter Try.func54, Try.ntmps54
  go_wp2
  go_loop [5, 6] (fun d i => ∃ k : Nat, k ≤ n ∧ (k : Int) ≤ m ∧ i = .int .i64 k ∧ d = .int .i64 (dirAt s xs k)) (fun _ i => n - (intOf i).toNat)
  case atStart => exact ⟨0, by omega, by omega, rfl, rfl⟩
  case round =>
    obtain ⟨k, hk, hkm, rfl, rfl⟩ := hrel
    have hb := dirAt_bd hs xs k
    by_cases h1 : (k : Int) < m
    · by_cases hlt : k < n
      · obtain ⟨x, hx⟩ := at_of_lt (xs := xs) (k := k) (by rw [HN.out]; exact hlt)
        obtain ⟨b2, off, rfl, hB, hc⟩ := H.out.at_ hx
        have hxb := HXS.out k x hx
        have HST := Lib.hid (dirAt_step (s := s) hx)
        clear hx
        obtain ⟨d, hd⟩ : ∃ d, dirAt s xs k = d := ⟨_, rfl⟩
        rw [hd] at hb ⊢
        have HD := Lib.hid hd
        clear hd
        go_wp2_with (go_at_call 83; (with_reducible refine (mod02_any _ _ (by omega)).mono ?_); rintro e w1 ⟨rfl, rfl⟩)
        go_round
        case rel => exact ⟨k + 1, by omega, by omega, by go_num, by rw [HST.out, HD.out]⟩
        case measure => simp [intOf]; omega
      · obtain rfl : k = n := by omega
        have HE := Lib.hid (show min m.toNat k = k by omega)
        go_wp2
        go_ret
        exact ⟨ret_int (by first | rfl | rw [HE.out]), rfl⟩
    · have hd := decide_eq_false h1
      have HE := Lib.hid (show min m.toNat n = k by omega)
      go_wp2
      go_ret
      exact ⟨ret_int (by first | rfl | rw [HE.out]), rfl⟩
end Go.Proofs.Ytoojnfdphjdocaa
