/- Marks of bools that are still there. -/
import Derived.Test.YtmgbbkglafnibaaTabE
namespace Go.Proofs.Ytmgbbkglafnibaa
open Go.RowKit
theorem bne_mk (b : Bool) : (b != b) = false := by cases b <;> rfl
set_option maxHeartbeats 2000000 in
theorem heldBoolS_any (A : Option Addr) (c : Nat) (k : Int) (n : Nat) (w : World) (hn : n ≤ 1048576) (hk : 0 ≤ k ∧ k ≤ 9007199254740992) (h : SV .bool w w.heap.size A (mkB k n)) :
    Calls Try.prog 48 #[.slice A n c, .int .i64 k] w fun e w' => e = .returned (.int .i64 (k + n)) ∧ w = w' := by
  have H := Lib.hid h
  clear h
  obtain ⟨hk0, hk1⟩ := hk
  go_enter Try.func48, Try.ntmps48
  go_wp2
  go_loop [1, 5] (fun kv i => ∃ j : Nat, j ≤ n ∧ i = .int .i64 j ∧ kv = .int .i64 (k + (j : Int))) (fun _ i => n - (intOf i).toNat)
  case atStart => exact ⟨0, by omega, rfl, by simp⟩
  case round =>
    obtain ⟨j, hj, rfl, rfl⟩ := hrel
    by_cases hlt : j < n
    · obtain ⟨b, off, rfl, hB, hc⟩ := H.out.at_ (mkB_at (k := k) hlt)
      by_cases h3 : (k + (j : Int)) % 3 = 0
      · rw [decide_eq_true h3] at hc
        have hb : ((k + (j : Int)) % 3 == 0) = true := by rw [beq_iff_eq]; exact h3
        clear h3
        go_wp2
        go_round
        case rel => exact ⟨j + 1, by omega, by go_num, by go_num⟩
        case measure => simp [intOf]; omega
      · rw [decide_eq_false h3] at hc
        have hb : ((k + (j : Int)) % 3 == 0) = false := by rw [beq_eq_false_iff_ne]; exact h3
        clear h3
        go_wp2
        go_round
        case rel => exact ⟨j + 1, by omega, by go_num, by go_num⟩
        case measure => simp [intOf]; omega
    · obtain rfl : j = n := by omega
      go_wp2
      go_ret
      exact ⟨rfl, rfl⟩
set_option maxHeartbeats 2000000 in
theorem heldBoolSS_any (A : Option Addr) (c : Nat) (T : List (List Bool)) (k : Int) (w : World) (hz : Sizes T) (hk : 0 ≤ k ∧ k ≤ 1048576000) (h : TB .bool w w.heap.size A (mkT k T T.length)) :
    Calls Try.prog 21 #[.slice A T.length c, .int .i64 k] w fun e w' => e = .returned (.int .i64 (k + sumT T T.length)) ∧ w = w' := by
  have H := Lib.hid h
  clear h
  have hsum : ∀ j, j ≤ T.length → sumT T j ≤ 1048576 * j := by
    intro j
    induction j with
    | zero => intro _; exact Nat.le_refl _
    | succ j ih =>
      intro hj
      obtain ⟨bs, hb⟩ := at_of_lt (xs := T) (k := j) (by omega)
      rw [sumT_step hb]
      have := ih (by omega)
      have := hz.2 j bs hb
      omega
  have HS := Lib.hid hsum
  have HZ := Lib.hid hz
  obtain ⟨n, hn'⟩ : ∃ n, T.length = n := ⟨_, rfl⟩
  have HN := Lib.hid hn'
  have hn : n ≤ 1048576 := hn' ▸ hz.1
  rw [hn'] at H ⊢
  clear hn' hz hsum
  obtain ⟨hk0, hk1⟩ := hk
  go_enter Try.func21, Try.ntmps21
  go_wp2
  go_loop [1, 5] (fun kv i => ∃ j : Nat, j ≤ n ∧ i = .int .i64 j ∧ kv = .int .i64 (k + (sumT T j : Int))) (fun _ i => n - (intOf i).toNat)
  case atStart => exact ⟨0, by omega, rfl, by simp [sumT]⟩
  case round =>
    obtain ⟨j, hj, rfl, rfl⟩ := hrel
    by_cases hlt : j < n
    · obtain ⟨bs, hbs⟩ := at_of_lt (xs := T) (k := j) (by rw [HN.out]; exact hlt)
      have hat : (mkT k T n)[j]? = some (mkB (k + sumT T j) bs.length) := by rw [mkT_at hbs, if_pos hlt]
      have hsj := HS.out j (by rw [HN.out]; exact hj)
      have hbl := HZ.out.2 j bs hbs
      obtain ⟨b, off, A', c', rfl, hB, hc, hsv⟩ := H.out.row hat
      rw [mkB_len] at hc
      have HR := Lib.hid hsv
      have HST := Lib.hid (sumT_step hbs)
      clear hat hbs hsv
      obtain ⟨S, hS⟩ : ∃ S, sumT T j = S := ⟨_, rfl⟩
      have HSS := Lib.hid hS
      rw [hS] at hsj HR ⊢
      clear hS
      go_wp2_with (go_at_call 48; (with_reducible refine (heldBoolS_any _ _ (k + (S : Int)) bs.length _ hbl (by constructor <;> omega) HR.out).mono ?_); rintro e w1 ⟨rfl, rfl⟩)
      go_round
      case rel => exact ⟨j + 1, by omega, by go_num, by rw [HST.out, HSS.out]; go_num⟩
      case measure => simp [intOf]; omega
    · obtain rfl : j = n := by omega
      go_wp2
      go_ret
      exact ⟨rfl, rfl⟩
end Go.Proofs.Ytmgbbkglafnibaa
