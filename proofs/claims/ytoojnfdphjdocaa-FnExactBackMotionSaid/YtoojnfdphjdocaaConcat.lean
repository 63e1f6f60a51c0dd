/- slices.Grow at nil, slices.Concat of two slices, copies by append. -/
import Derived.Test.YtoojnfdphjdocaaMotF
import Derived.Test.YtoojnfdphjdocaaApp
import Derived.Lib.AppendZerosOnto
namespace Go.Proofs.Ytoojnfdphjdocaa
open Go.RowKit
/-- a slice of integers of new memory was handed back -/
def RetS (xs : List Int) (t : TypeId) (w : World) (E : Ending) (w' : World) : Prop := ∃ A c, E = .returned (.slice A xs.length c) ∧ RS (.int .i64) t w' w.heap.size w'.heap.size A c xs ∧ Below w.heap.size w w'
/-- nothing yet, but room -/
def RetRoom (t : TypeId) (w : World) (E : Ending) (w' : World) : Prop := ∃ A c, E = .returned (.slice A 0 c) ∧ RS (.int .i64) t w' w.heap.size w'.heap.size A c [] ∧ Below w.heap.size w w'
set_option maxHeartbeats 4000000 in
set_option maxRecDepth 20000 in
theorem grow_any (n : Nat) (w : World) (hn : n ≤ 4194304) : Calls Try.prog 88 #[.slice none 0 0, .int .i64 (n : Int)] w (RetRoom 2 w) := by
  by_cases h0 : n = 0
  · subst h0
    go_enter Try.func88, Try.ntmps88; go_wp2; go_ret; exact ⟨none, 0, rfl, RS.nil, gr_refl w⟩
  obtain ⟨i0, hi, hz0, hz1, hz2⟩ := info_parts infoInt
  have hold : (Builtin.firstCells i0.size 0 (.slice none 0 0)).run Try.prog w.drew = .ok (#[] : Array Value) w.drew := run_firstCells_none w.drew i0.size 0 0 0
  have hrz : ∀ ty, (Builtin.append_ #[22, 3] ty #[.slice none 0 0, .int .i64 (n : Int)]).run Try.prog w = .ok (.slice (some ⟨w.heap.size, 0, none⟩) n (grownCap w n 0 2)) (w.drew.alloc (.cells (#[] ++ Builtin.zeroCells (Value.int .i64 0).cells n ++ Builtin.zeroCells (Value.int .i64 0).cells (grownCap w n 0 2 - n)) 2)) := fun ty => by
    have h := Lib.run_append_grow_zeros w 22 3 ty 2 i0 (.int .i64 0) .i64 .i64 Try.underlying22 Try.underlying3 hi hz0 none 0 0 [] hold n (by omega) (by omega) (by omega) (by omega) (by rw [hz2]; omega) (by rw [Nat.zero_add]; exact growslice_fits (by omega) (by rw [hz2]; omega))
    rw [Nat.zero_add] at h
    exact h
  have hGn : n ≤ grownCap w n 0 2 := grownCap_ge w _ _ _
  have hGm : grownCap w n 0 2 ≤ maxLen := grownCap_le_maxLen w n 0 _ (by unfold maxLen; omega)
  obtain ⟨G, hG⟩ : ∃ G, grownCap w n 0 2 = G := ⟨_, rfl⟩
  rw [hG] at hrz hGn hGm
  have hG63 : G ≤ 9223372036854775807 := by unfold maxLen at hGm; omega
  have HGM := Lib.hid hGm
  clear hold hG hGm hi hz0 hz1 hz2
  have hp : 0 < n := by omega
  clear h0
  go_enter Try.func88, Try.ntmps88
  go_wp2_with (at_builtin; refine Lib.wpList_append_run _ rfl _ _ _ _ rfl _ _ rfl rfl _ _ (hrz _) ?_)
  all_goals (go_ret; refine ⟨_, _, rfl, ?_, gr_alloc (gr_drew (gr_refl w))⟩)
  exact .inr ⟨w.heap.size, _, rfl, Nat.le_refl _, by simp, heap_alloc_new w.drew _, Nat.zero_le _, HGM.out, by simp [Builtin.zeroCells]; omega, rfl⟩
set_option maxHeartbeats 4000000 in
set_option maxRecDepth 20000 in
theorem concat_any (xs ys : List Int) (A1 A2 : Option Addr) (c1 c2 b : Nat) (w : World) (h1 : xs.length ≤ 1048576) (h2 : ys.length ≤ 1048576) (g1 : A1 = none → c1 = 0) (g2 : A2 = none → c2 = 0) (k1 : SV (.int .i64) w w.heap.size A1 xs) (k2 : SV (.int .i64) w w.heap.size A2 ys) (d1 : w.cell? ⟨b, 0, none⟩ = some (.slice A1 xs.length c1)) (d2 : w.cell? ⟨b, 1, none⟩ = some (.slice A2 ys.length c2)) : Calls Try.prog 74 #[.slice (some ⟨b, 0, none⟩) 2 2] w (RetS (xs ++ ys) 2 w) := by
  obtain ⟨i0, hi, hz0, hz1, hz2⟩ := info_parts infoInt
  have K1 := Lib.hid k1
  have K2 := Lib.hid k2
  have D1 := Lib.hid d1
  have D2 := Lib.hid d2
  have G1 := Lib.hid g1
  have G2 := Lib.hid g2
  clear k1 k2 g1 g2
  go_enter Try.func74, Try.ntmps74
  go_wp2
  go_loop [3, 11] (fun sz i => ∃ k : Nat, k ≤ 2 ∧ i = .int .i64 k ∧ sz = .int .i64 ((if k = 0 then 0 else if k = 1 then xs.length else xs.length + ys.length : Nat) : Int)) (fun _ i => 2 - (intOf i).toNat)
  case atStart => exact ⟨0, by omega, rfl, rfl⟩
  case round =>
    obtain ⟨k, hk, rfl, rfl⟩ := hrel
    obtain rfl | rfl | rfl : k = 0 ∨ k = 1 ∨ k = 2 := by omega
    · simp only [if_true]
      go_wp2
      go_round
      case rel => exact ⟨1, by omega, rfl, by simp⟩
      case measure => simp [intOf]
    · rw [if_neg (by omega), if_pos rfl]
      go_wp2
      go_round
      case rel => exact ⟨2, by omega, rfl, by simp⟩
      case measure => simp [intOf]
    · rw [if_neg (by omega), if_neg (by omega)]
      clear d1 d2
      obtain ⟨N, hN⟩ : ∃ N, xs.length + ys.length = N := ⟨_, rfl⟩
      rw [hN]
      have hN2 : N ≤ 2097152 := by omega
      have HN := Lib.hid hN
      clear hN
      go_wp2_with (go_at_call 88; (with_reducible refine (grow_any N _ (by omega)).mono ?_); rintro e w1 ⟨V0, q0, rfl, hr0, hb0⟩; have HR0 := Lib.hid hr0; have HB0 := Lib.hid hb0; clear hr0 hb0)
      go_loopw [6, 27] (fun v i wr => ∃ (k q : Nat) (V : Option Addr), k ≤ 2 ∧ i = .int .i64 k ∧ v = .slice V (if k = 0 then 0 else if k = 1 then xs.length else xs.length + ys.length) q ∧ RS (.int .i64) 2 wr w.heap.size wr.heap.size V q (if k = 0 then [] else if k = 1 then xs else xs ++ ys) ∧ Below w.heap.size w wr) (fun _ i _ => 2 - (intOf i).toNat)
      case atStart => exact ⟨0, q0, V0, by omega, rfl, rfl, HR0.out, HB0.out⟩
      case round =>
        obtain ⟨k, q, V, hk, rfl, rfl, hr, hbe⟩ := hrel
        have HB := Lib.hid hbe
        have HR := Lib.hid hr
        clear hr hbe
        obtain rfl | rfl | rfl : k = 0 ∨ k = 1 ∨ k = 2 := by omega
        · simp only [if_true] at HR ⊢
          have d1 := (keepc HB.out D1.out)
          go_wp2_with (at_builtin; refine wpList_app rfl _ _ _ rfl (w.heap.size) 2 i0 (.int .i64 0) 8 Try.underlying22 hi hz0 hz1 hz2 rfl (Value.int .i64) (fun _ => rfl) V (0) (q) ([]) (wr.heap.size) rfl rfl HR.out A1 (xs.length) (c1) (xs) _ rfl rfl (K1.out.below HB.out) G1.out (by unfold maxLen; omega) (by omega) HB.out.size ?_; intro A2_ c2_ w2 hr2 hgrow hblk; have HR2 := Lib.hid hr2; have HB2 := Lib.hid (HR.out.after HB.out hgrow HB.out.size (Nat.le_refl _)); clear hr2 hgrow hblk)
          go_roundw
          case rel => exact ⟨1, c2_, A2_, by omega, rfl, by simp, HR2.out, HB2.out⟩
          case measure => simp [intOf]
        · rw [if_neg (by omega), if_pos rfl] at HR ⊢
          have d2 := (keepc HB.out D2.out)
          go_wp2_with (at_builtin; refine wpList_app rfl _ _ _ rfl (w.heap.size) 2 i0 (.int .i64 0) 8 Try.underlying22 hi hz0 hz1 hz2 rfl (Value.int .i64) (fun _ => rfl) V (xs.length) (q) (xs) (wr.heap.size) rfl rfl HR.out A2 (ys.length) (c2) (ys) _ rfl rfl (K2.out.below HB.out) G2.out (by unfold maxLen; omega) (by omega) HB.out.size ?_; intro A2_ c2_ w2 hr2 hgrow hblk; have HR2 := Lib.hid hr2; have HB2 := Lib.hid (HR.out.after HB.out hgrow HB.out.size (Nat.le_refl _)); clear hr2 hgrow hblk)
          go_roundw
          case rel => exact ⟨2, c2_, A2_, by omega, rfl, by simp, HR2.out, HB2.out⟩
          case measure => simp [intOf]
        · rw [if_neg (by omega), if_neg (by omega)] at HR ⊢
          go_wp2
          go_ret
          exact ⟨V, q, by rw [List.length_append]; rfl, HR.out, HB.out⟩
end Go.Proofs.Ytoojnfdphjdocaa
