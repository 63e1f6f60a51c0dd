/- Numbers drawn from bytes, in the laws. -/
import Derived.Test.YtoglmeiffidcbaaDoorSrc
import Derived.Test.YtoglmeiffidcbaaDoorBase
import Derived.BigQuiet
namespace Go.Proofs.YtoglmeiffidcbaaDoor
open Go.RowKit Go.Deep
def SomeLt (m : Int) (e : Ending) : Prop := ∃ x : Int, e = .returned (.int .i64 x) ∧ 0 ≤ x ∧ x < m
def lngB (n m : Nat) : Bool := decide (3000 < n) || decide (3000 < m)
theorem lngB_f {n m : Nat} (h : lngB n m = false) : n ≤ 3000 ∧ m ≤ 3000 := by unfold lngB at h; simp only [Bool.or_eq_false_iff, decide_eq_false_iff_not] at h; omega
set_option maxHeartbeats 1000000 in
theorem long_any (A B : Option Addr) (n m c d : Nat) (w : World) : Calls Tryd.prog 15 #[.slice A n c, .slice B m d] w fun e w' => e = .returned (.bool (lngB n m)) ∧ w = w' := by
  by_cases h1 : 3000 < n
  · have hr := Lib.hid (show lngB n m = true by unfold lngB; rw [decide_eq_true h1]; rfl)
    have hd : decide ((3000 : Int) < (n : Int)) = true := decide_eq_true (by omega)
    go_enter Tryd.func15, Tryd.ntmps15; go_wp2; go_returns; exact ⟨ret_bool hr.out.symm, rfl⟩
  have hd : decide ((3000 : Int) < (n : Int)) = false := decide_eq_false (by omega)
  by_cases h2 : 3000 < m
  · have hr := Lib.hid (show lngB n m = true by unfold lngB; rw [decide_eq_true h2, Bool.or_true])
    have hd2 : decide ((3000 : Int) < (m : Int)) = true := decide_eq_true (by omega)
    go_enter Tryd.func15, Tryd.ntmps15; go_wp2; go_returns; exact ⟨ret_bool hr.out.symm, rfl⟩
  have hr := Lib.hid (show lngB n m = false by unfold lngB; rw [decide_eq_false h1, decide_eq_false h2]; rfl)
  have hd2 : decide ((3000 : Int) < (m : Int)) = false := decide_eq_false (by omega)
  go_enter Tryd.func15, Tryd.ntmps15; go_wp2; go_returns; exact ⟨ret_bool hr.out.symm, rfl⟩
set_option maxHeartbeats 2000000 in
set_option maxRecDepth 20000 in
theorem at_any (A : Option Addr) (c : Nat) (bs : List Int) (a m : Int) (w : World) (hn : bs.length ≤ 1048576) (ha : 0 ≤ a) (ha2 : a ≤ 1000000) (hm : 1 ≤ m) (hm2 : m ≤ 1000000) (hq : ∀ x ∈ bs, U8 x) (h : SV (.int .u8) w w.heap.size A bs) : Calls Tryd.prog 20 #[.slice A bs.length c, .int .i64 a, .int .i64 m] w fun e w' => SomeLt m e ∧ w = w' := by
  obtain ⟨k, rfl⟩ := Int.eq_ofNat_of_zero_le ha
  by_cases hk : bs.length ≤ k
  · have hd : decide (bs.length ≤ k) = true := decide_eq_true hk
    clear h hq
    obtain ⟨n, hn'⟩ : ∃ n, bs.length = n := ⟨_, rfl⟩
    rw [hn'] at hd hk ⊢
    clear hn' hn
    go_enter Tryd.func20, Tryd.ntmps20; go_wp2; go_returns; exact ⟨⟨0, rfl, by omega, by omega⟩, rfl⟩
  obtain ⟨y, hy⟩ := at_of_lt (xs := bs) (k := k) (by omega)
  obtain ⟨b, o, rfl, hB, hc⟩ := h (by omega)
  have hcy := hc k y hy
  have hu := hq y (List.mem_of_getElem? hy)
  have hy0 : 0 ≤ y := hu.1
  have hy1 : y ≤ 255 := hu.2
  have hm0 := Int.emod_nonneg y (show m ≠ 0 by omega)
  have hm1 := Int.emod_lt_of_pos y (show 0 < m by omega)
  have hd : decide (bs.length ≤ k) = false := decide_eq_false hk
  have hd2 : decide (m < 1) = false := decide_eq_false (by omega)
  have hmz : ¬ m = 0 := by omega
  have hmy : ¬ m = -1 := by omega
  have hkl : k < bs.length := by omega
  clear hc hy hq h hk hu
  obtain ⟨n, hn'⟩ : ∃ n, bs.length = n := ⟨_, rfl⟩
  rw [hn'] at hd hn hkl ⊢
  clear hn'
  go_enter Tryd.func20, Tryd.ntmps20; go_wp2; go_returns; exact ⟨⟨_, rfl, hm0, hm1⟩, rfl⟩
def atV (bs : List Int) (a m : Int) : Int := if bs.length ≤ a.toNat then 0 else bs.getD a.toNat 0 % m
theorem atV_bd (bs : List Int) (a : Int) {m : Int} (hm : 1 ≤ m) : 0 ≤ atV bs a m ∧ atV bs a m < m := by
  have h1 := Int.emod_nonneg (bs.getD a.toNat 0) (show m ≠ 0 by omega)
  have h2 := Int.emod_lt_of_pos (bs.getD a.toNat 0) (show 0 < m by omega)
  unfold atV
  split <;> omega
set_option maxHeartbeats 2000000 in
set_option maxRecDepth 20000 in
theorem at_is (A : Option Addr) (c : Nat) (bs : List Int) (a m : Int) (w : World) (hn : bs.length ≤ 1048576) (ha : 0 ≤ a) (ha2 : a ≤ 1000000) (hm : 1 ≤ m) (hm2 : m ≤ 1000000) (hq : ∀ x ∈ bs, U8 x) (h : SV (.int .u8) w w.heap.size A bs) {v : Int} (hv : atV bs a m = v) : Calls Tryd.prog 20 #[.slice A bs.length c, .int .i64 a, .int .i64 m] w fun e w' => e = .returned (.int .i64 v) ∧ w = w' := by
  obtain ⟨k, rfl⟩ := Int.eq_ofNat_of_zero_le ha
  unfold atV at hv
  rw [Int.toNat_natCast] at hv
  have HV := Lib.hid hv
  clear hv
  by_cases hk : bs.length ≤ k
  · have hd : decide (bs.length ≤ k) = true := decide_eq_true hk
    have HE := Lib.hid (show v = 0 by rw [← HV.out, if_pos hk])
    clear h hq HV
    obtain ⟨n, hn'⟩ : ∃ n, bs.length = n := ⟨_, rfl⟩
    rw [hn'] at hd hk ⊢
    clear hn' hn
    rw [HE.out]
    go_enter Tryd.func20, Tryd.ntmps20; go_wp2; go_returns; exact ⟨rfl, rfl⟩
  obtain ⟨y, hy⟩ := at_of_lt (xs := bs) (k := k) (by omega)
  have HE := Lib.hid (show v = y % m by rw [← HV.out, if_neg hk, List.getD_eq_getElem?_getD, hy]; rfl)
  clear HV
  obtain ⟨b, o, rfl, hB, hc⟩ := h (by omega)
  have hcy := hc k y hy
  have hu := hq y (List.mem_of_getElem? hy)
  have hy0 : 0 ≤ y := hu.1
  have hy1 : y ≤ 255 := hu.2
  have hm0 := Int.emod_nonneg y (show m ≠ 0 by omega)
  have hm1 := Int.emod_lt_of_pos y (show 0 < m by omega)
  have hd : decide (bs.length ≤ k) = false := decide_eq_false hk
  have hd2 : decide (m < 1) = false := decide_eq_false (by omega)
  have hmz : ¬ m = 0 := by omega
  have hmy : ¬ m = -1 := by omega
  have hkl : k < bs.length := by omega
  clear hc hy hq hk hu
  obtain ⟨n, hn'⟩ : ∃ n, bs.length = n := ⟨_, rfl⟩
  rw [hn'] at hd hn hkl ⊢
  clear hn'
  rw [HE.out]
  go_enter Tryd.func20, Tryd.ntmps20; go_wp2; go_returns; exact ⟨rfl, rfl⟩
end Go.Proofs.YtoglmeiffidcbaaDoor
