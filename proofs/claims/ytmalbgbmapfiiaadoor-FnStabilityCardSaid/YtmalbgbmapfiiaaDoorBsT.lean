/- BaseText, both sides. -/
import Derived.Test.YtmalbgbmapfiiaaDoorJoin
import Derived.Test.YtmalbgbmapfiiaaDoorBaseV
import Derived.Test.YtmalbgbmapfiiaaDoorDecI
import Derived.Test.YtmalbgbmapfiiaaDoorGrow
import Derived.Deep.RegionHeld3
namespace Go.Proofs.YtmalbgbmapfiiaaDoor
open Go.RowKit Go.Deep
theorem keepc7 {W w1 : World} {b o : Nat} {v : Value} (hb : Below W.heap.size W w1) (h : W.cell? ⟨b, o, none⟩ = some v) : w1.cell? ⟨b, o, none⟩ = some v := (hb.cell (p := ⟨b, o, none⟩) (lt_of_cell h)).trans h
def wdL : List (List UInt8) := [[115, 105, 100, 101], [109, 97, 115, 115], [98, 97, 108, 108, 97, 115, 116], [106, 105, 98], [97, 116], [99, 111, 117, 110, 116, 101, 114], [97, 116]]
def nmL (x0 x1 x2 x3 x4 x5 x6 : Int) : List Int := [x0, x1, x2, x3, x4, x5, x6]
def btL (x0 x1 x2 x3 x4 x5 x6 : Int) : Nat → List UInt8
  | 0 => []
  | k + 1 => btL x0 x1 x2 x3 x4 x5 x6 k ++ (if k = 0 then [] else [32]) ++ (wdL.getD k [] ++ [32] ++ dS ((nmL x0 x1 x2 x3 x4 x5 x6).getD k 0))
def btX (x0 x1 x2 x3 x4 x5 x6 : Int) : ByteArray := if okB x0 x1 x2 x3 x4 x5 x6 = true then strB (btL x0 x1 x2 x3 x4 x5 x6 7) else ⟨#[]⟩
def wsB (x0 x1 x2 x3 x4 x5 x6 : Int) : List (List UInt8) := [[115, 105, 100, 101], dS x0, [109, 97, 115, 115], dS x1, [98, 97, 108, 108, 97, 115, 116], dS x2, [106, 105, 98], dS x3, [97, 116], dS x4, [99, 111, 117, 110, 116, 101, 114], dS x5, [97, 116], dS x6]
theorem jn_bt (x0 x1 x2 x3 x4 x5 x6 : Int) : jn (wsB x0 x1 x2 x3 x4 x5 x6) = btL x0 x1 x2 x3 x4 x5 x6 7 := by simp [jn, wsB, btL, wdL, nmL]
theorem bt_next0 {x0 x1 x2 x3 x4 x5 x6 : Int} {x : Int} {y : List UInt8} (hx : (nmL x0 x1 x2 x3 x4 x5 x6)[0]? = some x) (hy : wdL[0]? = some y) : strB (btL x0 x1 x2 x3 x4 x5 x6 0) ++ (strB y ++ ⟨#[32]⟩ ++ strB (dS x)) = strB (btL x0 x1 x2 x3 x4 x5 x6 1) := by
  simp only [show (⟨#[32]⟩ : ByteArray) = strB [32] from rfl, strB_app]
  simp only [btL, List.getD_eq_getElem?_getD, hx, hy, Option.getD_some, if_true, List.nil_append, List.append_nil]
theorem bt_next {x0 x1 x2 x3 x4 x5 x6 : Int} {k : Nat} (hk : 0 < k) {x : Int} {y : List UInt8} (hx : (nmL x0 x1 x2 x3 x4 x5 x6)[k]? = some x) (hy : wdL[k]? = some y) : strB (btL x0 x1 x2 x3 x4 x5 x6 k) ++ ⟨#[32]⟩ ++ (strB y ++ ⟨#[32]⟩ ++ strB (dS x)) = strB (btL x0 x1 x2 x3 x4 x5 x6 (k + 1)) := by
  simp only [show (⟨#[32]⟩ : ByteArray) = strB [32] from rfl, strB_app]
  simp only [btL, List.getD_eq_getElem?_getD, hx, hy, Option.getD_some]
  rw [if_neg (by omega)]
theorem wdL_len {k : Nat} {y : List UInt8} (h : wdL[k]? = some y) : y.length ≤ 7 := by
  have h2 : ∀ z ∈ wdL, z.length ≤ 7 := by decide
  exact h2 y (List.mem_of_getElem? h)
theorem bt_len {x0 x1 x2 x3 x4 x5 x6 : Int} (h : ∀ (k : Nat) x, (nmL x0 x1 x2 x3 x4 x5 x6)[k]? = some x → -9223372036854775808 ≤ x ∧ x ≤ 9223372036854775807) : ∀ k, k ≤ 7 → (btL x0 x1 x2 x3 x4 x5 x6 k).length ≤ 40 * k
  | 0, _ => by simp [btL]
  | k + 1, hk => by
    have ih := bt_len h k (by omega)
    obtain ⟨x, hx⟩ := at_of_lt (xs := nmL x0 x1 x2 x3 x4 x5 x6) (k := k) (by simp [nmL]; omega)
    obtain ⟨y, hy⟩ := at_of_lt (xs := wdL) (k := k) (by simp [wdL]; omega)
    have h1 := dS_len (h k x hx)
    have h2 := wdL_len hy
    have h3 : ((if k = 0 then [] else [32]) : List UInt8).length ≤ 1 := by split <;> simp
    simp only [btL, List.getD_eq_getElem?_getD, hx, hy, Option.getD_some, List.length_append, List.length_singleton]
    omega
set_option maxHeartbeats 8000000 in
set_option maxRecDepth 20000 in
theorem specBt_any (x0 x1 x2 x3 x4 x5 x6 : Int) (w : World) : Calls Tryd.prog 23 #[.agg #[.int .i64 x0, .int .i64 x1, .int .i64 x2, .int .i64 x3, .int .i64 x4, .int .i64 x5, .int .i64 x6]] w fun e w' => e = .returned (.string (btX x0 x1 x2 x3 x4 x5 x6)) ∧ Below w.heap.size w w' := by
  have hc7 := C7.box w 25 x0 x1 x2 x3 x4 x5 x6
  obtain ⟨q, hq⟩ : ∃ q, okB x0 x1 x2 x3 x4 x5 x6 = q := ⟨_, rfl⟩
  have HO : Hid (Calls Tryd.prog 45 #[.pointer (some ⟨w.heap.size, 0, none⟩)] (w.alloc (.cells #[.int .i64 x0, .int .i64 x1, .int .i64 x2, .int .i64 x3, .int .i64 x4, .int .i64 x5, .int .i64 x6] 25)) fun e w' => e = .returned (.bool q) ∧ (w.alloc (.cells #[.int .i64 x0, .int .i64 x1, .int .i64 x2, .int .i64 x3, .int .i64 x4, .int .i64 x5, .int .i64 x6] 25)) = w') := by have h9 := l06Ok_any w.heap.size x0 x1 x2 x3 x4 x5 x6 _ hc7; rw [hq] at h9; exact h9
  cases q
  · rw [show btX x0 x1 x2 x3 x4 x5 x6 = ⟨#[]⟩ from if_neg (by rw [hq]; decide)]
    clear hq hc7
    go_enter Tryd.func23, Tryd.ntmps23; go_wp2_with (go_at_call 45; (with_reducible refine HO.out.mono ?_); rintro e w1 ⟨rfl, rfl⟩)
    go_ret
    exact ⟨rfl, gr_alloc (gr_refl w)⟩
  rw [show btX x0 x1 x2 x3 x4 x5 x6 = strB (btL x0 x1 x2 x3 x4 x5 x6 7) from if_pos hq]
  have hbd := okB_t hq
  have HNB : Hid (∀ (k : Nat) x, (nmL x0 x1 x2 x3 x4 x5 x6)[k]? = some x → -9223372036854775808 ≤ x ∧ x ≤ 9223372036854775807) := by intro k x h; have h9 : x ∈ nmL x0 x1 x2 x3 x4 x5 x6 := List.mem_of_getElem? h; simp only [nmL, List.mem_cons, List.not_mem_nil, or_false] at h9; rcases h9 with rfl | rfl | rfl | rfl | rfl | rfl | rfl <;> (constructor <;> omega)
  clear hq hbd
  have HB0 := Lib.hid (show Below w.heap.size w (((w.alloc (.cells #[.int .i64 x0, .int .i64 x1, .int .i64 x2, .int .i64 x3, .int .i64 x4, .int .i64 x5, .int .i64 x6] 25)).alloc (.cells #[.int .i64 x0, .int .i64 x1, .int .i64 x2, .int .i64 x3, .int .i64 x4, .int .i64 x5, .int .i64 x6] 2)).alloc (.cells #[.string ⟨#[115, 105, 100, 101]⟩, .string ⟨#[109, 97, 115, 115]⟩, .string ⟨#[98, 97, 108, 108, 97, 115, 116]⟩, .string ⟨#[106, 105, 98]⟩, .string ⟨#[97, 116]⟩, .string ⟨#[99, 111, 117, 110, 116, 101, 114]⟩, .string ⟨#[97, 116]⟩] 9)) from by repeat' first | exact gr_refl _ | with_reducible assumption | with_reducible apply gr_alloc | with_reducible apply gr_set | with_reducible apply gr_drew | with_reducible apply gr_drewN | exact Nat.le_add_right _ _ | exact Nat.le_refl _ | (refine gr_then (by with_reducible assumption) ?_))
  have hz0 : w.heap.size + 3 ≤ (((w.alloc (.cells #[.int .i64 x0, .int .i64 x1, .int .i64 x2, .int .i64 x3, .int .i64 x4, .int .i64 x5, .int .i64 x6] 25)).alloc (.cells #[.int .i64 x0, .int .i64 x1, .int .i64 x2, .int .i64 x3, .int .i64 x4, .int .i64 x5, .int .i64 x6] 2)).alloc (.cells #[.string ⟨#[115, 105, 100, 101]⟩, .string ⟨#[109, 97, 115, 115]⟩, .string ⟨#[98, 97, 108, 108, 97, 115, 116]⟩, .string ⟨#[106, 105, 98]⟩, .string ⟨#[97, 116]⟩, .string ⟨#[99, 111, 117, 110, 116, 101, 114]⟩, .string ⟨#[97, 116]⟩] 9)).heap.size := by simp
  have HCI : Hid (∀ (k : Nat) x, (nmL x0 x1 x2 x3 x4 x5 x6)[k]? = some x → (((w.alloc (.cells #[.int .i64 x0, .int .i64 x1, .int .i64 x2, .int .i64 x3, .int .i64 x4, .int .i64 x5, .int .i64 x6] 25)).alloc (.cells #[.int .i64 x0, .int .i64 x1, .int .i64 x2, .int .i64 x3, .int .i64 x4, .int .i64 x5, .int .i64 x6] 2)).alloc (.cells #[.string ⟨#[115, 105, 100, 101]⟩, .string ⟨#[109, 97, 115, 115]⟩, .string ⟨#[98, 97, 108, 108, 97, 115, 116]⟩, .string ⟨#[106, 105, 98]⟩, .string ⟨#[97, 116]⟩, .string ⟨#[99, 111, 117, 110, 116, 101, 114]⟩, .string ⟨#[97, 116]⟩] 9)).cell? ⟨w.heap.size + 1, k, none⟩ = some (.int .i64 x)) := by intro k x h; match k, h with | 0, h => simp [nmL] at h; subst h; simp [go_sem] | 1, h => simp [nmL] at h; subst h; simp [go_sem] | 2, h => simp [nmL] at h; subst h; simp [go_sem] | 3, h => simp [nmL] at h; subst h; simp [go_sem] | 4, h => simp [nmL] at h; subst h; simp [go_sem] | 5, h => simp [nmL] at h; subst h; simp [go_sem] | 6, h => simp [nmL] at h; subst h; simp [go_sem] | k + 7, h => simp [nmL] at h
  have HCW : Hid (∀ (k : Nat) x, wdL[k]? = some x → (((w.alloc (.cells #[.int .i64 x0, .int .i64 x1, .int .i64 x2, .int .i64 x3, .int .i64 x4, .int .i64 x5, .int .i64 x6] 25)).alloc (.cells #[.int .i64 x0, .int .i64 x1, .int .i64 x2, .int .i64 x3, .int .i64 x4, .int .i64 x5, .int .i64 x6] 2)).alloc (.cells #[.string ⟨#[115, 105, 100, 101]⟩, .string ⟨#[109, 97, 115, 115]⟩, .string ⟨#[98, 97, 108, 108, 97, 115, 116]⟩, .string ⟨#[106, 105, 98]⟩, .string ⟨#[97, 116]⟩, .string ⟨#[99, 111, 117, 110, 116, 101, 114]⟩, .string ⟨#[97, 116]⟩] 9)).cell? ⟨w.heap.size + 2, k, none⟩ = some (.string (strB x))) := by intro k x h; match k, h with | 0, h => simp [wdL] at h; subst h; simp [go_sem]; rfl | 1, h => simp [wdL] at h; subst h; simp [go_sem]; rfl | 2, h => simp [wdL] at h; subst h; simp [go_sem]; rfl | 3, h => simp [wdL] at h; subst h; simp [go_sem]; rfl | 4, h => simp [wdL] at h; subst h; simp [go_sem]; rfl | 5, h => simp [wdL] at h; subst h; simp [go_sem]; rfl | 6, h => simp [wdL] at h; subst h; simp [go_sem]; rfl | k + 7, h => simp [wdL] at h
  have HD : Hid (∀ n : Int, -9223372036854775808 ≤ n ∧ n ≤ 9223372036854775807 → ∀ w : World, Calls Tryd.prog 46 #[.int .i64 n] w fun e w' => e = .returned (.string (strB (dS n))) ∧ Below w.heap.size w w') := fun n hn w => dec_any n hn w
  clear hc7
  go_enter Tryd.func23, Tryd.ntmps23; go_wp2_with (go_at_call 45; (with_reducible refine HO.out.mono ?_); rintro e w1 ⟨rfl, rfl⟩)
  clear HO
  generalize (((w.alloc (.cells #[.int .i64 x0, .int .i64 x1, .int .i64 x2, .int .i64 x3, .int .i64 x4, .int .i64 x5, .int .i64 x6] 25)).alloc (.cells #[.int .i64 x0, .int .i64 x1, .int .i64 x2, .int .i64 x3, .int .i64 x4, .int .i64 x5, .int .i64 x6] 2)).alloc (.cells #[.string ⟨#[115, 105, 100, 101]⟩, .string ⟨#[109, 97, 115, 115]⟩, .string ⟨#[98, 97, 108, 108, 97, 115, 116]⟩, .string ⟨#[106, 105, 98]⟩, .string ⟨#[97, 116]⟩, .string ⟨#[99, 111, 117, 110, 116, 101, 114]⟩, .string ⟨#[97, 116]⟩] 9)) = v0 at *
  go_loopw [5, 6] (fun o i wr => ∃ k : Nat, k ≤ 7 ∧ i = .int .i64 (k : Int) ∧ o = .string (strB (btL x0 x1 x2 x3 x4 x5 x6 k)) ∧ Below v0.heap.size v0 wr) (fun _ i _ => 7 - (intOf i).toNat)
  case atStart => exact ⟨0, by omega, by simp, rfl, gr_refl v0⟩
  case round =>
    obtain ⟨k, hk, rfl, rfl, hbe⟩ := hrel
    have HB := Lib.hid hbe
    have hzr := hbe.size
    by_cases hlt : k < 7
    case neg =>
      obtain rfl : k = 7 := by omega
      simp only [show ((7 : Nat) : Int) = 7 from rfl]
      clear hbe
      go_wp2
      go_ret
      exact ⟨rfl, HB0.out.trans (HB.out.mono (by omega))⟩
    by_cases hk0 : k = 0
    · subst hk0
      obtain ⟨x, hx⟩ := at_of_lt (xs := nmL x0 x1 x2 x3 x4 x5 x6) (k := 0) (by first | (simp [nmL]; done) | (simp [nmL]; omega))
      obtain ⟨y, hy⟩ := at_of_lt (xs := wdL) (k := 0) (by first | (simp [wdL]; done) | (simp [wdL]; omega))
      have c1 := (hbe.cell (p := ⟨w.heap.size + 1, 0, none⟩) (by simp only; omega)).trans (HCI.out 0 x hx)
      have c2 := (hbe.cell (p := ⟨w.heap.size + 2, 0, none⟩) (by simp only; omega)).trans (HCW.out 0 y hy)
      have hxb := HNB.out 0 x hx
      have s1 : (strB (btL x0 x1 x2 x3 x4 x5 x6 0)).size ≤ 280 := by rw [strB_size]; have h9 := bt_len HNB.out 0 (by omega); omega
      have s2 : (strB y).size ≤ 7 := by rw [strB_size]; exact wdL_len hy
      have s3 : (strB (dS x)).size ≤ 21 := by rw [strB_size]; exact dS_len hxb
      have s4 : (⟨#[32]⟩ : ByteArray).size = 1 := rfl
      have HS := Lib.hid (bt_next0 hx hy)
      clear hx hy hbe
      simp only [show ((0 : Nat) : Int) = 0 from rfl]
      go_wp2
      have gw0 : ∀ X, (grw wr X).cell? ⟨w.heap.size + 1, 0, none⟩ = some (.int .i64 x) := grw_cell (c1)
      have gw1 : ∀ X, (grw wr X).cell? ⟨w.heap.size + 2, 0, none⟩ = some (.string (strB y)) := grw_cell (c2)
      refine wp_region_grow (by kernel_rfl) (by kernel_rfl) ?_
      repeat (go_big_quiet_step (((go_at_call 46; (with_reducible refine grow_of (HD.out _ (by constructor <;> omega) _))))))
      refine wpQuiet_nil ?_
      rintro wq ⟨X, hX⟩
      have HA := Lib.hid (show Below wr.heap.size wr wq by rw [hX]; exact grw_below _ _)
      clear hX gw0 gw1
      go_wp2
      go_roundw
      case rel => exact ⟨1, by omega, by go_num, by rw [← HS.out], gr_then (HA.out.mono (by omega)) HB.out⟩
      case measure => simp [intOf]
    · have hk1 : 0 < (k : Int) := by omega
      obtain ⟨x, hx⟩ := at_of_lt (xs := nmL x0 x1 x2 x3 x4 x5 x6) (k := k) (by first | (simp [nmL]; done) | (simp [nmL]; omega))
      obtain ⟨y, hy⟩ := at_of_lt (xs := wdL) (k := k) (by first | (simp [wdL]; done) | (simp [wdL]; omega))
      have c1 := (hbe.cell (p := ⟨w.heap.size + 1, k, none⟩) (by simp only; omega)).trans (HCI.out k x hx)
      have c2 := (hbe.cell (p := ⟨w.heap.size + 2, k, none⟩) (by simp only; omega)).trans (HCW.out k y hy)
      have hxb := HNB.out k x hx
      have s1 : (strB (btL x0 x1 x2 x3 x4 x5 x6 k)).size ≤ 280 := by rw [strB_size]; have h9 := bt_len HNB.out k (by omega); omega
      have s2 : (strB y).size ≤ 7 := by rw [strB_size]; exact wdL_len hy
      have s3 : (strB (dS x)).size ≤ 21 := by rw [strB_size]; exact dS_len hxb
      have s4 : (⟨#[32]⟩ : ByteArray).size = 1 := rfl
      have HS := Lib.hid (bt_next (by omega) hx hy)
      have i0 : (0 : Int) ≤ (k : Int) := by omega
      have i1 : (k : Int) < 7 := by omega
      clear hx hy hbe
      go_wp2
      have gw0 : ∀ X, (grw wr X).cell? ⟨w.heap.size + 1, k, none⟩ = some (.int .i64 x) := grw_cell (c1)
      have gw1 : ∀ X, (grw wr X).cell? ⟨w.heap.size + 2, k, none⟩ = some (.string (strB y)) := grw_cell (c2)
      refine wp_region_grow (by kernel_rfl) (by kernel_rfl) ?_
      repeat (go_big_quiet_step (((go_at_call 46; (with_reducible refine grow_of (HD.out _ (by constructor <;> omega) _))))))
      refine wpQuiet_nil ?_
      rintro wq ⟨X, hX⟩
      have HA := Lib.hid (show Below wr.heap.size wr wq by rw [hX]; exact grw_below _ _)
      clear hX gw0 gw1
      go_wp2
      go_roundw
      case rel => exact ⟨k + 1, by omega, by go_num, by rw [← HS.out], gr_then (HA.out.mono (by omega)) HB.out⟩
      case measure => simp [intOf]; omega
set_option maxHeartbeats 8000000 in
set_option maxRecDepth 20000 in
theorem implBt_any (x0 x1 x2 x3 x4 x5 x6 : Int) (w : World) (ht : Pow10 w) : Calls Tryd.prog 22 #[.agg #[.int .i64 x0, .int .i64 x1, .int .i64 x2, .int .i64 x3, .int .i64 x4, .int .i64 x5, .int .i64 x6]] w fun e w' => e = .returned (.string (btX x0 x1 x2 x3 x4 x5 x6)) ∧ Below w.heap.size w w' := by
  have hb0 : Below w.heap.size w (w.alloc (.cells #[.int .i64 x0, .int .i64 x1, .int .i64 x2, .int .i64 x3, .int .i64 x4, .int .i64 x5, .int .i64 x6] 25)) := gr_alloc (gr_refl w)
  have HC := Lib.hid (C7.box w 25 x0 x1 x2 x3 x4 x5 x6)
  have HTT := Lib.hid (ht.later hb0)
  have HB0 := Lib.hid hb0
  have hlt0 : w.heap.size < (w.alloc (.cells #[.int .i64 x0, .int .i64 x1, .int .i64 x2, .int .i64 x3, .int .i64 x4, .int .i64 x5, .int .i64 x6] 25)).heap.size := by simp
  clear ht hb0
  obtain ⟨q, hq⟩ : ∃ q, okB x0 x1 x2 x3 x4 x5 x6 = q := ⟨_, rfl⟩
  have HO : Hid (∀ w : World, Calls Tryd.prog 24 #[.agg #[.int .i64 x0, .int .i64 x1, .int .i64 x2, .int .i64 x3, .int .i64 x4, .int .i64 x5, .int .i64 x6]] w fun e w' => e = .returned (.bool q) ∧ Below w.heap.size w w') := fun w => by have h9 := validBase_any x0 x1 x2 x3 x4 x5 x6 w; rw [hq] at h9; exact h9
  cases q
  · rw [show btX x0 x1 x2 x3 x4 x5 x6 = ⟨#[]⟩ from if_neg (by rw [hq]; decide)]
    clear hq
    go_enter Tryd.func22, Tryd.ntmps22; go_wp2_with (go_at_call 24; (with_reducible refine (HO.out _).mono ?_); rintro e w1 ⟨rfl, hb⟩)
    go_ret
    exact ⟨rfl, gr_then hb HB0.out⟩
  rw [show btX x0 x1 x2 x3 x4 x5 x6 = strB (btL x0 x1 x2 x3 x4 x5 x6 7) from if_pos hq]
  have hbd := okB_t hq
  have bd0 : -9223372036854775808 ≤ x0 ∧ x0 ≤ 9223372036854775807 := by constructor <;> omega
  have bd1 : -9223372036854775808 ≤ x1 ∧ x1 ≤ 9223372036854775807 := by constructor <;> omega
  have bd2 : -9223372036854775808 ≤ x2 ∧ x2 ≤ 9223372036854775807 := by constructor <;> omega
  have bd3 : -9223372036854775808 ≤ x3 ∧ x3 ≤ 9223372036854775807 := by constructor <;> omega
  have bd4 : -9223372036854775808 ≤ x4 ∧ x4 ≤ 9223372036854775807 := by constructor <;> omega
  have bd5 : -9223372036854775808 ≤ x5 ∧ x5 ≤ 9223372036854775807 := by constructor <;> omega
  have bd6 : -9223372036854775808 ≤ x6 ∧ x6 ≤ 9223372036854775807 := by constructor <;> omega
  clear hq hbd
  go_enter Tryd.func22, Tryd.ntmps22; go_wp2_with fail
  generalize (w.alloc (.cells #[.int .i64 x0, .int .i64 x1, .int .i64 x2, .int .i64 x3, .int .i64 x4, .int .i64 x5, .int .i64 x6] 25)) = v0 at *
  go_at_call 24
  (with_reducible refine (HO.out _).mono ?_)
  rintro e v1 ⟨rfl, hb⟩
  have HB1 := Lib.hid (gr_then hb HB0.out)
  have HT1 := Lib.hid (HTT.out.later hb)
  obtain ⟨c0, c1, c2, c3, c4, c5, c6⟩ := HC.out.below hb hlt0
  have hz1 := hb.size
  clear hb HO HTT
  have HD : Hid (∀ (n : Int), -9223372036854775808 ≤ n ∧ n ≤ 9223372036854775807 → ∀ W : World, Below v1.heap.size v1 W → Calls Tryd.prog 43 #[.int .i64 n] W fun e w' => e = .returned (.string (strB (dS n))) ∧ Below W.heap.size W w') := fun n hn W hW => decimal_any n hn _ (HT1.out.later hW)
  go_wp2_with fail
  have hA : Below v1.heap.size v1 v1 := gr_refl _
  go_region_held3 (fun w' => w'.cell? ⟨w.heap.size, 0, none⟩ = some (.int .i64 x0) ∧ w'.cell? ⟨w.heap.size, 1, none⟩ = some (.int .i64 x1) ∧ w'.cell? ⟨w.heap.size, 2, none⟩ = some (.int .i64 x2) ∧ w'.cell? ⟨w.heap.size, 3, none⟩ = some (.int .i64 x3) ∧ w'.cell? ⟨w.heap.size, 4, none⟩ = some (.int .i64 x4) ∧ w'.cell? ⟨w.heap.size, 5, none⟩ = some (.int .i64 x5) ∧ w'.cell? ⟨w.heap.size, 6, none⟩ = some (.int .i64 x6)) ((exact ⟨keepc7 (by repeat' first | exact gr_refl _ | with_reducible assumption | with_reducible apply gr_alloc | with_reducible apply gr_set | with_reducible apply gr_drew | with_reducible apply gr_drewN | exact Nat.le_add_right _ _ | exact Nat.le_refl _ | (dsimp only; omega) | (refine gr_then (by with_reducible assumption) ?_)) c0, keepc7 (by repeat' first | exact gr_refl _ | with_reducible assumption | with_reducible apply gr_alloc | with_reducible apply gr_set | with_reducible apply gr_drew | with_reducible apply gr_drewN | exact Nat.le_add_right _ _ | exact Nat.le_refl _ | (dsimp only; omega) | (refine gr_then (by with_reducible assumption) ?_)) c1, keepc7 (by repeat' first | exact gr_refl _ | with_reducible assumption | with_reducible apply gr_alloc | with_reducible apply gr_set | with_reducible apply gr_drew | with_reducible apply gr_drewN | exact Nat.le_add_right _ _ | exact Nat.le_refl _ | (dsimp only; omega) | (refine gr_then (by with_reducible assumption) ?_)) c2, keepc7 (by repeat' first | exact gr_refl _ | with_reducible assumption | with_reducible apply gr_alloc | with_reducible apply gr_set | with_reducible apply gr_drew | with_reducible apply gr_drewN | exact Nat.le_add_right _ _ | exact Nat.le_refl _ | (dsimp only; omega) | (refine gr_then (by with_reducible assumption) ?_)) c3, keepc7 (by repeat' first | exact gr_refl _ | with_reducible assumption | with_reducible apply gr_alloc | with_reducible apply gr_set | with_reducible apply gr_drew | with_reducible apply gr_drewN | exact Nat.le_add_right _ _ | exact Nat.le_refl _ | (dsimp only; omega) | (refine gr_then (by with_reducible assumption) ?_)) c4, keepc7 (by repeat' first | exact gr_refl _ | with_reducible assumption | with_reducible apply gr_alloc | with_reducible apply gr_set | with_reducible apply gr_drew | with_reducible apply gr_drewN | exact Nat.le_add_right _ _ | exact Nat.le_refl _ | (dsimp only; omega) | (refine gr_then (by with_reducible assumption) ?_)) c5, keepc7 (by repeat' first | exact gr_refl _ | with_reducible assumption | with_reducible apply gr_alloc | with_reducible apply gr_set | with_reducible apply gr_drew | with_reducible apply gr_drewN | exact Nat.le_add_right _ _ | exact Nat.le_refl _ | (dsimp only; omega) | (refine gr_then (by with_reducible assumption) ?_)) c6⟩)) ((go_at_call 43; (with_reducible refine (HD.out _ (by assumption) _ (by repeat' first | exact gr_refl _ | with_reducible assumption | with_reducible apply gr_alloc | with_reducible apply gr_set | with_reducible apply gr_drew | with_reducible apply gr_drewN | exact Nat.le_add_right _ _ | exact Nat.le_refl _ | (dsimp only; omega) | (refine gr_then (by with_reducible assumption) ?_))).mono ?_); rintro e y ⟨rfl, hb⟩; replace hA : Below v1.heap.size v1 y := gr_then hb (by repeat' first | exact gr_refl _ | with_reducible assumption | with_reducible apply gr_alloc | with_reducible apply gr_set | with_reducible apply gr_drew | with_reducible apply gr_drewN | exact Nat.le_add_right _ _ | exact Nat.le_refl _ | (dsimp only; omega) | (refine gr_then (by with_reducible assumption) ?_)); clear hb))
  have HA := Lib.hid hA
  have hrow : (y.alloc (.cells #[.string ⟨#[115, 105, 100, 101]⟩, .string (strB (dS x0)), .string ⟨#[109, 97, 115, 115]⟩, .string (strB (dS x1)), .string ⟨#[98, 97, 108, 108, 97, 115, 116]⟩, .string (strB (dS x2)), .string ⟨#[106, 105, 98]⟩, .string (strB (dS x3)), .string ⟨#[97, 116]⟩, .string (strB (dS x4)), .string ⟨#[99, 111, 117, 110, 116, 101, 114]⟩, .string (strB (dS x5)), .string ⟨#[97, 116]⟩, .string (strB (dS x6))] 9)).heap[y.heap.size]? = some (.cells #[.string ⟨#[115, 105, 100, 101]⟩, .string (strB (dS x0)), .string ⟨#[109, 97, 115, 115]⟩, .string (strB (dS x1)), .string ⟨#[98, 97, 108, 108, 97, 115, 116]⟩, .string (strB (dS x2)), .string ⟨#[106, 105, 98]⟩, .string (strB (dS x3)), .string ⟨#[97, 116]⟩, .string (strB (dS x4)), .string ⟨#[99, 111, 117, 110, 116, 101, 114]⟩, .string (strB (dS x5)), .string ⟨#[97, 116]⟩, .string (strB (dS x6))] 9 (0, 0)) := heap_alloc_new y _
  have HJ : Hid (Calls Tryd.prog 44 #[.slice (some ⟨y.heap.size, 0, none⟩) 14 14, .string ⟨#[32]⟩] (y.alloc (.cells #[.string ⟨#[115, 105, 100, 101]⟩, .string (strB (dS x0)), .string ⟨#[109, 97, 115, 115]⟩, .string (strB (dS x1)), .string ⟨#[98, 97, 108, 108, 97, 115, 116]⟩, .string (strB (dS x2)), .string ⟨#[106, 105, 98]⟩, .string (strB (dS x3)), .string ⟨#[97, 116]⟩, .string (strB (dS x4)), .string ⟨#[99, 111, 117, 110, 116, 101, 114]⟩, .string (strB (dS x5)), .string ⟨#[97, 116]⟩, .string (strB (dS x6))] 9)) fun e w' => e = .returned (.string (strB (btL x0 x1 x2 x3 x4 x5 x6 7))) ∧ Below (y.alloc (.cells #[.string ⟨#[115, 105, 100, 101]⟩, .string (strB (dS x0)), .string ⟨#[109, 97, 115, 115]⟩, .string (strB (dS x1)), .string ⟨#[98, 97, 108, 108, 97, 115, 116]⟩, .string (strB (dS x2)), .string ⟨#[106, 105, 98]⟩, .string (strB (dS x3)), .string ⟨#[97, 116]⟩, .string (strB (dS x4)), .string ⟨#[99, 111, 117, 110, 116, 101, 114]⟩, .string (strB (dS x5)), .string ⟨#[97, 116]⟩, .string (strB (dS x6))] 9)).heap.size (y.alloc (.cells #[.string ⟨#[115, 105, 100, 101]⟩, .string (strB (dS x0)), .string ⟨#[109, 97, 115, 115]⟩, .string (strB (dS x1)), .string ⟨#[98, 97, 108, 108, 97, 115, 116]⟩, .string (strB (dS x2)), .string ⟨#[106, 105, 98]⟩, .string (strB (dS x3)), .string ⟨#[97, 116]⟩, .string (strB (dS x4)), .string ⟨#[99, 111, 117, 110, 116, 101, 114]⟩, .string (strB (dS x5)), .string ⟨#[97, 116]⟩, .string (strB (dS x6))] 9)) w') := by
    have h9 := join_any y.heap.size (wsB x0 x1 x2 x3 x4 x5 x6) (y.alloc (.cells #[.string ⟨#[115, 105, 100, 101]⟩, .string (strB (dS x0)), .string ⟨#[109, 97, 115, 115]⟩, .string (strB (dS x1)), .string ⟨#[98, 97, 108, 108, 97, 115, 116]⟩, .string (strB (dS x2)), .string ⟨#[106, 105, 98]⟩, .string (strB (dS x3)), .string ⟨#[97, 116]⟩, .string (strB (dS x4)), .string ⟨#[99, 111, 117, 110, 116, 101, 114]⟩, .string (strB (dS x5)), .string ⟨#[97, 116]⟩, .string (strB (dS x6))] 9)) rfl (by intro x h; simp only [wsB, List.mem_cons, List.not_mem_nil, or_false] at h; rcases h with rfl | rfl | rfl | rfl | rfl | rfl | rfl | rfl | rfl | rfl | rfl | rfl | rfl | rfl <;> first | (simp; done) | (refine Nat.le_trans (dS_len (by assumption)) (by decide))) (by intro j x hx; rw [cell_of_row _ _ _ _ _ _ hrow]; match j, hx with | 0, hx => simp [wsB] at hx; subst hx; rfl | 1, hx => simp [wsB] at hx; subst hx; rfl | 2, hx => simp [wsB] at hx; subst hx; rfl | 3, hx => simp [wsB] at hx; subst hx; rfl | 4, hx => simp [wsB] at hx; subst hx; rfl | 5, hx => simp [wsB] at hx; subst hx; rfl | 6, hx => simp [wsB] at hx; subst hx; rfl | 7, hx => simp [wsB] at hx; subst hx; rfl | 8, hx => simp [wsB] at hx; subst hx; rfl | 9, hx => simp [wsB] at hx; subst hx; rfl | 10, hx => simp [wsB] at hx; subst hx; rfl | 11, hx => simp [wsB] at hx; subst hx; rfl | 12, hx => simp [wsB] at hx; subst hx; rfl | 13, hx => simp [wsB] at hx; subst hx; rfl | j + 14, hx => simp [wsB] at hx)
    rw [jn_bt] at h9; exact h9
  have HB9 := Lib.hid (gr_alloc (o := .cells #[.string ⟨#[115, 105, 100, 101]⟩, .string (strB (dS x0)), .string ⟨#[109, 97, 115, 115]⟩, .string (strB (dS x1)), .string ⟨#[98, 97, 108, 108, 97, 115, 116]⟩, .string (strB (dS x2)), .string ⟨#[106, 105, 98]⟩, .string (strB (dS x3)), .string ⟨#[97, 116]⟩, .string (strB (dS x4)), .string ⟨#[99, 111, 117, 110, 116, 101, 114]⟩, .string (strB (dS x5)), .string ⟨#[97, 116]⟩, .string (strB (dS x6))] 9) (gr_then HA.out HB1.out))
  clear hA hrow c0 c1 c2 c3 c4 c5 c6
  go_wp2_with (go_at_call 44; (with_reducible refine HJ.out.mono ?_); rintro e w7 ⟨rfl, hb7⟩)
  go_ret
  exact ⟨rfl, gr_then hb7 HB9.out⟩
end Go.Proofs.YtmalbgbmapfiiaaDoor
