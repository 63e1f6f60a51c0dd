/- strings.Join of fourteen words and a blank, by hand. -/
import Derived.Test.YtmalbgbmapfiiaaDoorBld
import Derived.Test.YtmalbgbmapfiiaaDoorDec
import Derived.Test.YtmalbgbmapfiiaaDoorShelf
namespace Go.Proofs.YtmalbgbmapfiiaaDoor
open Go.RowKit Go.Deep
/-- the words with blanks between -/
def jn : List (List UInt8) → List UInt8
  | [] => []
  | x :: xs => x ++ (xs.map fun y => 32 :: y).flatten
theorem jn_succ {ws : List (List UInt8)} {k : Nat} {x : List UInt8} (h : ws[k + 1]? = some x) : jn (ws.take (k + 2)) = jn (ws.take (k + 1)) ++ [32] ++ x := by
  cases ws with
  | nil => simp at h
  | cons a zs =>
    simp only [List.getElem?_cons_succ] at h
    simp only [List.take_succ_cons, jn]
    rw [List.take_add_one, h]
    simp
theorem jn_len {ws : List (List UInt8)} (h : ∀ x ∈ ws, x.length ≤ 100) : (jn ws).length ≤ 101 * ws.length := by
  cases ws with
  | nil => simp [jn]
  | cons a zs =>
    have h0 := h a (by simp)
    have h1 : ((zs.map fun y => 32 :: y).flatten).length ≤ 101 * zs.length := by
      have h2 : ∀ x ∈ zs, x.length ≤ 100 := fun x hx => h x (by simp [hx])
      clear h h0
      induction zs with
      | nil => simp
      | cons b bs ih =>
        have h3 := h2 b (by simp)
        have h4 := ih (fun x hx => h2 x (by simp [hx]))
        simp only [List.map_cons, List.flatten_cons, List.length_append, List.length_cons]
        omega
    simp only [jn, List.length_append, List.length_cons]
    omega
theorem IsB.len {w : World} {B b : Nat} {l : List UInt8} (_ : IsB w B b l) : True := trivial
set_option maxHeartbeats 8000000 in
set_option maxRecDepth 20000 in
theorem join_any (g : Nat) (ws : List (List UInt8)) (w : World) (hn : ws.length = 14) (hl : ∀ x ∈ ws, x.length ≤ 100) (hc : ∀ (j : Nat) x, ws[j]? = some x → w.cell? ⟨g, j, none⟩ = some (.string (strB x))) : Calls Tryd.prog 44 #[.slice (some ⟨g, 0, none⟩) 14 14, .string ⟨#[32]⟩] w fun e w' => e = .returned (.string (strB (jn ws))) ∧ Below w.heap.size w w' := by
  have HN := Lib.hid hn
  have HL := Lib.hid hl
  have HC := Lib.hid hc
  obtain ⟨x0, hx0⟩ := at_of_lt (xs := ws) (k := 0) (by omega)
  have hg : g < w.heap.size := lt_of_cell (hc 0 x0 hx0)
  have c0 := hc 0 x0 hx0
  have l0 := hl x0 (List.mem_of_getElem? hx0)
  have HX0 := Lib.hid hx0
  clear hn hl hc hx0
  have hs32 : (⟨#[32]⟩ : ByteArray).size = 1 := rfl
  go_enter Tryd.func44, Tryd.ntmps44
  go_wp2
  go_loop [5, 7, 41] (fun n v i => ∃ (k N : Nat), k ≤ 14 ∧ i = .int .i64 (k : Int) ∧ n = .int .i64 (N : Int) ∧ N ≤ 13 + 100 * k) (fun _ _ i => 14 - (intOf i).toNat)
  case atStart => exact ⟨0, 13, by omega, by simp, by simp, by omega⟩
  case round =>
    obtain ⟨k, N, hk, rfl, rfl, hN⟩ := hrel
    by_cases hlt : k < 14
    · obtain ⟨x, hx⟩ := at_of_lt (xs := ws) (k := k) (by rw [HN.out]; exact hlt)
      have hcx := HC.out k x hx
      have hlx := HL.out x (List.mem_of_getElem? hx)
      have hsx : (strB x).size ≤ 100 := by rw [strB_size]; exact hlx
      have i0 : (0 : Int) ≤ (k : Int) := by omega
      have i1 : (k : Int) < 14 := by omega
      clear c0 l0 hx
      go_wp2
      go_round
      case rel => exact ⟨k + 1, N + (strB x).size, by omega, by go_num, by go_num, by omega⟩
      case measure => simp [intOf]; omega
    · obtain rfl : k = 14 := by omega
      simp only [show ((14 : Nat) : Int) = 14 from rfl]
      have HG : Hid (Calls Tryd.prog 55 #[.pointer (some ⟨w.heap.size, 0, none⟩), .int .i64 (N : Int)] (w.alloc (.cells #[.pointer none, .slice none 0 0] 67)) fun e w' => e = .returned (.tuple #[]) ∧ (IsB w' w.heap.size w.heap.size [] ∧ Below w.heap.size (w.alloc (.cells #[.pointer none, .slice none 0 0] 67)) w')) := (Builder_Grow_fresh w.heap.size w.heap.size N (w.alloc (.cells #[.pointer none, .slice none 0 0] 67)) (Nat.le_refl _) (heap_alloc_new w _) (by simp) (by omega)).mono (by rintro e w' ⟨h1, h2, h3⟩; exact ⟨h1, .inr h2, h3⟩)
      have hb0 : Below w.heap.size w (w.alloc (.cells #[.pointer none, .slice none 0 0] 67)) := gr_alloc (gr_refl w)
      have HB0 := Lib.hid hb0
      have hz0 := hb0.size
      clear hb0 hN hlt hk c0
      go_wp2_with fail
      generalize (w.alloc (.cells #[.pointer none, .slice none 0 0] 67)) = v0 at *
      go_at_call 55
      (with_reducible refine HG.out.mono ?_)
      rintro e v1 ⟨rfl, hi, hb⟩
      have HB1 := Lib.hid (HB0.out.trans hb)
      have hz1 := hb.size
      have c0 := (HB1.out.cell (p := ⟨g, 0, none⟩) hg).trans (HC.out 0 x0 HX0.out)
      have HW : Hid (Calls Tryd.prog 56 #[.pointer (some ⟨w.heap.size, 0, none⟩), .string (strB x0)] v1 fun e w' => e = .returned (.tuple #[.int .i64 (((x0).length : Int)), .nilIface]) ∧ IsB w' w.heap.size w.heap.size ([] ++ x0) ∧ Below w.heap.size v1 w') := writeString_any w.heap.size w.heap.size [] x0 v1 hi (by simp) (by omega) (by omega)
      clear hi hb
      go_wp2_with fail
      go_at_call 56
      (with_reducible refine HW.out.mono ?_)
      rintro e v2 ⟨rfl, hi, hb⟩
      have HB2 := Lib.hid (HB1.out.trans hb)
      have HI2 := Lib.hid hi
      have hz2 := hb.size
      clear HW HG hi hb c0
      have HJ1 : Hid (jn (ws.take 1) = [] ++ x0) := by unfold Hid; have h9 := HX0.out; cases ws with | nil => simp at h9 | cons a zs => (simp at h9; subst h9; simp [jn])
      go_wp2_with fail
      go_loopw [10, 65] (fun v i wr => ∃ k : Nat, k ≤ 13 ∧ i = .int .i64 (k : Int) ∧ IsB wr w.heap.size w.heap.size (jn (ws.take (k + 1))) ∧ Below w.heap.size w wr) (fun _ i _ => 13 - (intOf i).toNat)
      case atStart => exact ⟨0, by omega, by simp, by rw [HJ1.out]; exact HI2.out, HB2.out⟩
      case round =>
        obtain ⟨k, hk, rfl, hi, hbe⟩ := hrel
        have HB := Lib.hid hbe
        have hzr := hbe.size
        have hjl : (jn (ws.take (k + 1))).length ≤ 2000 := by have h9 := jn_len (ws := ws.take (k + 1)) (fun x hx => HL.out x (List.mem_of_mem_take hx)); have h8 : (ws.take (k + 1)).length ≤ 14 := (by rw [List.length_take, HN.out]; omega); omega
        by_cases hlt : k < 13
        · obtain ⟨x, hx⟩ := at_of_lt (xs := ws) (k := k + 1) (by rw [HN.out]; omega)
          have hcx := (hbe.cell (p := ⟨g, k + 1, none⟩) hg).trans (HC.out (k + 1) x hx)
          have hcx2 := hcx
          rw [Nat.add_comm k 1] at hcx2
          have hlx := HL.out x (List.mem_of_getElem? hx)
          have HS := Lib.hid (jn_succ hx)
          have i0 : (0 : Int) ≤ (k : Int) := by omega
          have i1 : (k : Int) < 13 := by omega
          have HW : Hid (Calls Tryd.prog 56 #[.pointer (some ⟨w.heap.size, 0, none⟩), .string ⟨#[32]⟩] wr fun e w' => e = .returned (.tuple #[.int .i64 ((([32]).length : Int)), .nilIface]) ∧ IsB w' w.heap.size w.heap.size (jn (ws.take (k + 1)) ++ [32]) ∧ Below w.heap.size wr w') := writeString_any w.heap.size w.heap.size _ [32] wr hi (by omega) (by simp) hzr
          clear hx hi hbe
          go_wp2_with fail
          go_at_call 56
          (refine HW.out.mono ?_)
          rintro e v3 ⟨rfl, hi, hb⟩
          have HB3 := Lib.hid (HB.out.trans hb)
          have hz3 := HB3.out.size
          have HW2 : Hid (Calls Tryd.prog 56 #[.pointer (some ⟨w.heap.size, 0, none⟩), .string (strB x)] v3 fun e w' => e = .returned (.tuple #[.int .i64 (((x).length : Int)), .nilIface]) ∧ IsB w' w.heap.size w.heap.size (jn (ws.take (k + 1)) ++ [32] ++ x) ∧ Below w.heap.size v3 w') := writeString_any w.heap.size w.heap.size _ x v3 hi (by rw [List.length_append]; simp; omega) (by omega) hz3
          clear hi hb HW
          go_wp2_with fail
          go_at_call 56
          (with_reducible refine HW2.out.mono ?_)
          rintro e v4 ⟨rfl, hi, hb⟩
          have HI4 := Lib.hid hi
          have HB4 := Lib.hid (HB3.out.trans hb)
          clear hi hb HW2
          go_wp2
          go_roundw
          case rel => exact ⟨k + 1, by omega, by go_num, by rw [HS.out]; exact HI4.out, HB4.out⟩
          case measure => simp [intOf]; omega
        · obtain rfl : k = 13 := by omega
          simp only [show ((13 : Nat) : Int) = 13 from rfl]
          have HST : Hid (Calls Tryd.prog 57 #[.pointer (some ⟨w.heap.size, 0, none⟩)] wr fun e w' => e = .returned (.string (strB (jn ws))) ∧ Below w.heap.size wr w') := by have h9 := Builder_String_any w.heap.size w.heap.size _ wr hi hzr; rw [List.take_of_length_le (by rw [HN.out]; omega)] at h9; exact h9
          clear hi hbe hjl
          go_wp2_with (go_at_call 57; (with_reducible refine HST.out.mono ?_); rintro e w7 ⟨rfl, hb7⟩)
          go_ret
          exact ⟨rfl, HB.out.trans hb7⟩
end Go.Proofs.YtmalbgbmapfiiaaDoor
