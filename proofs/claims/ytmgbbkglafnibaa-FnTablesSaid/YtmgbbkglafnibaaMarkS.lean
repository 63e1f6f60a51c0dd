/- The laws' functions on slices of strings: comparisons, marks. -/
import Derived.Test.YtmgbbkglafnibaaDec
import Derived.Test.YtmgbbkglafnibaaGrow
import Derived.Test.YtmgbbkglafnibaaTabW
namespace Go.Proofs.Ytmgbbkglafnibaa
open Go.RowKit Go.Deep
theorem strInfo : (Try.prog.info? 9).map (fun i => (i.zero, i.size, i.bytes)) = some (some (.string ⟨#[]⟩), 1, 16) := by kernel_rfl
/-- the mark's text -/
def mkS (k : Nat) : ByteArray := ⟨#[109]⟩ ++ strB (dgs k)
def mkSs (k n : Nat) : List ByteArray := (List.range n).map fun j => mkS (k + j)
theorem mkSs_len (k n : Nat) : (mkSs k n).length = n := by simp [mkSs]
theorem mkSs_at {k n j : Nat} (h : j < n) : (mkSs k n)[j]? = some (mkS (k + j)) := by simp [mkSs, h]
theorem mkSs_succ (k n : Nat) : mkSs k (n + 1) = mkSs k n ++ [mkS (k + n)] := by simp [mkSs, List.range_succ]
theorem mkSs_put {k : Nat} {xs : List ByteArray} {j : Nat} (h : j < xs.length) : (mkSs k j ++ xs.drop j).set j (mkS (k + j)) = mkSs k (j + 1) ++ xs.drop (j + 1) := by
  have hl := mkSs_len k j
  rw [List.set_append_right _ _ (by omega), hl, Nat.sub_self, mkSs_succ, List.append_assoc, List.drop_eq_getElem_cons h]
  rfl
theorem mkSs_here {k : Nat} {xs : List ByteArray} {j : Nat} {x : ByteArray} (h : xs[j]? = some x) : (mkSs k j ++ xs.drop j)[j]? = some x := by
  have hl := mkSs_len k j
  rw [List.getElem?_append_right (by omega), hl, Nat.sub_self, List.getElem?_drop, Nat.add_zero, h]
set_option maxHeartbeats 4000000 in
set_option maxRecDepth 20000 in
theorem markText_any (n : Nat) (hn0 : 1 ≤ n) (hn : n ≤ 1000000) (w : World) : Calls Try.prog 58 #[.int .i64 (n : Int)] w fun e w' => e = .returned (.string (mkS n)) ∧ Below w.heap.size w w' := by
  have hd0 : decide ((n : Int) ≤ 0) = false := decide_eq_false (by omega)
  go_enter Try.func58, Try.ntmps58
  go_wp2
  go_loopw [0, 3] (fun k o wr => ∃ (u : Nat) (l : List UInt8), u ≤ n ∧ k = .int .i64 (u : Int) ∧ o = .string (strB l) ∧ Hid (dgs n = dgs u ++ l) ∧ Below w.heap.size w wr) (fun k _ _ => (intOf k).toNat)
  case atStart => exact ⟨n, [], Nat.le_refl _, rfl, rfl, by simp [Hid], gr_refl w⟩
  case round =>
    obtain ⟨u, l, hu, rfl, rfl, HD, hbe⟩ := hrel
    have HB := Lib.hid hbe
    have hlen : l.length ≤ 20 := by have h1 := dgs_20 (u := n) (by omega); rw [HD.out, List.length_append] at h1; omega
    have hss : (strB l).size ≤ 20 := by rw [strB_size]; exact hlen
    clear hbe
    by_cases h0 : u = 0
    · subst h0
      have HT := Lib.hid (show mkS n = ⟨#[109]⟩ ++ strB l by unfold mkS; rw [HD.out, dgs_zero]; rfl)
      simp only [show ((0 : Nat) : Int) = 0 from rfl]
      go_wp2
      go_ret
      exact ⟨by first | (rw [HT.out]; done) | (rw [HT.out]; rfl), HB.out⟩
    · have hu1 : 0 < (u : Int) := by omega
      have hm0 : 0 ≤ (u : Int) % 10 := by omega
      have hm1 : (u : Int) % 10 ≤ 9 := by omega
      have htx : (convert 45 9 (.slice (some ⟨wr.heap.size, 0, none⟩) 1 1)).run Try.prog (wr.alloc (.cells #[.int .u8 (48 + (u : Int) % 10)] 5)) = .ok (.string (strB [dgB u])) (wr.alloc (.cells #[.int .u8 (48 + (u : Int) % 10)] 5)) := by
        have h8 : RS bF 5 (wr.alloc (.cells #[.int .u8 (48 + (u : Int) % 10)] 5)) wr.heap.size (wr.heap.size + 1) (some ⟨wr.heap.size, 0, none⟩) 1 [dgB u] := by rw [dgB_F]; exact RS.of_bv (xs := [dgB u]) (heap_alloc_new wr _) (Nat.le_refl _) (Nat.lt_succ_self _) (by unfold maxLen; simp)
        exact h8.text (by simp) 45 9 5 Try.underlying45 Try.underlying5 Try.underlying9
      have HS := Lib.hid (dgs_succ h0)
      have hs1 : (strB [dgB u]).size = 1 := by rw [strB_size]; rfl
      have hs2 : (strB [dgB u]).size ≤ 1 := by omega
      clear h0 hs1
      go_wp2
      go_roundw
      case rel => exact ⟨u / 10, dgB u :: l, by omega, by first | rfl | go_num, by have h9 := strB_app [dgB u] l; exact congrArg Value.string h9, by rw [HD.out, HS.out, List.append_assoc]; rfl, gr_alloc HB.out⟩
      case measure => simp [intOf]; omega
set_option maxHeartbeats 4000000 in
theorem markStringS_any (A : Option Addr) (c : Nat) (xs : List ByteArray) (k : Nat) (lo hi : Nat) (w : World) (hn : xs.length ≤ 1000) (hk : 1 ≤ k ∧ k ≤ 1000) (h : RS .string 9 w lo hi A c xs) :
    Calls Try.prog 35 #[.slice A xs.length c, .int .i64 (k : Int)] w fun e w' => e = .returned (.int .i64 ((k : Int) + xs.length)) ∧ RS .string 9 w' lo hi A c (mkSs k xs.length) ∧ Only lo hi w w' := by
  have H := Lib.hid h
  clear h
  obtain ⟨n, hn'⟩ : ∃ n, xs.length = n := ⟨_, rfl⟩
  have HN := Lib.hid hn'
  rw [hn'] at hn ⊢
  clear hn'
  obtain ⟨hk0, hk1⟩ := hk
  go_enter Try.func35, Try.ntmps35
  go_wp2
  go_loopw [1, 5] (fun kv i wr => ∃ j : Nat, j ≤ n ∧ i = .int .i64 j ∧ kv = .int .i64 ((k : Int) + (j : Int)) ∧ RS .string 9 wr lo hi A c (mkSs k j ++ xs.drop j) ∧ Only lo hi w wr) (fun _ i _ => n - (intOf i).toNat)
  case atStart => exact ⟨0, by omega, rfl, by simp, by simpa [mkSs] using H.out, Only.refl _ _ _⟩
  case round =>
    obtain ⟨j, hj, rfl, rfl, hrs, hon⟩ := hrel
    by_cases hlt : j < n
    · obtain ⟨x, hx⟩ := at_of_lt (xs := xs) (k := j) (by rw [HN.out]; exact hlt)
      have HX := Lib.hid (mkSs_here (k := k) hx)
      have HR := Lib.hid hrs
      have HO := Lib.hid hon
      clear hrs hon hx
      have HMT : Hid (∀ w : World, Calls Try.prog 58 #[.int .i64 ((k : Int) + (j : Int))] w fun e w' => e = .returned (.string (mkS (k + j))) ∧ Below w.heap.size w w') := fun w => markText_any (k + j) (by omega) (by omega) w
      go_wp2_with fail
      go_at_call 58
      (with_reducible refine (HMT.out _).mono ?_)
      rintro e w1 ⟨rfl, hb⟩
      obtain ⟨g, ea, hg1, hg2, hc, hf, hrs2, hon2⟩ := (HR.out.late hb).put HX.out (mkS (k + j))
      subst ea
      rw [mkSs_put (by rw [HN.out]; exact hlt)] at hrs2
      have HR2 := Lib.hid hrs2
      have HO2 := Lib.hid ((HO.out.trans (Only.of_below hb)).trans hon2)
      clear hrs2 hon2 hb
      go_wp2
      go_roundw
      case rel => exact ⟨j + 1, by omega, by go_num, by go_num, HR2.out, HO2.out⟩
      case measure => simp [intOf]; omega
    · obtain rfl : j = n := by omega
      have HR := Lib.hid hrs
      have HO := Lib.hid hon
      clear hrs hon
      go_wp2
      go_ret
      exact ⟨rfl, by have h := HR.out; rw [List.drop_of_length_le (by rw [HN.out]; omega), List.append_nil] at h; exact h, HO.out⟩
set_option maxHeartbeats 4000000 in
theorem heldStringS_any (A : Option Addr) (c : Nat) (k n : Nat) (w : World) (hn : n ≤ 1000) (hk : 1 ≤ k ∧ k ≤ 1000) (h : SV .string w w.heap.size A (mkSs k n)) :
    Calls Try.prog 36 #[.slice A n c, .int .i64 (k : Int)] w fun e w' => e = .returned (.int .i64 ((k : Int) + n)) ∧ Below w.heap.size w w' := by
  have H := Lib.hid h
  clear h
  obtain ⟨hk0, hk1⟩ := hk
  go_enter Try.func36, Try.ntmps36
  go_wp2
  go_loopw [1, 5] (fun kv i wr => ∃ j : Nat, j ≤ n ∧ i = .int .i64 j ∧ kv = .int .i64 ((k : Int) + (j : Int)) ∧ Below w.heap.size w wr) (fun _ i _ => n - (intOf i).toNat)
  case atStart => exact ⟨0, by omega, rfl, by simp, gr_refl w⟩
  case round =>
    obtain ⟨j, hj, rfl, rfl, hbe⟩ := hrel
    have HB := Lib.hid hbe
    by_cases hlt : j < n
    · obtain ⟨b, off, rfl, hB, hc⟩ := (H.out.below hbe).at_ (mkSs_at (k := k) hlt)
      clear hbe
      have HMT : Hid (∀ w : World, Calls Try.prog 58 #[.int .i64 ((k : Int) + (j : Int))] w fun e w' => e = .returned (.string (mkS (k + j))) ∧ Below w.heap.size w w') := fun w => markText_any (k + j) (by omega) (by omega) w
      have i0 : (0 : Int) ≤ (j : Int) := by omega
      have i1 : (j : Int) < (n : Int) := by omega
      go_wp2
      have gw0 : ∀ X, (grw wr X).cell? ⟨b, off + j, none⟩ = some (.string (mkS (k + j))) := grw_cell hc
      refine wp_region_grow (by kernel_rfl) (by kernel_rfl) ?_
      repeat (go_big_quiet_step (((go_at_call 58; (with_reducible refine grow_of (HMT.out _))))))
      refine wpQuiet_nil ?_
      rintro wq ⟨X, hX⟩
      have HA := Lib.hid (show Below wr.heap.size wr wq by rw [hX]; exact grw_below _ _)
      clear hX gw0
      go_wp2
      go_roundw
      case rel => exact ⟨j + 1, by omega, by go_num, by go_num, gr_then HA.out HB.out⟩
      case measure => simp [intOf]; omega
    · obtain rfl : j = n := by omega
      clear hbe
      go_wp2
      go_ret
      exact ⟨rfl, HB.out⟩
theorem markStringS_one (A : Option Addr) (c : Nat) (xs : List ByteArray) (lo hi : Nat) (w : World) (hn : xs.length ≤ 1000) (h : RS .string 9 w lo hi A c xs) :
    Calls Try.prog 35 #[.slice A xs.length c, .int .i64 1] w fun e w' => e = .returned (.int .i64 (1 + (xs.length : Int))) ∧ RS .string 9 w' lo hi A c (mkSs 1 xs.length) ∧ Only lo hi w w' := markStringS_any A c xs 1 lo hi w hn ⟨Nat.le_refl _, by omega⟩ h
theorem heldStringS_one (A : Option Addr) (c : Nat) (n : Nat) (w : World) (hn : n ≤ 1000) (h : SV .string w w.heap.size A (mkSs 1 n)) :
    Calls Try.prog 36 #[.slice A n c, .int .i64 1] w fun e w' => e = .returned (.int .i64 (1 + (n : Int))) ∧ Below w.heap.size w w' := heldStringS_any A c 1 n w hn ⟨Nat.le_refl _, by omega⟩ h
set_option maxHeartbeats 4000000 in
theorem eqStringS_same (A A' : Option Addr) (c c' : Nat) (xs : List ByteArray) (w : World) (hn : xs.length ≤ 1048576) (h : SV .string w w.heap.size A xs) (h' : SV .string w w.heap.size A' xs) : Calls Try.prog 34 #[.slice A xs.length c, .slice A' xs.length c'] w fun e w' => e = .returned (.bool true) ∧ ∃ q, w' = w.drewN q := by
  have H := Lib.hid h
  have H' := Lib.hid h'
  clear h h'
  obtain ⟨n, hn'⟩ : ∃ n, xs.length = n := ⟨_, rfl⟩
  have HN := Lib.hid hn'
  rw [hn'] at hn ⊢
  clear hn'
  go_enter Try.func34, Try.ntmps34
  go_wp2
  go_loopw [5] (fun i wr => ∃ k : Nat, k ≤ n ∧ i = .int .i64 k ∧ ∃ q, wr = w.drewN q) (fun i _ => n - (intOf i).toNat)
  case atStart => exact ⟨0, by omega, rfl, 0, rfl⟩
  case round =>
    obtain ⟨k, hk, rfl, q, rfl⟩ := hrel
    by_cases hlt : k < n
    · obtain ⟨x, hx⟩ := at_of_lt (xs := xs) (k := k) (by rw [HN.out]; exact hlt)
      obtain ⟨b, off, rfl, hB, hc⟩ := H.out.at_ hx
      obtain ⟨b', off', rfl, hB', hc'⟩ := H'.out.at_ hx
      clear hx
      have i0 : (0 : Int) ≤ (k : Int) := by omega
      have i1 : (k : Int) < (n : Int) := by omega
      go_wp2
      go_quiet (fail)
      go_wp2
      go_roundw
      case rel => exact ⟨k + 1, by omega, by go_num, _, rfl⟩
      case measure => simp [intOf]; omega
    · obtain rfl : k = n := by omega
      go_wp2
      go_ret
      exact ⟨rfl, q, rfl⟩
end Go.Proofs.Ytmgbbkglafnibaa
