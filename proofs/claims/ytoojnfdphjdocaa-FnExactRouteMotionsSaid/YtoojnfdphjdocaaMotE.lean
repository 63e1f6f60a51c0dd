/- The directions of a motion, one after the other, the program. -/
import Derived.Test.YtoojnfdphjdocaaMotD
import Derived.Deep.AppendLies
import Derived.Laws.OwnMore
namespace Go.Proofs.Ytoojnfdphjdocaa
open Go.RowKit
/-- the directions after 0, 1, .. k steps -/
def trk (s : Int) (xs : List Int) (k : Nat) : List Int := (List.range (k + 1)).map (dirAt s xs)
theorem trk_snoc (s : Int) (xs : List Int) (k : Nat) : trk s xs (k + 1) = trk s xs k ++ [dirAt s xs (k + 1)] := by
  unfold trk
  rw [List.range_succ, List.map_append]
  rfl
theorem own_base {w : World} {base g cap n : Nat} {e : TypeId} {size : Nat} {ys : List Value} (h : w.ownsRow base e size (.slice (some ⟨g, 0, none⟩) n cap) n ys) : base ≤ g := by
  rcases h.2 with ⟨h', _⟩ | ⟨g', cap', cur, h', hb, _⟩
  · simp at h'
  · simp only [Value.slice.injEq, Option.some.injEq, Addr.mk.injEq, and_true, true_and] at h'
    omega
theorem own_sv {w : World} {base g cap k : Nat} {e : TypeId} {s : Int} {xs : List Int} (h : w.ownsRow base e 1 (.slice (some ⟨g, 0, none⟩) (k + 1) cap) (k + 1) ((trk s xs k).map (Value.int .i64))) : SV (.int .i64) w w.heap.size (some ⟨g, 0, none⟩) (trk s xs k) := by
  have hl : (trk s xs k).length = k + 1 := by simp [trk]
  have hc : ∀ j x, (trk s xs k)[j]? = some x → w.cell? ⟨g, j, none⟩ = some (.int .i64 x) := fun j x hj => by
    rw [h.cellAt j (by have := lt_of_at hj; omega), List.getElem?_map, hj]; rfl
  intro hp
  obtain ⟨x0, hx0⟩ := at_of_lt hp
  have h0 := lt_of_cell (hc 0 x0 hx0)
  exact ⟨g, 0, rfl, h0, fun j x hj => by rw [Nat.zero_add]; exact hc j x hj⟩
def RetTrk (s : Int) (xs : List Int) (w : World) (e : Ending) (w' : World) : Prop := ∃ g cap, e = .returned (.slice (some ⟨g, 0, none⟩) (xs.length + 1) cap) ∧ SV (.int .i64) w' w'.heap.size (some ⟨g, 0, none⟩) (trk s xs xs.length) ∧ Below w.heap.size w w'
set_option maxHeartbeats 2000000 in
set_option maxRecDepth 20000 in
theorem track_any (s : Int) (A : Option Addr) (c : Nat) (xs : List Int) (w : World) (hok : okM s xs = true) (h : SV (.int .i64) w w.heap.size A xs) : Calls Try.prog 56 #[.agg #[.int .i64 s, .slice A xs.length c]] w (RetTrk s xs w) := by
  obtain ⟨hs, hn, hx⟩ := okM_t hok
  have HXS := Lib.hid hx
  have H := Lib.hid h
  clear h hx hok
  obtain ⟨i0, hi, hz0, hz1, hz2⟩ := info_parts infoInt
  obtain ⟨n, hn'⟩ : ∃ n, xs.length = n := ⟨_, rfl⟩
  have HN := Lib.hid hn'
  rw [hn'] at hn ⊢
  clear hn'
  go_enter Try.func56, Try.ntmps56
  go_wp2_with fail
  go_loopw [3, 12] (fun v i wr => ∃ (k g cap : Nat), k ≤ n ∧ i = .int .i64 k ∧ v = .slice (some ⟨g, 0, none⟩) (k + 1) cap ∧ wr.ownsRow (w.heap.size + 1) 2 1 (.slice (some ⟨g, 0, none⟩) (k + 1) cap) (k + 1) ((trk s xs k).map (Value.int .i64)) ∧ Below w.heap.size w wr) (fun _ i _ => n - (intOf i).toNat)
  case atStart =>
    refine ⟨0, w.heap.size + 1, 1, by omega, rfl, rfl, ?_, gr_alloc (gr_alloc (gr_refl w))⟩
    have h0 := World.ownsRow_lit (base := w.heap.size + 1) (e := 2) (size := 1) (w.alloc (.cells #[.int .i64 s, .slice A n c] 27)) #[.int .i64 s] 1 (by simp) (by unfold maxLen; omega) rfl
    simp only [World.size_alloc] at h0
    exact h0
  case round =>
    obtain ⟨k, g, cap, hk, rfl, rfl, hown, hbe⟩ := hrel
    have hb := dirAt_bd hs xs k
    by_cases hlt : k < n
    · obtain ⟨x, hx⟩ := at_of_lt (xs := xs) (k := k) (by rw [HN.out]; exact hlt)
      obtain ⟨b2, off, rfl, hB, hc⟩ := (H.out.below hbe).at_ hx
      have hxb := HXS.out k x hx
      have HST := Lib.hid (dirAt_step (s := s) hx)
      clear hx
      have hcd : wr.cell? ⟨g, k, none⟩ = some (.int .i64 (dirAt s xs k)) := by rw [hown.cellAt k (by omega)]; simp [trk]
      have HO := Lib.hid hown
      have HB := Lib.hid hbe
      clear hown hbe
      go_wp2_with (first | (at_builtin; refine wpList_append_lies _ rfl _ _ _ rfl (w.heap.size + 1) 2 i0 (.int .i64 0) 1 8 Try.underlying22 hi hz0 hz1 hz2 rfl (by omega) (.slice (some ⟨g, 0, none⟩) (k + 1) cap) (k + 1) ((trk s xs k).map (Value.int .i64)) rfl (HO.out.alloc _) ⟨wr.heap.size, 0, none⟩ 1 1 [.int .i64 ((dirAt s xs k + x) % 24)] rfl rfl (World.news_of_block (heap_alloc_new wr _)) (by simp [Value.oneCell']) (by omega) (by unfold maxLen; omega) (by omega) (by have := HB.out.size; simp only [World.size_alloc]; omega) (wr.heap.size + 1) (by simp) ?_; intro g2 cap2 w2 hown2 hgrow hat hlt2) | (go_at_call 84; (with_reducible refine (turned_any _ _ _ (by omega) (by omega)).mono ?_); rintro e w1 ⟨rfl, rfl⟩))
      go_roundw
      case rel => exact ⟨k + 1, g2, cap2, by omega, by go_num, rfl, by rw [trk_snoc, List.map_append, HST.out]; exact hown2, (gr_alloc HB.out).grown hgrow (by have := HB.out.size; simp only [World.size_alloc]; omega) (fun k' hk' => by have := own_base HO.out; simp [Value.ownBlock] at hk'; omega)⟩
      case measure => simp [intOf]; omega
    · obtain rfl : k = n := by omega
      have HO := Lib.hid hown
      have HB := Lib.hid hbe
      clear hown hbe
      go_wp2
      go_ret
      exact ⟨g, cap, by rw [HN.out]; first | done | rfl, by rw [HN.out]; exact own_sv HO.out, HB.out⟩
end Go.Proofs.Ytoojnfdphjdocaa
