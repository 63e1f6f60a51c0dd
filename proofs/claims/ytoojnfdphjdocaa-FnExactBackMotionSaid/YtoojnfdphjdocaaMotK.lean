/- BackMotion, the reference. -/
import Derived.Test.YtoojnfdphjdocaaMotI
import Derived.Deep.RegionLaw
namespace Go.Proofs.Ytoojnfdphjdocaa
open Go.RowKit
def negs (xs : List Int) : List Int := xs.reverse.map fun x => -x
def bmC (s : Int) (xs : List Int) : Int := if okM s xs = true then 0 else 1
def bmS (s : Int) (xs : List Int) : Int := if okM s xs = true then dirAt s xs xs.length else 0
def bmX (s : Int) (xs : List Int) : List Int := if okM s xs = true then negs xs else []
theorem negs_len (xs : List Int) : (negs xs).length = xs.length := by simp [negs]
theorem bmX_len {s : Int} {xs : List Int} : (bmX s xs).length ≤ 200 := by
  unfold bmX
  split
  · rename_i h
    rw [negs_len]; exact (okM_t h).2.1
  · simp
theorem negs_step {xs : List Int} {n j : Nat} {x : Int} (hn : xs.length = n) (hj : j < n) (hx : xs[n - 1 - j]? = some x) : (negs xs).take (j + 1) = (negs xs).take j ++ [-x] := by
  have h : (negs xs)[j]? = some (-x) := by
    unfold negs
    rw [List.getElem?_map, List.getElem?_reverse (by omega), hn, hx]; rfl
  rw [List.take_add_one, h]; rfl
theorem negs_all {xs : List Int} {n : Nat} (hn : xs.length = n) : (negs xs).take n = negs xs := List.take_of_length_le (by rw [negs_len]; omega)
set_option maxHeartbeats 8000000 in
set_option maxRecDepth 20000 in
theorem specBm_n (s : Int) (A : Option Addr) (c n : Nat) (xs : List Int) (w : World) (HN : Hid (xs.length = n)) (hn : n ≤ 1048576) (h : SV (.int .i64) w w.heap.size A xs) : Calls Try.prog 26 #[.agg #[.int .i64 s, .slice A n c]] w (RetM (bmS s xs) (bmX s xs) (bmC s xs) 2 w) := by
  obtain ⟨i0, hi, hz0, hz1, hz2⟩ := info_parts infoInt
  have hw0 : Below w.heap.size w ((w.alloc (.cells #[.int .i64 s, .slice A n c] 27)).alloc (.cells #[.int .i64 0, .slice none 0 0] 27)) := by repeat' first | exact gr_refl _ | with_reducible assumption | with_reducible apply gr_alloc | with_reducible apply gr_set | with_reducible apply gr_drew | with_reducible apply gr_drewN | exact Nat.le_add_right _ _ | exact Nat.le_refl _ | (refine gr_then (by with_reducible assumption) ?_)
  have H := Lib.hid (h.later hw0)
  clear h hw0
  have HX0 := Lib.hid (show Box2 ((w.alloc (.cells #[.int .i64 s, .slice A n c] 27)).alloc (.cells #[.int .i64 0, .slice none 0 0] 27)) (w.heap.size) 27 (.int .i64 s) (.slice A n c) by have h := (Box2.new (w) 27 (.int .i64 s) (.slice A n c)).late (gr_alloc (o := .cells #[.int .i64 0, .slice none 0 0] 27) (gr_refl _)); (try simp only [World.size_alloc] at h); exact h)
  have q0_0 := HX0.out.c0
  have q0_1 := HX0.out.c1
  have HX1 := Lib.hid (show Box2 ((w.alloc (.cells #[.int .i64 s, .slice A n c] 27)).alloc (.cells #[.int .i64 0, .slice none 0 0] 27)) (w.heap.size + 1) 27 (.int .i64 0) (.slice none 0 0) by have h := Box2.new (w.alloc (.cells #[.int .i64 s, .slice A n c] 27)) 27 (.int .i64 0) (.slice none 0 0); (try simp only [World.size_alloc] at h); exact h)
  have q1_0 := HX1.out.c0
  have q1_1 := HX1.out.c1
  have HB := Lib.hid (show Below w.heap.size w ((w.alloc (.cells #[.int .i64 s, .slice A n c] 27)).alloc (.cells #[.int .i64 0, .slice none 0 0] 27)) by repeat' first | exact gr_refl _ | with_reducible assumption | with_reducible apply gr_alloc | with_reducible apply gr_set | with_reducible apply gr_drew | with_reducible apply gr_drewN | exact Nat.le_add_right _ _ | exact Nat.le_refl _ | (refine gr_then (by with_reducible assumption) ?_))
  have hz : w.heap.size + 2 ≤ ((w.alloc (.cells #[.int .i64 s, .slice A n c] 27)).alloc (.cells #[.int .i64 0, .slice none 0 0] 27)).heap.size := by simp
  have r2 := HX1.out.f0 0
  have r3 := HX1.out.f0 1
  have HO : Hid (∀ b w, w.cell? ⟨b, 0, none⟩ = some (.int .i64 s) → w.cell? ⟨b, 1, none⟩ = some (.slice A n c) → SV (.int .i64) w w.heap.size A xs → Calls Try.prog 49 #[.pointer (some ⟨b, 0, none⟩)] w fun e w' => e = .returned (.bool (okM s xs)) ∧ w = w') := fun b w h1 h2 h3 => l16Ok_any b s A c xs w (by rw [HN.out]; exact hn) h1 (by rw [HN.out]; exact h2) h3
  by_cases k1 : okM s xs = true
  case neg =>
    have k1 := (Bool.not_eq_true _).mp k1
    rw [show bmS s xs = 0 by simp [bmS, k1], show bmX s xs = [] by simp [bmX, k1], show bmC s xs = 1 by simp [bmC, k1]]
    rw [k1] at HO
    clear k1
    go_enter Try.func26, Try.ntmps26; go_wp2_with fail
    generalize (w.alloc (.cells #[.int .i64 s, .slice A n c] 27)).alloc (.cells #[.int .i64 0, .slice none 0 0] 27) = v0 at *
    go_at_call 49
    (with_reducible refine (HO.out _ _ q0_0 q0_1 H.out).mono ?_)
    rintro e u1 ⟨rfl, rfl⟩
    go_wp2
    refine bodyPost_ret (v := .tuple #[.agg #[.int .i64 0, .slice none 0 0], .int .i64 1]) (by simp [results, Try.results26, go_sem, *]) rfl ⟨none, 0, rfl, RS.nil, ?_⟩
    have := HB.out
    repeat' first | exact gr_refl _ | with_reducible assumption | with_reducible apply gr_alloc | with_reducible apply gr_drew | with_reducible apply gr_drewN | (refine gr_set (by dsimp only; omega) ?_)
  have K1 := Lib.hid k1
  have hn2 : n ≤ 200 := HN.out ▸ (okM_t k1).2.1
  have HXS := Lib.hid (okM_t k1).2.2
  rw [show bmS s xs = dirAt s xs xs.length by simp [bmS, k1], show bmX s xs = negs xs by simp [bmX, k1], show bmC s xs = 0 by simp [bmC, k1], HN.out]
  have HE : Hid (∀ b w, w.cell? ⟨b, 0, none⟩ = some (.int .i64 s) → w.cell? ⟨b, 1, none⟩ = some (.slice A n c) → SV (.int .i64) w w.heap.size A xs → Calls Try.prog 65 #[.pointer (some ⟨b, 0, none⟩)] w fun e w' => e = .returned (.int .i64 (dirAt s xs n)) ∧ w = w') := fun b w h1 h2 h3 => by have h4 := l16End_any b s A c xs w K1.out h1 (by rw [HN.out]; exact h2) h3; rw [HN.out] at h4; exact h4
  rw [k1] at HO
  clear k1
  go_enter Try.func26, Try.ntmps26; go_wp2_with fail
  generalize (w.alloc (.cells #[.int .i64 s, .slice A n c] 27)).alloc (.cells #[.int .i64 0, .slice none 0 0] 27) = v0 at *
  go_at_call 49
  (with_reducible refine (HO.out _ _ q0_0 q0_1 H.out).mono ?_)
  rintro e u1 ⟨rfl, rfl⟩
  have t0 := fun o1 o2 => keepc (gr_alloc (o := o2) (gr_alloc (o := o1) (gr_refl v0))) q0_1
  go_wp2_with (go_at_call 65; (with_reducible refine (HE.out _ _ q0_0 q0_1 H.out).mono ?_); rintro e u2 ⟨rfl, rfl⟩)
  clear t0
  obtain ⟨D, hD⟩ : ∃ D, dirAt s xs n = D := ⟨_, rfl⟩
  have HD := Lib.hid hD
  rw [hD]
  clear hD
  obtain ⟨m, hm⟩ : ∃ m, v0.heap.size + 1 = m := ⟨_, rfl⟩
  have HMM := Lib.hid hm
  have hML := Lib.hid (show v0.heap.size + 1 ≤ m ∧ m ≤ v0.heap.size + 1 by omega)
  rw [hm]
  clear hm
  go_loopw [5] (fun i wr => ∃ (j g q : Nat), j ≤ n ∧ i = .int .i64 ((n : Int) - 1 - (j : Int)) ∧ g ≠ m ∧ RS (.int .i64) 2 wr v0.heap.size wr.heap.size (some ⟨g, 0, none⟩) q ((negs xs).take j) ∧ Box2 wr m 27 (.int .i64 D) (.slice (some ⟨g, 0, none⟩) j q) ∧ Below v0.heap.size v0 wr) (fun i _ => (intOf i + 1).toNat)
  case atStart =>
    refine ⟨0, v0.heap.size, 0, by omega, by simp, by have := hML.out; omega, ?_, ?_, gr_alloc (gr_alloc (gr_refl _))⟩
    · exact ((RS.lit0 (f := Value.int .i64) (e := 2) v0).late (gr_alloc (gr_refl _))).top
    · have h := Box2.new (v0.alloc (.cells #[] 2)) 27 (.int .i64 D) (.slice (some ⟨v0.heap.size, 0, none⟩) 0 0); rw [World.size_alloc, HMM.out] at h; exact h
  case round =>
    obtain ⟨j, g, q, hj, rfl, hne, hr, hbx, hbe⟩ := hrel
    have HR := Lib.hid hr
    have HM := Lib.hid hbx
    have HB2 := Lib.hid hbe
    have hmz := hML.out
    have hml := hbx.lt
    have hgl := hr.ge
    have hzz := hbe.size
    have p0 := hbx.c0
    have p1 := hbx.c1
    replace q0_0 := keepc hbe q0_0
    replace q0_1 := keepc hbe q0_1
    clear hr hbx hbe
    by_cases hlt : j < n
    · obtain ⟨x, hx⟩ := at_of_lt (xs := xs) (k := n - 1 - j) (by rw [HN.out]; omega)
      obtain ⟨b2, off, rfl, hBb, hc⟩ := (H.out.later HB2.out).at_ hx
      have hxb := HXS.out _ x hx
      have HST := Lib.hid (negs_step HN.out hlt hx)
      clear hx
      obtain ⟨k, hk⟩ : ∃ k, n - 1 - j = k := ⟨_, rfl⟩
      rw [hk] at hc
      have hk2 : (n : Int) - 1 - (j : Int) = (k : Int) := by omega
      rw [hk2]
      have j0 : (0 : Int) ≤ (k : Int) := by omega
      have j1 : (k : Int) < (n : Int) := by omega
      have HK2 := Lib.hid hk2
      clear hk2 hk
      have t1 := fun o => keepc (gr_alloc (o := o) (gr_refl wr)) p1
      have ng : IntKind.i64.wrap (-x) = -x := IntWalk.i64_in _ (by omega)
      go_wp2
      go_region_law ((refine step_app (by rfl) _ _ _ (by rfl) (v0.heap.size) 2 i0 (.int .i64 0) 8 Try.underlying22 hi hz0 hz1 hz2 (by rfl) (Value.int .i64) (fun _ => rfl) (some ⟨g, 0, none⟩) (j) (q) ((negs xs).take j) (wr.heap.size) (by rfl) (by rw [List.length_take, negs_len, HN.out]; omega) (HR.out.late (gr_drew (gr_alloc (gr_refl wr)))) (some ⟨wr.heap.size, 0, none⟩) (1) (1) ([-x]) _ (by rfl) (by rfl) ((SV.of_new wr).keep (fun _ _ => rfl)) (fun h => by cases h) (by unfold maxLen; omega) (by omega) ((gr_drew (gr_alloc HB2.out)).size) ?_; intro A2 c2 w2 hr2 hgrow hblk; obtain ⟨g2, rfl, hg2, _, _⟩ := hr2.isAt (by simp); have hX : Below v0.heap.size v0 (wr.alloc (.cells #[.int .i64 (-x)] 2)).drew := gr_drew (gr_alloc HB2.out); have hne2 : g2 ≠ m := (by have hq : ((wr.alloc (.cells #[.int .i64 (-x)] 2)).drew).heap.size = wr.heap.size + 1 := (by simp); simp only [Option.some.injEq, Addr.mk.injEq, and_true] at hblk; omega); have hbm := (HM.out.late (gr_drew (gr_alloc (gr_refl wr)))).grown hgrow (by simp; omega); have p3 := hbm.c1; have p4 := hbm.f0 1; have HM2 := Lib.hid hbm; have HR2 := Lib.hid hr2; have HB3 := Lib.hid (((HR.out.late (gr_drew (gr_alloc (gr_refl wr)))).after hX hgrow (by have := hX.size; omega) (Nat.le_refl _))); clear hbm hr2 hgrow hblk hX))
      all_goals
        go_wp2
        go_roundw
        case rel => exact ⟨j + 1, g2, c2, by omega, by have := HK2.out; apply congrArg; omega, hne2, by rw [HST.out]; exact (HR2.out.far (p := ⟨m, 1, none⟩) (by intro g' hg' he'; simp at hg' he'; omega) _).wide (Nat.le_refl _) (by simp), HM2.out.put1 _, HB3.out.setCell (by simp; omega) _⟩
        case measure => first | (simp [intOf]; done) | (simp [intOf]; omega)
    · obtain rfl : j = n := by omega
      have hbr := HX1.out.late HB2.out
      have q6 := hbr.c0
      have q7 := hbr.c1
      have q8 := hbr.f0 0
      have q9 := hbr.f0 1
      clear hbr
      have hj1 : decide ((0 : Int) ≤ (j : Int) - 1 - (j : Int)) = false := decide_eq_false (by omega)
      go_wp2
      refine bodyPost_ret (v := .tuple #[.agg #[.int .i64 D, .slice (some ⟨g, 0, none⟩) j q], .int .i64 0]) (by simp [results, Try.results26, go_sem, *]) rfl ⟨some ⟨g, 0, none⟩, q, by rw [HD.out, negs_len, HN.out], ?_, ?_⟩
      · have h := HR.out
        rw [negs_all HN.out] at h
        exact ((h.far (p := ⟨w.heap.size + 1, 0, none⟩) (by intro g' hg' he'; simp at hg' he'; omega) _).far (p := ⟨w.heap.size + 1, 1, none⟩) (by intro g' hg' he'; simp at hg' he'; omega) _).wide (by omega) (by simp)
      · exact ((gr_then HB2.out HB.out).setCell (by simp) _).setCell (by simp) _
end Go.Proofs.Ytoojnfdphjdocaa
