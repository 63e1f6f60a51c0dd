/- DelayMotion, both sides. -/
import Derived.Test.YtoojnfdphjdocaaMotI
namespace Go.Proofs.Ytoojnfdphjdocaa
open Go.RowKit
set_option maxHeartbeats 4000000 in
set_option maxRecDepth 20000 in
theorem later_any (b : Nat) (s : Int) (A : Option Addr) (c : Nat) (xs : List Int) (k : Nat) (w : World) (hn : xs.length ≤ 200) (hk : k ≤ 200) (g : A = none → c = 0) (c0 : w.cell? ⟨b, 0, none⟩ = some (.int .i64 s)) (c1 : w.cell? ⟨b, 1, none⟩ = some (.slice A xs.length c)) (h : SV (.int .i64) w w.heap.size A xs) : Calls Try.prog 67 #[.pointer (some ⟨b, 0, none⟩), .int .i64 (k : Int)] w (RetM1 s (List.replicate k 0 ++ xs) 2 w) := by
  obtain ⟨i0, hi, hz0, hz1, hz2⟩ := info_parts infoInt
  have hmk := madeInt k (by omega)
  have HM : Hid (∀ v0 : World, RS (.int .i64) 2 (v0.alloc (.cells (Array.replicate k (.int .i64 0)) 2)) v0.heap.size (v0.heap.size + 1) (some ⟨v0.heap.size, 0, none⟩) k (List.replicate k 0)) := fun v0 => by have h := RS.of_bv (lo := v0.heap.size) (hi := v0.heap.size + 1) (BV.made (f := Value.int .i64) v0 2 k 0) (Nat.le_refl _) (Nat.lt_succ_self _) (by rw [List.length_replicate]; unfold maxLen; omega); rw [List.length_replicate] at h; exact h
  have hw0 : Below w.heap.size w (w.alloc (.cells #[.int .i64 0, .slice none 0 0] 27)) := gr_alloc (gr_refl w)
  have H := Lib.hid (h.later hw0)
  have G := Lib.hid g
  have hlb := lt_of_cell c0
  replace c0 := keepc hw0 c0
  replace c1 := keepc hw0 c1
  clear h hw0 g
  have HX0 := Lib.hid (show Box2 (w.alloc (.cells #[.int .i64 0, .slice none 0 0] 27)) (w.heap.size) 27 (.int .i64 0) (.slice none 0 0) by have h := Box2.new (w) 27 (.int .i64 0) (.slice none 0 0); (try simp only [World.size_alloc] at h); exact h)
  have q0_0 := HX0.out.c0
  have q0_1 := HX0.out.c1
  have HB := Lib.hid (show Below w.heap.size w (w.alloc (.cells #[.int .i64 0, .slice none 0 0] 27)) by repeat' first | exact gr_refl _ | with_reducible assumption | with_reducible apply gr_alloc | with_reducible apply gr_set | with_reducible apply gr_drew | with_reducible apply gr_drewN | exact Nat.le_add_right _ _ | exact Nat.le_refl _ | (refine gr_then (by with_reducible assumption) ?_))
  have hz : w.heap.size + 1 ≤ (w.alloc (.cells #[.int .i64 0, .slice none 0 0] 27)).heap.size := by simp
  dsimp only at hlb
  clear q0_0 q0_1
  go_enter Try.func67, Try.ntmps67; go_wp2_with fail
  generalize w.alloc (.cells #[.int .i64 0, .slice none 0 0] 27) = v0 at *
  go_region_held3 (fun w' => w'.cell? ⟨b, 0, none⟩ = some (.int .i64 s) ∧ w'.cell? ⟨b, 1, none⟩ = some (.slice A xs.length c)) ((first | exact ⟨keepc (gr_drew (gr_alloc (gr_refl _))) c0, keepc (gr_drew (gr_alloc (gr_refl _))) c1⟩ | exact ⟨c0, c1⟩ | exact ⟨keepc HA.out c0, keepc HA.out c1⟩ | exact ⟨setfar (setfar (keepc HA.out c0) (by dsimp only; omega)) (by dsimp only; omega), setfar (setfar (keepc HA.out c1) (by dsimp only; omega)) (by dsimp only; omega)⟩)) ((refine step_app (by rfl) _ _ _ (by rfl) (v0.heap.size) 2 i0 (.int .i64 0) 8 Try.underlying22 hi hz0 hz1 hz2 (by rfl) (Value.int .i64) (fun _ => rfl) (some ⟨v0.heap.size, 0, none⟩) (k) (k) (List.replicate k 0) (v0.heap.size + 1) (by rfl) (by simp) ((HM.out v0).late (gr_drew (gr_refl _))) A (xs.length) (c) (xs) _ (by rfl) (by rfl) (H.out.below (gr_drew (gr_alloc (gr_refl _)))) G.out (by unfold maxLen; omega) (by omega) (by simp) ?_; intro A2 c2 w3 hr2 hgrow hblk; have HR2 := Lib.hid hr2; have HA := Lib.hid ((((HM.out v0).late (gr_drew (gr_refl _))).after (gr_drew (gr_alloc (gr_refl v0))) hgrow (by simp) (Nat.le_refl _) : Below v0.heap.size v0 w3)); have hbx := HX0.out.late HA.out; have r0 := hbx.c0; have r1 := hbx.c1; have r4 := hbx.f0 0; have r5 := hbx.f0 1; clear hbx hr2 hgrow hblk))
  go_wp2
  refine bodyPost_ret (v := .agg #[.int .i64 s, .slice A2 (k + xs.length) c2]) (by simp [results, Try.results67, go_sem, *]) rfl ⟨A2, c2, by rw [List.length_append, List.length_replicate], ?_, ?_⟩
  · exact ((HR2.out.far (p := ⟨w.heap.size, 0, none⟩) (by intro g' hg' he'; have := HR2.out.ge' hg'; simp at he'; omega) _).far (p := ⟨w.heap.size, 1, none⟩) (by intro g' hg' he'; have := HR2.out.ge' hg'; simp at he'; omega) _).wide (by omega) (by simp)
  · exact ((gr_then HA.out HB.out).setCell (by simp) _).setCell (by simp) _
set_option maxHeartbeats 4000000 in
set_option maxRecDepth 20000 in
theorem delayed_any (s : Int) (A : Option Addr) (c : Nat) (xs : List Int) (k : Nat) (w : World) (hn : xs.length ≤ 200) (hk : k ≤ 200) (g : A = none → c = 0) (h : SV (.int .i64) w w.heap.size A xs) : Calls Try.prog 68 #[.agg #[.int .i64 s, .slice A xs.length c], .int .i64 (k : Int)] w (RetM1 s (List.replicate k 0 ++ xs) 2 w) := by
  have hmk := madeInt k (by omega)
  have HM : Hid (∀ v0 : World, RS (.int .i64) 2 (v0.alloc (.cells (Array.replicate k (.int .i64 0)) 2)) v0.heap.size (v0.heap.size + 1) (some ⟨v0.heap.size, 0, none⟩) k (List.replicate k 0)) := fun v0 => by have h := RS.of_bv (lo := v0.heap.size) (hi := v0.heap.size + 1) (BV.made (f := Value.int .i64) v0 2 k 0) (Nat.le_refl _) (Nat.lt_succ_self _) (by rw [List.length_replicate]; unfold maxLen; omega); rw [List.length_replicate] at h; exact h
  have hw0 : Below w.heap.size w ((w.alloc (.cells #[.int .i64 s, .slice A xs.length c] 27)).alloc (.cells #[.int .i64 0, .slice none 0 0] 27)) := by repeat' first | exact gr_refl _ | with_reducible assumption | with_reducible apply gr_alloc | with_reducible apply gr_set | with_reducible apply gr_drew | with_reducible apply gr_drewN | exact Nat.le_add_right _ _ | exact Nat.le_refl _ | (refine gr_then (by with_reducible assumption) ?_)
  have H := Lib.hid (h.later hw0)
  have G := Lib.hid g
  clear h hw0 g
  have HX0 := Lib.hid (show Box2 ((w.alloc (.cells #[.int .i64 s, .slice A xs.length c] 27)).alloc (.cells #[.int .i64 0, .slice none 0 0] 27)) (w.heap.size) 27 (.int .i64 s) (.slice A xs.length c) by have h := (Box2.new (w) 27 (.int .i64 s) (.slice A xs.length c)).late (gr_alloc (o := .cells #[.int .i64 0, .slice none 0 0] 27) (gr_refl _)); (try simp only [World.size_alloc] at h); exact h)
  have q0_0 := HX0.out.c0
  have q0_1 := HX0.out.c1
  have HX1 := Lib.hid (show Box2 ((w.alloc (.cells #[.int .i64 s, .slice A xs.length c] 27)).alloc (.cells #[.int .i64 0, .slice none 0 0] 27)) (w.heap.size + 1) 27 (.int .i64 0) (.slice none 0 0) by have h := Box2.new (w.alloc (.cells #[.int .i64 s, .slice A xs.length c] 27)) 27 (.int .i64 0) (.slice none 0 0); (try simp only [World.size_alloc] at h); exact h)
  have q1_0 := HX1.out.c0
  have q1_1 := HX1.out.c1
  have HB := Lib.hid (show Below w.heap.size w ((w.alloc (.cells #[.int .i64 s, .slice A xs.length c] 27)).alloc (.cells #[.int .i64 0, .slice none 0 0] 27)) by repeat' first | exact gr_refl _ | with_reducible assumption | with_reducible apply gr_alloc | with_reducible apply gr_set | with_reducible apply gr_drew | with_reducible apply gr_drewN | exact Nat.le_add_right _ _ | exact Nat.le_refl _ | (refine gr_then (by with_reducible assumption) ?_))
  have hz : w.heap.size + 2 ≤ ((w.alloc (.cells #[.int .i64 s, .slice A xs.length c] 27)).alloc (.cells #[.int .i64 0, .slice none 0 0] 27)).heap.size := by simp
  go_enter Try.func68, Try.ntmps68; go_wp2_with fail
  generalize (w.alloc (.cells #[.int .i64 s, .slice A xs.length c] 27)).alloc (.cells #[.int .i64 0, .slice none 0 0] 27) = v0 at *
  go_region_held3 (fun w' => w'.cell? ⟨w.heap.size, 0, none⟩ = some (.int .i64 s) ∧ w'.cell? ⟨w.heap.size, 1, none⟩ = some (.slice A xs.length c)) ((first | exact ⟨keepc (gr_drew (gr_alloc (gr_refl _))) q0_0, keepc (gr_drew (gr_alloc (gr_refl _))) q0_1⟩ | exact ⟨keepc (gr_drew (gr_alloc (gr_alloc (gr_refl _)))) q0_0, keepc (gr_drew (gr_alloc (gr_alloc (gr_refl _)))) q0_1⟩ | exact ⟨q0_0, q0_1⟩ | exact ⟨keepc HA.out q0_0, keepc HA.out q0_1⟩ | exact ⟨setfar (setfar (keepc HA.out q0_0) (by dsimp only; omega)) (by dsimp only; omega), setfar (setfar (keepc HA.out q0_1) (by dsimp only; omega)) (by dsimp only; omega)⟩)) ((go_at_call 74; (with_reducible refine (concat_any (List.replicate k 0) xs (some ⟨v0.heap.size, 0, none⟩) A k c _ _ (by simp; omega) (by omega) (fun h => by cases h) G.out (((HM.out v0).late (gr_drew (gr_alloc (gr_refl _)))).sv) (H.out.later (gr_drew (gr_alloc (gr_alloc (gr_refl _))))) (by simp [go_sem]) (by simp [go_sem])).mono ?_); rintro e x3 ⟨A2, c2, rfl, hr2, hb⟩; have HR2 := Lib.hid hr2; have HA := Lib.hid (gr_then hb (gr_drew (gr_alloc (gr_alloc (gr_refl v0))))); have hbx := HX1.out.late HA.out; have r0 := hbx.c0; have r1 := hbx.c1; have r4 := hbx.f0 0; have r5 := hbx.f0 1; clear hbx hr2 hb))
  go_wp2
  refine bodyPost_ret (v := .agg #[.int .i64 s, .slice A2 (List.replicate k 0 ++ xs).length c2]) (by simp [results, Try.results68, go_sem, *]) rfl ⟨A2, c2, rfl, ?_, ?_⟩
  · exact ((HR2.out.far (p := ⟨w.heap.size + 1, 0, none⟩) (by intro g' hg' he'; have := HR2.out.ge' hg'; simp at he' this; omega) _).far (p := ⟨w.heap.size + 1, 1, none⟩) (by intro g' hg' he'; have := HR2.out.ge' hg'; simp at he' this; omega) _).wide (by simp; omega) (by simp)
  · exact ((gr_then HA.out HB.out).setCell (by simp) _).setCell (by simp) _
set_option maxHeartbeats 8000000 in
set_option maxRecDepth 20000 in
theorem specDm_any (s : Int) (A : Option Addr) (c : Nat) (xs : List Int) (k : Int) (w : World) (hn : xs.length ≤ 1048576) (g : A = none → c = 0) (h : SV (.int .i64) w w.heap.size A xs) (hk : -9223372036854775808 ≤ k ∧ k ≤ 9223372036854775807) : Calls Try.prog 28 #[.agg #[.int .i64 s, .slice A xs.length c], .int .i64 k] w (RetM (dmS s xs k) (dmX s xs k) (dmC s xs k) 2 w) := by
  have hw0 : Below w.heap.size w ((w.alloc (.cells #[.int .i64 s, .slice A xs.length c] 27)).alloc (.cells #[.int .i64 0, .slice none 0 0] 27)) := by repeat' first | exact gr_refl _ | with_reducible assumption | with_reducible apply gr_alloc | with_reducible apply gr_set | with_reducible apply gr_drew | with_reducible apply gr_drewN | exact Nat.le_add_right _ _ | exact Nat.le_refl _ | (refine gr_then (by with_reducible assumption) ?_)
  have H := Lib.hid (h.later hw0)
  have G := Lib.hid g
  clear h hw0 g
  have HX0 := Lib.hid (show Box2 ((w.alloc (.cells #[.int .i64 s, .slice A xs.length c] 27)).alloc (.cells #[.int .i64 0, .slice none 0 0] 27)) (w.heap.size) 27 (.int .i64 s) (.slice A xs.length c) by have h := (Box2.new (w) 27 (.int .i64 s) (.slice A xs.length c)).late (gr_alloc (o := .cells #[.int .i64 0, .slice none 0 0] 27) (gr_refl _)); (try simp only [World.size_alloc] at h); exact h)
  have q0_0 := HX0.out.c0
  have q0_1 := HX0.out.c1
  have HX1 := Lib.hid (show Box2 ((w.alloc (.cells #[.int .i64 s, .slice A xs.length c] 27)).alloc (.cells #[.int .i64 0, .slice none 0 0] 27)) (w.heap.size + 1) 27 (.int .i64 0) (.slice none 0 0) by have h := Box2.new (w.alloc (.cells #[.int .i64 s, .slice A xs.length c] 27)) 27 (.int .i64 0) (.slice none 0 0); (try simp only [World.size_alloc] at h); exact h)
  have q1_0 := HX1.out.c0
  have q1_1 := HX1.out.c1
  have HB := Lib.hid (show Below w.heap.size w ((w.alloc (.cells #[.int .i64 s, .slice A xs.length c] 27)).alloc (.cells #[.int .i64 0, .slice none 0 0] 27)) by repeat' first | exact gr_refl _ | with_reducible assumption | with_reducible apply gr_alloc | with_reducible apply gr_set | with_reducible apply gr_drew | with_reducible apply gr_drewN | exact Nat.le_add_right _ _ | exact Nat.le_refl _ | (refine gr_then (by with_reducible assumption) ?_))
  have hz : w.heap.size + 2 ≤ ((w.alloc (.cells #[.int .i64 s, .slice A xs.length c] 27)).alloc (.cells #[.int .i64 0, .slice none 0 0] 27)).heap.size := by simp
  by_cases k1 : okM s xs = true
  case neg =>
    have k1 := (Bool.not_eq_true _).mp k1
    have hcd : dmC s xs k = 1 := by unfold dmC; simp [*]
    rw [(dm_bad hcd (by decide)).1, (dm_bad hcd (by decide)).2, hcd]
    have K1 := Lib.hid k1
    clear k1 hcd
    have r2 := HX1.out.f0 0
    have r3 := HX1.out.f0 1
    go_enter Try.func28, Try.ntmps28; go_wp2_with fail
    generalize (w.alloc (.cells #[.int .i64 s, .slice A xs.length c] 27)).alloc (.cells #[.int .i64 0, .slice none 0 0] 27) = v0 at *
    go_at_call 49
    (with_reducible refine (ok_is (K := fun w w' => w = w') K1.out (l16Ok_any _ s _ _ xs _ hn q0_0 q0_1 H.out)).mono ?_)
    rintro e u1 ⟨rfl, rfl⟩
    go_wp2
    refine bodyPost_ret (v := .tuple #[.agg #[.int .i64 0, .slice none 0 0], .int .i64 1]) (by simp [results, Try.results28, go_sem, *]) rfl ⟨none, 0, rfl, RS.nil, ?_⟩
    have := HB.out
    repeat' first | exact gr_refl _ | with_reducible assumption | with_reducible apply gr_alloc | with_reducible apply gr_drew | with_reducible apply gr_drewN | (refine gr_set (by dsimp only; omega) ?_)
  have K1 := Lib.hid k1
  have hn2 : xs.length ≤ 200 := (okM_t k1).2.1
  by_cases k2 : 0 ≤ k ∧ k ≤ 200
  case neg =>
    have hcd : dmC s xs k = 2 := by unfold dmC; rw [k1, if_neg (by decide), if_pos k2]
    rw [(dm_bad hcd (by decide)).1, (dm_bad hcd (by decide)).2, hcd]
    have K2 := Lib.hid (inI_n k2)
    clear k1 k2 hcd
    have r2 := HX1.out.f0 0
    have r3 := HX1.out.f0 1
    go_enter Try.func28, Try.ntmps28; go_wp2_with fail
    generalize (w.alloc (.cells #[.int .i64 s, .slice A xs.length c] 27)).alloc (.cells #[.int .i64 0, .slice none 0 0] 27) = v0 at *
    go_at_call 49
    (with_reducible refine (ok_is (K := fun w w' => w = w') K1.out (l16Ok_any _ s _ _ xs _ hn q0_0 q0_1 H.out)).mono ?_)
    rintro e u1 ⟨rfl, rfl⟩
    go_wp2_with fail
    go_at_call 58
    (with_reducible refine (in_is0 K2.out (in_any _ _ _ _)).mono ?_)
    rintro e u2 ⟨rfl, rfl⟩
    go_wp2
    refine bodyPost_ret (v := .tuple #[.agg #[.int .i64 0, .slice none 0 0], .int .i64 2]) (by simp [results, Try.results28, go_sem, *]) rfl ⟨none, 0, rfl, RS.nil, ?_⟩
    have := HB.out
    repeat' first | exact gr_refl _ | with_reducible assumption | with_reducible apply gr_alloc | with_reducible apply gr_drew | with_reducible apply gr_drewN | (refine gr_set (by dsimp only; omega) ?_)
  have K2 := Lib.hid (inI_y k2)
  by_cases k3 : 200 < k + xs.length
  case pos =>
    have hcd : dmC s xs k = 5 := by unfold dmC; rw [k1, if_neg (by decide), if_neg (by simp [k2]), if_pos k3]
    rw [(dm_bad hcd (by decide)).1, (dm_bad hcd (by decide)).2, hcd]
    clear k1 hcd
    have r2 := HX1.out.f0 0
    have r3 := HX1.out.f0 1
    go_enter Try.func28, Try.ntmps28; go_wp2_with fail
    generalize (w.alloc (.cells #[.int .i64 s, .slice A xs.length c] 27)).alloc (.cells #[.int .i64 0, .slice none 0 0] 27) = v0 at *
    go_at_call 49
    (with_reducible refine (ok_is (K := fun w w' => w = w') K1.out (l16Ok_any _ s _ _ xs _ hn q0_0 q0_1 H.out)).mono ?_)
    rintro e u1 ⟨rfl, rfl⟩
    go_wp2_with fail
    go_at_call 58
    (with_reducible refine (in_is0 K2.out (in_any _ _ _ _)).mono ?_)
    rintro e u2 ⟨rfl, rfl⟩
    go_wp2
    refine bodyPost_ret (v := .tuple #[.agg #[.int .i64 0, .slice none 0 0], .int .i64 5]) (by simp [results, Try.results28, go_sem, *]) rfl ⟨none, 0, rfl, RS.nil, ?_⟩
    have := HB.out
    repeat' first | exact gr_refl _ | with_reducible assumption | with_reducible apply gr_alloc | with_reducible apply gr_drew | with_reducible apply gr_drewN | (refine gr_set (by dsimp only; omega) ?_)
  have hcd : dmC s xs k = 0 := by unfold dmC; rw [k1, if_neg (by decide), if_neg (by simp [k2]), if_neg k3]
  rw [(dm_good hcd).1, (dm_good hcd).2, hcd]
  obtain ⟨q, rfl⟩ : ∃ q : Nat, k = q := ⟨k.toNat, by omega⟩
  rw [show (q : Int).toNat = q by omega]
  have hq : q ≤ 200 := by omega
  have k4 : (q : Int) + (xs.length : Int) ≤ 200 := by omega
  clear k1 hcd k2 k3
  have r2 := HX1.out.f0 0
  have r3 := HX1.out.f0 1
  go_enter Try.func28, Try.ntmps28; go_wp2_with fail
  generalize (w.alloc (.cells #[.int .i64 s, .slice A xs.length c] 27)).alloc (.cells #[.int .i64 0, .slice none 0 0] 27) = v0 at *
  go_at_call 49
  (with_reducible refine (ok_is (K := fun w w' => w = w') K1.out (l16Ok_any _ s _ _ xs _ hn q0_0 q0_1 H.out)).mono ?_)
  rintro e u1 ⟨rfl, rfl⟩
  go_wp2_with fail
  go_at_call 58
  (with_reducible refine (in_is0 K2.out (in_any _ _ _ _)).mono ?_)
  rintro e u2 ⟨rfl, rfl⟩
  go_wp2_with fail
  go_at_call 67
  (with_reducible refine (later_any _ s A c xs q _ hn2 hq G.out q0_0 q0_1 H.out).mono ?_)
  rintro e u1 ⟨A2, c2, rfl, hr2, hb⟩
  have hy1 := hb.size
  replace q0_0 := keepc hb q0_0
  replace q0_1 := keepc hb q0_1
  replace q1_0 := keepc hb q1_0
  replace q1_1 := keepc hb q1_1
  replace HX1 := Lib.hid (HX1.out.late hb)
  replace H := Lib.hid (H.out.later hb)
  replace r2 := HX1.out.f0 0
  replace r3 := HX1.out.f0 1
  replace HB := Lib.hid (gr_then hb HB.out)
  have HR2 := Lib.hid hr2
  clear hr2 hb
  go_wp2
  refine bodyPost_ret (v := .tuple #[.agg #[.int .i64 s, .slice A2 (List.replicate q 0 ++ xs).length c2], .int .i64 0]) (by simp [results, Try.results28, go_sem, *]) rfl ⟨A2, c2, rfl, ?_, ?_⟩
  · exact ((HR2.out.far (p := ⟨w.heap.size + 1, 0, none⟩) (by intro g' hg' he'; have := HR2.out.ge' hg'; simp at he'; omega) _).far (p := ⟨w.heap.size + 1, 1, none⟩) (by intro g' hg' he'; have := HR2.out.ge' hg'; simp at he'; omega) _).wide (by omega) (by simp)
  · exact (HB.out.setCell (by simp) _).setCell (by simp) _
set_option maxHeartbeats 8000000 in
set_option maxRecDepth 20000 in
theorem implDm_any (s : Int) (A : Option Addr) (c : Nat) (xs : List Int) (k : Int) (w : World) (hn : xs.length ≤ 1048576) (g : A = none → c = 0) (h : SV (.int .i64) w w.heap.size A xs) (hk : -9223372036854775808 ≤ k ∧ k ≤ 9223372036854775807) : Calls Try.prog 29 #[.agg #[.int .i64 s, .slice A xs.length c], .int .i64 k] w (RetM (dmS s xs k) (dmX s xs k) (dmC s xs k) 2 w) := by
  have hw0 : Below w.heap.size w ((w.alloc (.cells #[.int .i64 s, .slice A xs.length c] 27)).alloc (.cells #[.int .i64 0, .slice none 0 0] 27)) := by repeat' first | exact gr_refl _ | with_reducible assumption | with_reducible apply gr_alloc | with_reducible apply gr_set | with_reducible apply gr_drew | with_reducible apply gr_drewN | exact Nat.le_add_right _ _ | exact Nat.le_refl _ | (refine gr_then (by with_reducible assumption) ?_)
  have H := Lib.hid (h.later hw0)
  have G := Lib.hid g
  clear h hw0 g
  have HX0 := Lib.hid (show Box2 ((w.alloc (.cells #[.int .i64 s, .slice A xs.length c] 27)).alloc (.cells #[.int .i64 0, .slice none 0 0] 27)) (w.heap.size) 27 (.int .i64 s) (.slice A xs.length c) by have h := (Box2.new (w) 27 (.int .i64 s) (.slice A xs.length c)).late (gr_alloc (o := .cells #[.int .i64 0, .slice none 0 0] 27) (gr_refl _)); (try simp only [World.size_alloc] at h); exact h)
  have q0_0 := HX0.out.c0
  have q0_1 := HX0.out.c1
  have HX1 := Lib.hid (show Box2 ((w.alloc (.cells #[.int .i64 s, .slice A xs.length c] 27)).alloc (.cells #[.int .i64 0, .slice none 0 0] 27)) (w.heap.size + 1) 27 (.int .i64 0) (.slice none 0 0) by have h := Box2.new (w.alloc (.cells #[.int .i64 s, .slice A xs.length c] 27)) 27 (.int .i64 0) (.slice none 0 0); (try simp only [World.size_alloc] at h); exact h)
  have q1_0 := HX1.out.c0
  have q1_1 := HX1.out.c1
  have HB := Lib.hid (show Below w.heap.size w ((w.alloc (.cells #[.int .i64 s, .slice A xs.length c] 27)).alloc (.cells #[.int .i64 0, .slice none 0 0] 27)) by repeat' first | exact gr_refl _ | with_reducible assumption | with_reducible apply gr_alloc | with_reducible apply gr_set | with_reducible apply gr_drew | with_reducible apply gr_drewN | exact Nat.le_add_right _ _ | exact Nat.le_refl _ | (refine gr_then (by with_reducible assumption) ?_))
  have hz : w.heap.size + 2 ≤ ((w.alloc (.cells #[.int .i64 s, .slice A xs.length c] 27)).alloc (.cells #[.int .i64 0, .slice none 0 0] 27)).heap.size := by simp
  by_cases k1 : okM s xs = true
  case neg =>
    have k1 := (Bool.not_eq_true _).mp k1
    have hcd : dmC s xs k = 1 := by unfold dmC; simp [*]
    rw [(dm_bad hcd (by decide)).1, (dm_bad hcd (by decide)).2, hcd]
    have K1 := Lib.hid k1
    clear k1 hcd
    have r2 := HX1.out.f0 0
    have r3 := HX1.out.f0 1
    go_enter Try.func29, Try.ntmps29; go_wp2_with fail
    generalize (w.alloc (.cells #[.int .i64 s, .slice A xs.length c] 27)).alloc (.cells #[.int .i64 0, .slice none 0 0] 27) = v0 at *
    go_at_call 19
    (with_reducible refine (ok_is (K := fun w w' => Below w.heap.size w w') K1.out (implVm_any s _ _ xs _ hn H.out)).mono ?_)
    rintro e u1 ⟨rfl, hb⟩
    have hy1 := hb.size
    replace q0_0 := keepc hb q0_0
    replace q0_1 := keepc hb q0_1
    replace q1_0 := keepc hb q1_0
    replace q1_1 := keepc hb q1_1
    replace HX1 := Lib.hid (HX1.out.late hb)
    replace H := Lib.hid (H.out.later hb)
    replace r2 := HX1.out.f0 0
    replace r3 := HX1.out.f0 1
    replace HB := Lib.hid (gr_then hb HB.out)
    clear hb
    go_wp2
    refine bodyPost_ret (v := .tuple #[.agg #[.int .i64 0, .slice none 0 0], .int .i64 1]) (by simp [results, Try.results29, go_sem, *]) rfl ⟨none, 0, rfl, RS.nil, ?_⟩
    have := HB.out
    repeat' first | exact gr_refl _ | with_reducible assumption | with_reducible apply gr_alloc | with_reducible apply gr_drew | with_reducible apply gr_drewN | (refine gr_set (by dsimp only; omega) ?_)
  have K1 := Lib.hid k1
  have hn2 : xs.length ≤ 200 := (okM_t k1).2.1
  by_cases k2 : 0 ≤ k ∧ k ≤ 200
  case neg =>
    have hcd : dmC s xs k = 2 := by unfold dmC; rw [k1, if_neg (by decide), if_pos k2]
    rw [(dm_bad hcd (by decide)).1, (dm_bad hcd (by decide)).2, hcd]
    have K2 := Lib.hid (inI_n k2)
    clear k1 k2 hcd
    have r2 := HX1.out.f0 0
    have r3 := HX1.out.f0 1
    go_enter Try.func29, Try.ntmps29; go_wp2_with fail
    generalize (w.alloc (.cells #[.int .i64 s, .slice A xs.length c] 27)).alloc (.cells #[.int .i64 0, .slice none 0 0] 27) = v0 at *
    go_at_call 19
    (with_reducible refine (ok_is (K := fun w w' => Below w.heap.size w w') K1.out (implVm_any s _ _ xs _ hn H.out)).mono ?_)
    rintro e u1 ⟨rfl, hb⟩
    have hy1 := hb.size
    replace q0_0 := keepc hb q0_0
    replace q0_1 := keepc hb q0_1
    replace q1_0 := keepc hb q1_0
    replace q1_1 := keepc hb q1_1
    replace HX1 := Lib.hid (HX1.out.late hb)
    replace H := Lib.hid (H.out.later hb)
    replace r2 := HX1.out.f0 0
    replace r3 := HX1.out.f0 1
    replace HB := Lib.hid (gr_then hb HB.out)
    clear hb
    go_wp2_with fail
    go_at_call 59
    (with_reducible refine (in_is0 K2.out (within_any _ _ _ _)).mono ?_)
    rintro e u2 ⟨rfl, rfl⟩
    go_wp2
    refine bodyPost_ret (v := .tuple #[.agg #[.int .i64 0, .slice none 0 0], .int .i64 2]) (by simp [results, Try.results29, go_sem, *]) rfl ⟨none, 0, rfl, RS.nil, ?_⟩
    have := HB.out
    repeat' first | exact gr_refl _ | with_reducible assumption | with_reducible apply gr_alloc | with_reducible apply gr_drew | with_reducible apply gr_drewN | (refine gr_set (by dsimp only; omega) ?_)
  have K2 := Lib.hid (inI_y k2)
  by_cases k3 : 200 < k + xs.length
  case pos =>
    have hcd : dmC s xs k = 5 := by unfold dmC; rw [k1, if_neg (by decide), if_neg (by simp [k2]), if_pos k3]
    rw [(dm_bad hcd (by decide)).1, (dm_bad hcd (by decide)).2, hcd]
    clear k1 hcd
    have r2 := HX1.out.f0 0
    have r3 := HX1.out.f0 1
    go_enter Try.func29, Try.ntmps29; go_wp2_with fail
    generalize (w.alloc (.cells #[.int .i64 s, .slice A xs.length c] 27)).alloc (.cells #[.int .i64 0, .slice none 0 0] 27) = v0 at *
    go_at_call 19
    (with_reducible refine (ok_is (K := fun w w' => Below w.heap.size w w') K1.out (implVm_any s _ _ xs _ hn H.out)).mono ?_)
    rintro e u1 ⟨rfl, hb⟩
    have hy1 := hb.size
    replace q0_0 := keepc hb q0_0
    replace q0_1 := keepc hb q0_1
    replace q1_0 := keepc hb q1_0
    replace q1_1 := keepc hb q1_1
    replace HX1 := Lib.hid (HX1.out.late hb)
    replace H := Lib.hid (H.out.later hb)
    replace r2 := HX1.out.f0 0
    replace r3 := HX1.out.f0 1
    replace HB := Lib.hid (gr_then hb HB.out)
    clear hb
    go_wp2_with fail
    go_at_call 59
    (with_reducible refine (in_is0 K2.out (within_any _ _ _ _)).mono ?_)
    rintro e u2 ⟨rfl, rfl⟩
    go_wp2
    refine bodyPost_ret (v := .tuple #[.agg #[.int .i64 0, .slice none 0 0], .int .i64 5]) (by simp [results, Try.results29, go_sem, *]) rfl ⟨none, 0, rfl, RS.nil, ?_⟩
    have := HB.out
    repeat' first | exact gr_refl _ | with_reducible assumption | with_reducible apply gr_alloc | with_reducible apply gr_drew | with_reducible apply gr_drewN | (refine gr_set (by dsimp only; omega) ?_)
  have hcd : dmC s xs k = 0 := by unfold dmC; rw [k1, if_neg (by decide), if_neg (by simp [k2]), if_neg k3]
  rw [(dm_good hcd).1, (dm_good hcd).2, hcd]
  obtain ⟨q, rfl⟩ : ∃ q : Nat, k = q := ⟨k.toNat, by omega⟩
  rw [show (q : Int).toNat = q by omega]
  have hq : q ≤ 200 := by omega
  have k4 : (q : Int) + (xs.length : Int) ≤ 200 := by omega
  clear k1 hcd k2 k3
  have r2 := HX1.out.f0 0
  have r3 := HX1.out.f0 1
  go_enter Try.func29, Try.ntmps29; go_wp2_with fail
  generalize (w.alloc (.cells #[.int .i64 s, .slice A xs.length c] 27)).alloc (.cells #[.int .i64 0, .slice none 0 0] 27) = v0 at *
  go_at_call 19
  (with_reducible refine (ok_is (K := fun w w' => Below w.heap.size w w') K1.out (implVm_any s _ _ xs _ hn H.out)).mono ?_)
  rintro e u1 ⟨rfl, hb⟩
  have hy1 := hb.size
  replace q0_0 := keepc hb q0_0
  replace q0_1 := keepc hb q0_1
  replace q1_0 := keepc hb q1_0
  replace q1_1 := keepc hb q1_1
  replace HX1 := Lib.hid (HX1.out.late hb)
  replace H := Lib.hid (H.out.later hb)
  replace r2 := HX1.out.f0 0
  replace r3 := HX1.out.f0 1
  replace HB := Lib.hid (gr_then hb HB.out)
  clear hb
  go_wp2_with fail
  go_at_call 59
  (with_reducible refine (in_is0 K2.out (within_any _ _ _ _)).mono ?_)
  rintro e u2 ⟨rfl, rfl⟩
  go_wp2_with fail
  go_at_call 68
  (with_reducible refine (delayed_any s A c xs q _ hn2 hq G.out H.out).mono ?_)
  rintro e u2 ⟨A2, c2, rfl, hr2, hb⟩
  have hy2 := hb.size
  replace q0_0 := keepc hb q0_0
  replace q0_1 := keepc hb q0_1
  replace q1_0 := keepc hb q1_0
  replace q1_1 := keepc hb q1_1
  replace HX1 := Lib.hid (HX1.out.late hb)
  replace H := Lib.hid (H.out.later hb)
  replace r2 := HX1.out.f0 0
  replace r3 := HX1.out.f0 1
  replace HB := Lib.hid (gr_then hb HB.out)
  have HR2 := Lib.hid hr2
  clear hr2 hb
  go_wp2
  refine bodyPost_ret (v := .tuple #[.agg #[.int .i64 s, .slice A2 (List.replicate q 0 ++ xs).length c2], .int .i64 0]) (by simp [results, Try.results29, go_sem, *]) rfl ⟨A2, c2, rfl, ?_, ?_⟩
  · exact ((HR2.out.far (p := ⟨w.heap.size + 1, 0, none⟩) (by intro g' hg' he'; have := HR2.out.ge' hg'; simp at he'; omega) _).far (p := ⟨w.heap.size + 1, 1, none⟩) (by intro g' hg' he'; have := HR2.out.ge' hg'; simp at he'; omega) _).wide (by omega) (by simp)
  · exact (HB.out.setCell (by simp) _).setCell (by simp) _
end Go.Proofs.Ytoojnfdphjdocaa
