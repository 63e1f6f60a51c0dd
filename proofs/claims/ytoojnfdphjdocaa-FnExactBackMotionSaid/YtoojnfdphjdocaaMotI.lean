/- JoinMotions and DelayMotion, both sides. -/
import Derived.Test.YtoojnfdphjdocaaConcat
import Derived.Deep.RegionHeld3
namespace Go.Proofs.Ytoojnfdphjdocaa
open Go.RowKit
def jmC (s : Int) (xs : List Int) (t : Int) (ys : List Int) : Int :=
  if (okM s xs && okM t ys) = false then 1 else if ¬ dirAt s xs xs.length = t then 6 else if 200 < xs.length + ys.length then 5 else 0
def jmS (s : Int) (xs : List Int) (t : Int) (ys : List Int) : Int := if jmC s xs t ys = 0 then s else 0
def jmX (s : Int) (xs : List Int) (t : Int) (ys : List Int) : List Int := if jmC s xs t ys = 0 then xs ++ ys else []
theorem jm_bad {s : Int} {xs : List Int} {t : Int} {ys : List Int} {k : Int} (h : jmC s xs t ys = k) (hk : ¬ k = 0) : jmS s xs t ys = 0 ∧ jmX s xs t ys = [] := by
  unfold jmS jmX; rw [h, if_neg hk, if_neg hk]; exact ⟨rfl, rfl⟩
theorem jm_good {s : Int} {xs : List Int} {t : Int} {ys : List Int} (h : jmC s xs t ys = 0) : jmS s xs t ys = s ∧ jmX s xs t ys = xs ++ ys := by
  unfold jmS jmX; rw [h, if_pos rfl, if_pos rfl]; exact ⟨rfl, rfl⟩
theorem jmX_len (s : Int) (xs : List Int) (t : Int) (ys : List Int) : (jmX s xs t ys).length ≤ 200 := by
  unfold jmX
  split
  · rename_i h
    unfold jmC at h
    split at h
    · cases h
    split at h
    · cases h
    split at h
    · cases h
    simp only [List.length_append]; omega
  · simp
def dmC (s : Int) (xs : List Int) (k : Int) : Int :=
  if okM s xs = false then 1 else if ¬ (0 ≤ k ∧ k ≤ 200) then 2 else if 200 < k + xs.length then 5 else 0
def dmS (s : Int) (xs : List Int) (k : Int) : Int := if dmC s xs k = 0 then s else 0
def dmX (s : Int) (xs : List Int) (k : Int) : List Int := if dmC s xs k = 0 then List.replicate k.toNat 0 ++ xs else []
theorem dm_bad {s : Int} {xs : List Int} {k r : Int} (h : dmC s xs k = r) (hk : ¬ r = 0) : dmS s xs k = 0 ∧ dmX s xs k = [] := by
  unfold dmS dmX; rw [h, if_neg hk, if_neg hk]; exact ⟨rfl, rfl⟩
theorem dm_good {s : Int} {xs : List Int} {k : Int} (h : dmC s xs k = 0) : dmS s xs k = s ∧ dmX s xs k = List.replicate k.toNat 0 ++ xs := by
  unfold dmS dmX; rw [h, if_pos rfl, if_pos rfl]; exact ⟨rfl, rfl⟩
theorem dmX_len (s : Int) (xs : List Int) (k : Int) : (dmX s xs k).length ≤ 200 := by
  unfold dmX
  split
  · rename_i h
    unfold dmC at h
    split at h
    · cases h
    split at h
    · cases h
    split at h
    · cases h
    simp only [List.length_append, List.length_replicate]; omega
  · simp
/-- a motion of new memory was handed back -/
def RetM1 (s : Int) (xs : List Int) (t : TypeId) (w : World) (E : Ending) (w' : World) : Prop :=
  ∃ A c, E = .returned (.agg #[.int .i64 s, .slice A xs.length c]) ∧ RS (.int .i64) t w' w.heap.size w'.heap.size A c xs ∧ Below w.heap.size w w'
set_option maxHeartbeats 4000000 in
set_option maxRecDepth 20000 in
theorem own_any (A : Option Addr) (c : Nat) (xs : List Int) (w : World) (hn : xs.length ≤ 1048576) (g : A = none → c = 0) (h : SV (.int .i64) w w.heap.size A xs) : Calls Try.prog 73 #[.slice A xs.length c] w (RetS xs 2 w) := by
  obtain ⟨i0, hi, hz0, hz1, hz2⟩ := info_parts infoInt
  have HR := Lib.hid (RS.lit0 (f := Value.int .i64) (e := 2) w)
  have H := Lib.hid (h.below (gr_alloc (o := .cells #[] 2) (gr_refl w)))
  have G := Lib.hid g
  have HB := Lib.hid (gr_alloc (o := .cells #[] 2) (gr_refl w))
  clear g h
  go_enter Try.func73, Try.ntmps73
  go_wp2_with (at_builtin; refine wpList_app (by rfl) _ _ _ (by rfl) (w.heap.size) 2 i0 (.int .i64 0) 8 Try.underlying22 hi hz0 hz1 hz2 (by rfl) (Value.int .i64) (fun _ => rfl) (some ⟨w.heap.size, 0, none⟩) (0) (0) ([]) (w.heap.size + 1) (by rfl) rfl HR.out A (xs.length) (c) (xs) _ (by rfl) (by rfl) H.out G.out (by unfold maxLen; omega) (by omega) HB.out.size ?_; intro A2 c2 w2 hr2 hgrow hblk; have HR2 := Lib.hid hr2; have HB2 := Lib.hid (HR.out.after HB.out hgrow HB.out.size (Nat.le_refl _)); clear hr2 hgrow hblk)
  go_ret
  exact ⟨A2, c2, by first | rfl | (rw [Nat.zero_add]; rfl), HR2.out, HB2.out⟩
set_option maxHeartbeats 4000000 in
set_option maxRecDepth 20000 in
theorem l16End_any (b : Nat) (s : Int) (A : Option Addr) (c : Nat) (xs : List Int) (w : World) (hok : okM s xs = true) (c0 : w.cell? ⟨b, 0, none⟩ = some (.int .i64 s)) (c1 : w.cell? ⟨b, 1, none⟩ = some (.slice A xs.length c)) (h : SV (.int .i64) w w.heap.size A xs) : Calls Try.prog 65 #[.pointer (some ⟨b, 0, none⟩)] w fun e w' => e = .returned (.int .i64 (dirAt s xs xs.length)) ∧ w = w' := by
  have hn := (okM_t hok).2.1
  have HK := Lib.hid (show Calls Try.prog 54 #[.pointer (some ⟨b, 0, none⟩), .int .i64 (xs.length : Int)] w fun e w' => e = .returned (.int .i64 (dirAt s xs xs.length)) ∧ w = w' by have h2 := l16At_any b s (xs.length : Int) A c xs w hok (by constructor <;> omega) c0 c1 h; rw [show min (xs.length : Int).toNat xs.length = xs.length by omega] at h2; exact h2)
  clear h hok
  go_enter Try.func65, Try.ntmps65; go_wp2_with (go_at_call 54; (with_reducible refine HK.out.mono ?_); rintro e w1 ⟨rfl, rfl⟩); go_ret; exact ⟨rfl, rfl⟩
set_option maxHeartbeats 8000000 in
set_option maxRecDepth 20000 in
theorem specJm_any (s : Int) (A : Option Addr) (c : Nat) (xs : List Int) (t : Int) (A' : Option Addr) (c' : Nat) (ys : List Int) (w : World) (hn : xs.length ≤ 1048576) (hm : ys.length ≤ 1048576) (g : A = none → c = 0) (g' : A' = none → c' = 0) (h : SV (.int .i64) w w.heap.size A xs) (h' : SV (.int .i64) w w.heap.size A' ys) : Calls Try.prog 36 #[.agg #[.int .i64 s, .slice A xs.length c], .agg #[.int .i64 t, .slice A' ys.length c']] w (RetM (jmS s xs t ys) (jmX s xs t ys) (jmC s xs t ys) 2 w) := by
  obtain ⟨i0, hi, hz0, hz1, hz2⟩ := info_parts infoInt
  have hw0 : Below w.heap.size w (((w.alloc (.cells #[.int .i64 s, .slice A xs.length c] 27)).alloc (.cells #[.int .i64 t, .slice A' ys.length c'] 27)).alloc (.cells #[.int .i64 0, .slice none 0 0] 27)) := by repeat' first | exact gr_refl _ | with_reducible assumption | with_reducible apply gr_alloc | with_reducible apply gr_set | with_reducible apply gr_drew | with_reducible apply gr_drewN | exact Nat.le_add_right _ _ | exact Nat.le_refl _ | (refine gr_then (by with_reducible assumption) ?_)
  have H := Lib.hid (h.later hw0)
  have H' := Lib.hid (h'.later hw0)
  have G := Lib.hid g
  have G' := Lib.hid g'
  clear h h' g g' hw0
  have HX0 := Lib.hid (show Box2 (((w.alloc (.cells #[.int .i64 s, .slice A xs.length c] 27)).alloc (.cells #[.int .i64 t, .slice A' ys.length c'] 27)).alloc (.cells #[.int .i64 0, .slice none 0 0] 27)) (w.heap.size) 27 (.int .i64 s) (.slice A xs.length c) by have h := ((Box2.new (w) 27 (.int .i64 s) (.slice A xs.length c)).late (gr_alloc (o := .cells #[.int .i64 t, .slice A' ys.length c'] 27) (gr_refl _))).late (gr_alloc (o := .cells #[.int .i64 0, .slice none 0 0] 27) (gr_refl _)); (try simp only [World.size_alloc] at h); exact h)
  have q0_0 := HX0.out.c0
  have q0_1 := HX0.out.c1
  have HX1 := Lib.hid (show Box2 (((w.alloc (.cells #[.int .i64 s, .slice A xs.length c] 27)).alloc (.cells #[.int .i64 t, .slice A' ys.length c'] 27)).alloc (.cells #[.int .i64 0, .slice none 0 0] 27)) (w.heap.size + 1) 27 (.int .i64 t) (.slice A' ys.length c') by have h := (Box2.new (w.alloc (.cells #[.int .i64 s, .slice A xs.length c] 27)) 27 (.int .i64 t) (.slice A' ys.length c')).late (gr_alloc (o := .cells #[.int .i64 0, .slice none 0 0] 27) (gr_refl _)); (try simp only [World.size_alloc] at h); exact h)
  have q1_0 := HX1.out.c0
  have q1_1 := HX1.out.c1
  have HX2 := Lib.hid (show Box2 (((w.alloc (.cells #[.int .i64 s, .slice A xs.length c] 27)).alloc (.cells #[.int .i64 t, .slice A' ys.length c'] 27)).alloc (.cells #[.int .i64 0, .slice none 0 0] 27)) (w.heap.size + 1 + 1) 27 (.int .i64 0) (.slice none 0 0) by have h := Box2.new ((w.alloc (.cells #[.int .i64 s, .slice A xs.length c] 27)).alloc (.cells #[.int .i64 t, .slice A' ys.length c'] 27)) 27 (.int .i64 0) (.slice none 0 0); (try simp only [World.size_alloc] at h); exact h)
  have q2_0 := HX2.out.c0
  have q2_1 := HX2.out.c1
  have HB := Lib.hid (show Below w.heap.size w (((w.alloc (.cells #[.int .i64 s, .slice A xs.length c] 27)).alloc (.cells #[.int .i64 t, .slice A' ys.length c'] 27)).alloc (.cells #[.int .i64 0, .slice none 0 0] 27)) by repeat' first | exact gr_refl _ | with_reducible assumption | with_reducible apply gr_alloc | with_reducible apply gr_set | with_reducible apply gr_drew | with_reducible apply gr_drewN | exact Nat.le_add_right _ _ | exact Nat.le_refl _ | (refine gr_then (by with_reducible assumption) ?_))
  have hz : w.heap.size + 3 ≤ (((w.alloc (.cells #[.int .i64 s, .slice A xs.length c] 27)).alloc (.cells #[.int .i64 t, .slice A' ys.length c'] 27)).alloc (.cells #[.int .i64 0, .slice none 0 0] 27)).heap.size := by simp
  have r2 := HX2.out.f0 0
  have r3 := HX2.out.f0 1
  by_cases k1 : okM s xs = true
  case neg =>
    have k1 := (Bool.not_eq_true _).mp k1
    have hcd : jmC s xs t ys = 1 := by unfold jmC; rw [k1]; rfl
    rw [(jm_bad hcd (by decide)).1, (jm_bad hcd (by decide)).2, hcd]
    have K1 := Lib.hid k1
    clear k1 hcd
    go_enter Try.func36, Try.ntmps36; go_wp2_with fail
    generalize ((w.alloc (.cells #[.int .i64 s, .slice A xs.length c] 27)).alloc (.cells #[.int .i64 t, .slice A' ys.length c'] 27)).alloc (.cells #[.int .i64 0, .slice none 0 0] 27) = v0 at *
    go_wp2_with (go_at_call 49; (with_reducible refine (ok_is (K := fun w w' => w = w') K1.out (l16Ok_any _ s _ _ xs _ hn q0_0 q0_1 H.out)).mono ?_); rintro e w1 ⟨rfl, rfl⟩)
    refine bodyPost_ret (v := .tuple #[.agg #[.int .i64 0, .slice none 0 0], .int .i64 1]) (by simp [results, Try.results36, go_sem, *]) rfl ⟨none, 0, rfl, RS.nil, ?_⟩
    have := HB.out
    repeat' first | exact gr_refl _ | with_reducible assumption | with_reducible apply gr_alloc | with_reducible apply gr_drew | with_reducible apply gr_drewN | (refine gr_set (by dsimp only; omega) ?_)
  have K1 := Lib.hid k1
  by_cases k2 : okM t ys = true
  case neg =>
    have k2 := (Bool.not_eq_true _).mp k2
    have hcd : jmC s xs t ys = 1 := by unfold jmC; rw [k1, k2]; rfl
    rw [(jm_bad hcd (by decide)).1, (jm_bad hcd (by decide)).2, hcd]
    have K2 := Lib.hid k2
    clear k1 k2 hcd
    go_enter Try.func36, Try.ntmps36; go_wp2_with fail
    generalize ((w.alloc (.cells #[.int .i64 s, .slice A xs.length c] 27)).alloc (.cells #[.int .i64 t, .slice A' ys.length c'] 27)).alloc (.cells #[.int .i64 0, .slice none 0 0] 27) = v0 at *
    go_wp2_with (first | (go_at_call 49; (with_reducible refine (ok_is (K := fun w w' => w = w') K1.out (l16Ok_any _ s _ _ xs _ hn q0_0 q0_1 H.out)).mono ?_); rintro e w1 ⟨rfl, rfl⟩) | (go_at_call 49; (with_reducible refine (ok_is (K := fun w w' => w = w') K2.out (l16Ok_any _ t _ _ ys _ hm q1_0 q1_1 H'.out)).mono ?_); rintro e w1 ⟨rfl, rfl⟩))
    refine bodyPost_ret (v := .tuple #[.agg #[.int .i64 0, .slice none 0 0], .int .i64 1]) (by simp [results, Try.results36, go_sem, *]) rfl ⟨none, 0, rfl, RS.nil, ?_⟩
    have := HB.out
    repeat' first | exact gr_refl _ | with_reducible assumption | with_reducible apply gr_alloc | with_reducible apply gr_drew | with_reducible apply gr_drewN | (refine gr_set (by dsimp only; omega) ?_)
  have K2 := Lib.hid k2
  by_cases k3 : dirAt s xs xs.length = t
  case neg =>
    have hcd : jmC s xs t ys = 6 := by unfold jmC; rw [k1, k2]; simp [k3]
    rw [(jm_bad hcd (by decide)).1, (jm_bad hcd (by decide)).2, hcd]
    have hne : (dirAt s xs xs.length != t) = true := by rw [bne_iff_ne]; exact k3
    clear k1 k2 hcd k3
    go_enter Try.func36, Try.ntmps36; go_wp2_with fail
    generalize ((w.alloc (.cells #[.int .i64 s, .slice A xs.length c] 27)).alloc (.cells #[.int .i64 t, .slice A' ys.length c'] 27)).alloc (.cells #[.int .i64 0, .slice none 0 0] 27) = v0 at *
    go_wp2_with (first | (go_at_call 49; (with_reducible refine (ok_is (K := fun w w' => w = w') K1.out (l16Ok_any _ s _ _ xs _ hn q0_0 q0_1 H.out)).mono ?_); rintro e w1 ⟨rfl, rfl⟩) | (go_at_call 49; (with_reducible refine (ok_is (K := fun w w' => w = w') K2.out (l16Ok_any _ t _ _ ys _ hm q1_0 q1_1 H'.out)).mono ?_); rintro e w1 ⟨rfl, rfl⟩))
    go_quiet ((go_at_call 65; exact quiet_left (l16End_any _ s _ _ xs _ K1.out q0_0 q0_1 H.out)))
    go_wp2
    refine bodyPost_ret (v := .tuple #[.agg #[.int .i64 0, .slice none 0 0], .int .i64 6]) (by simp [results, Try.results36, go_sem, *]) rfl ⟨none, 0, rfl, RS.nil, ?_⟩
    have := HB.out
    repeat' first | exact gr_refl _ | with_reducible assumption | with_reducible apply gr_alloc | with_reducible apply gr_drew | with_reducible apply gr_drewN | (refine gr_set (by dsimp only; omega) ?_)
  have hne : (dirAt s xs xs.length != t) = false := by rw [bne_eq_false_iff_eq]; exact k3
  by_cases k4 : 200 < xs.length + ys.length
  case pos =>
    have hcd : jmC s xs t ys = 5 := by unfold jmC; rw [k1, k2]; simp [k3, k4]
    rw [(jm_bad hcd (by decide)).1, (jm_bad hcd (by decide)).2, hcd]
    have hlt : (200 : Int) < (xs.length : Int) + (ys.length : Int) := by omega
    clear k1 k2 hcd k3
    go_enter Try.func36, Try.ntmps36; go_wp2_with fail
    generalize ((w.alloc (.cells #[.int .i64 s, .slice A xs.length c] 27)).alloc (.cells #[.int .i64 t, .slice A' ys.length c'] 27)).alloc (.cells #[.int .i64 0, .slice none 0 0] 27) = v0 at *
    go_wp2_with (first | (go_at_call 49; (with_reducible refine (ok_is (K := fun w w' => w = w') K1.out (l16Ok_any _ s _ _ xs _ hn q0_0 q0_1 H.out)).mono ?_); rintro e w1 ⟨rfl, rfl⟩) | (go_at_call 49; (with_reducible refine (ok_is (K := fun w w' => w = w') K2.out (l16Ok_any _ t _ _ ys _ hm q1_0 q1_1 H'.out)).mono ?_); rintro e w1 ⟨rfl, rfl⟩))
    go_quiet ((go_at_call 65; exact quiet_left (l16End_any _ s _ _ xs _ K1.out q0_0 q0_1 H.out)))
    go_wp2
    refine bodyPost_ret (v := .tuple #[.agg #[.int .i64 0, .slice none 0 0], .int .i64 5]) (by simp [results, Try.results36, go_sem, *]) rfl ⟨none, 0, rfl, RS.nil, ?_⟩
    have := HB.out
    repeat' first | exact gr_refl _ | with_reducible assumption | with_reducible apply gr_alloc | with_reducible apply gr_drew | with_reducible apply gr_drewN | (refine gr_set (by dsimp only; omega) ?_)
  have hcd : jmC s xs t ys = 0 := by unfold jmC; rw [k1, k2]; simp [k3, k4]
  rw [(jm_good hcd).1, (jm_good hcd).2, hcd]
  have hlt : (xs.length : Int) + (ys.length : Int) ≤ 200 := by omega
  have hlt2 : xs.length + ys.length ≤ 200 := by omega
  clear k1 k2 hcd k3 k4
  go_enter Try.func36, Try.ntmps36; go_wp2_with fail
  generalize ((w.alloc (.cells #[.int .i64 s, .slice A xs.length c] 27)).alloc (.cells #[.int .i64 t, .slice A' ys.length c'] 27)).alloc (.cells #[.int .i64 0, .slice none 0 0] 27) = v0 at *
  go_wp2_with (first | (go_at_call 49; (with_reducible refine (ok_is (K := fun w w' => w = w') K1.out (l16Ok_any _ s _ _ xs _ hn q0_0 q0_1 H.out)).mono ?_); rintro e w1 ⟨rfl, rfl⟩) | (go_at_call 49; (with_reducible refine (ok_is (K := fun w w' => w = w') K2.out (l16Ok_any _ t _ _ ys _ hm q1_0 q1_1 H'.out)).mono ?_); rintro e w1 ⟨rfl, rfl⟩))
  go_quiet ((go_at_call 65; exact quiet_left (l16End_any _ s _ _ xs _ K1.out q0_0 q0_1 H.out)))
  go_wp2
  go_region_held3 (fun w' => w'.cell? ⟨w.heap.size, 0, none⟩ = some (.int .i64 s) ∧ w'.cell? ⟨w.heap.size, 1, none⟩ = some (.slice A xs.length c) ∧ w'.cell? ⟨w.heap.size + 1, 1, none⟩ = some (.slice A' ys.length c')) ((first | exact ⟨q0_0, q0_1, q1_1⟩ | exact ⟨keepc HA.out q0_0, keepc HA.out q0_1, keepc HA.out q1_1⟩ | exact ⟨setfar (setfar (keepc HA.out q0_0) (by dsimp only; omega)) (by dsimp only; omega), setfar (setfar (keepc HA.out q0_1) (by dsimp only; omega)) (by dsimp only; omega), setfar (setfar (keepc HA.out q1_1) (by dsimp only; omega)) (by dsimp only; omega)⟩)) (first | (go_at_call 73; (with_reducible refine (own_any A c xs _ hn G.out (H.out.later (gr_drewN (gr_refl _)))).mono ?_); rintro e w2 ⟨V, q, rfl, hr, hb⟩; have HR := Lib.hid hr; have HA := Lib.hid (gr_then hb (gr_drewN (gr_refl v0))); clear hr hb) | (refine step_app (by rfl) _ _ _ (by rfl) (v0.heap.size) 2 i0 (.int .i64 0) 8 Try.underlying22 hi hz0 hz1 hz2 (by rfl) (Value.int .i64) (fun _ => rfl) V (xs.length) (q) (xs) (w2.heap.size) (by rfl) (by rfl) HR.out A' (ys.length) (c') (ys) _ (by rfl) (by rfl) (H'.out.below HA.out) G'.out (by unfold maxLen; omega) (by omega) HA.out.size ?_; intro A2 c2 w3 hr2 hgrow hblk; have HR2 := Lib.hid hr2; have HA2 := Lib.hid (HR.out.after HA.out hgrow HA.out.size (Nat.le_refl _)); have HA := HA2; have hbx := HX2.out.late HA.out; have r0 := hbx.c0; have r1 := hbx.c1; have r4 := hbx.f0 0; have r5 := hbx.f0 1; clear hbx hr2 hgrow hblk))
  go_wp2
  refine bodyPost_ret (v := .tuple #[.agg #[.int .i64 s, .slice A2 (xs.length + ys.length) c2], .int .i64 0]) (by simp [results, Try.results36, go_sem, *]) rfl ⟨A2, c2, by rw [List.length_append], ?_, ?_⟩
  · exact ((HR2.out.far (p := ⟨w.heap.size + 1 + 1, 0, none⟩) (by intro g' hg' he'; have := HR2.out.ge' hg'; simp at he'; omega) _).far (p := ⟨w.heap.size + 1 + 1, 1, none⟩) (by intro g' hg' he'; have := HR2.out.ge' hg'; simp at he'; omega) _).wide (by omega) (by simp)
  · exact ((gr_then HA.out HB.out).setCell (by simp; omega) _).setCell (by simp; omega) _
set_option maxHeartbeats 8000000 in
set_option maxRecDepth 20000 in
theorem implJm_any (s : Int) (A : Option Addr) (c : Nat) (xs : List Int) (t : Int) (A' : Option Addr) (c' : Nat) (ys : List Int) (w : World) (hn : xs.length ≤ 1048576) (hm : ys.length ≤ 1048576) (g : A = none → c = 0) (g' : A' = none → c' = 0) (h : SV (.int .i64) w w.heap.size A xs) (h' : SV (.int .i64) w w.heap.size A' ys) : Calls Try.prog 37 #[.agg #[.int .i64 s, .slice A xs.length c], .agg #[.int .i64 t, .slice A' ys.length c']] w (RetM (jmS s xs t ys) (jmX s xs t ys) (jmC s xs t ys) 2 w) := by
  obtain ⟨i0, hi, hz0, hz1, hz2⟩ := info_parts infoInt
  have hw0 : Below w.heap.size w (((w.alloc (.cells #[.int .i64 s, .slice A xs.length c] 27)).alloc (.cells #[.int .i64 t, .slice A' ys.length c'] 27)).alloc (.cells #[.int .i64 0, .slice none 0 0] 27)) := by repeat' first | exact gr_refl _ | with_reducible assumption | with_reducible apply gr_alloc | with_reducible apply gr_set | with_reducible apply gr_drew | with_reducible apply gr_drewN | exact Nat.le_add_right _ _ | exact Nat.le_refl _ | (refine gr_then (by with_reducible assumption) ?_)
  have H := Lib.hid (h.later hw0)
  have H' := Lib.hid (h'.later hw0)
  have G := Lib.hid g
  have G' := Lib.hid g'
  clear h h' g g' hw0
  have HX0 := Lib.hid (show Box2 (((w.alloc (.cells #[.int .i64 s, .slice A xs.length c] 27)).alloc (.cells #[.int .i64 t, .slice A' ys.length c'] 27)).alloc (.cells #[.int .i64 0, .slice none 0 0] 27)) (w.heap.size) 27 (.int .i64 s) (.slice A xs.length c) by have h := ((Box2.new (w) 27 (.int .i64 s) (.slice A xs.length c)).late (gr_alloc (o := .cells #[.int .i64 t, .slice A' ys.length c'] 27) (gr_refl _))).late (gr_alloc (o := .cells #[.int .i64 0, .slice none 0 0] 27) (gr_refl _)); (try simp only [World.size_alloc] at h); exact h)
  have q0_0 := HX0.out.c0
  have q0_1 := HX0.out.c1
  have HX1 := Lib.hid (show Box2 (((w.alloc (.cells #[.int .i64 s, .slice A xs.length c] 27)).alloc (.cells #[.int .i64 t, .slice A' ys.length c'] 27)).alloc (.cells #[.int .i64 0, .slice none 0 0] 27)) (w.heap.size + 1) 27 (.int .i64 t) (.slice A' ys.length c') by have h := (Box2.new (w.alloc (.cells #[.int .i64 s, .slice A xs.length c] 27)) 27 (.int .i64 t) (.slice A' ys.length c')).late (gr_alloc (o := .cells #[.int .i64 0, .slice none 0 0] 27) (gr_refl _)); (try simp only [World.size_alloc] at h); exact h)
  have q1_0 := HX1.out.c0
  have q1_1 := HX1.out.c1
  have HX2 := Lib.hid (show Box2 (((w.alloc (.cells #[.int .i64 s, .slice A xs.length c] 27)).alloc (.cells #[.int .i64 t, .slice A' ys.length c'] 27)).alloc (.cells #[.int .i64 0, .slice none 0 0] 27)) (w.heap.size + 1 + 1) 27 (.int .i64 0) (.slice none 0 0) by have h := Box2.new ((w.alloc (.cells #[.int .i64 s, .slice A xs.length c] 27)).alloc (.cells #[.int .i64 t, .slice A' ys.length c'] 27)) 27 (.int .i64 0) (.slice none 0 0); (try simp only [World.size_alloc] at h); exact h)
  have q2_0 := HX2.out.c0
  have q2_1 := HX2.out.c1
  have HB := Lib.hid (show Below w.heap.size w (((w.alloc (.cells #[.int .i64 s, .slice A xs.length c] 27)).alloc (.cells #[.int .i64 t, .slice A' ys.length c'] 27)).alloc (.cells #[.int .i64 0, .slice none 0 0] 27)) by repeat' first | exact gr_refl _ | with_reducible assumption | with_reducible apply gr_alloc | with_reducible apply gr_set | with_reducible apply gr_drew | with_reducible apply gr_drewN | exact Nat.le_add_right _ _ | exact Nat.le_refl _ | (refine gr_then (by with_reducible assumption) ?_))
  have hz : w.heap.size + 3 ≤ (((w.alloc (.cells #[.int .i64 s, .slice A xs.length c] 27)).alloc (.cells #[.int .i64 t, .slice A' ys.length c'] 27)).alloc (.cells #[.int .i64 0, .slice none 0 0] 27)).heap.size := by simp
  by_cases k1 : okM s xs = true
  case neg =>
    have k1 := (Bool.not_eq_true _).mp k1
    have hcd : jmC s xs t ys = 1 := by unfold jmC; simp [*]
    rw [(jm_bad hcd (by decide)).1, (jm_bad hcd (by decide)).2, hcd]
    have K1 := Lib.hid k1
    clear k1 hcd
    have r2 := HX2.out.f0 0
    have r3 := HX2.out.f0 1
    go_enter Try.func37, Try.ntmps37; go_wp2_with fail
    generalize ((w.alloc (.cells #[.int .i64 s, .slice A xs.length c] 27)).alloc (.cells #[.int .i64 t, .slice A' ys.length c'] 27)).alloc (.cells #[.int .i64 0, .slice none 0 0] 27) = v0 at *
    go_at_call 19
    (with_reducible refine (ok_is (K := fun w w' => Below w.heap.size w w') K1.out (implVm_any s _ _ xs _ hn H.out)).mono ?_)
    rintro e u1 ⟨rfl, hb⟩
    have hy1 := hb.size
    replace q0_0 := keepc hb q0_0
    replace q0_1 := keepc hb q0_1
    replace q1_0 := keepc hb q1_0
    replace q1_1 := keepc hb q1_1
    replace q2_0 := keepc hb q2_0
    replace q2_1 := keepc hb q2_1
    replace HX2 := Lib.hid (HX2.out.late hb)
    replace H := Lib.hid (H.out.later hb)
    replace H' := Lib.hid (H'.out.later hb)
    replace r2 := HX2.out.f0 0
    replace r3 := HX2.out.f0 1
    replace HB := Lib.hid (gr_then hb HB.out)
    clear hb
    go_wp2
    refine bodyPost_ret (v := .tuple #[.agg #[.int .i64 0, .slice none 0 0], .int .i64 1]) (by simp [results, Try.results37, go_sem, *]) rfl ⟨none, 0, rfl, RS.nil, ?_⟩
    have := HB.out
    repeat' first | exact gr_refl _ | with_reducible assumption | with_reducible apply gr_alloc | with_reducible apply gr_drew | with_reducible apply gr_drewN | (refine gr_set (by dsimp only; omega) ?_)
  have K1 := Lib.hid k1
  by_cases k2 : okM t ys = true
  case neg =>
    have k2 := (Bool.not_eq_true _).mp k2
    have hcd : jmC s xs t ys = 1 := by unfold jmC; simp [*]
    rw [(jm_bad hcd (by decide)).1, (jm_bad hcd (by decide)).2, hcd]
    have K2 := Lib.hid k2
    clear k1 k2 hcd
    have r2 := HX2.out.f0 0
    have r3 := HX2.out.f0 1
    go_enter Try.func37, Try.ntmps37; go_wp2_with fail
    generalize ((w.alloc (.cells #[.int .i64 s, .slice A xs.length c] 27)).alloc (.cells #[.int .i64 t, .slice A' ys.length c'] 27)).alloc (.cells #[.int .i64 0, .slice none 0 0] 27) = v0 at *
    go_at_call 19
    (with_reducible refine (ok_is (K := fun w w' => Below w.heap.size w w') K1.out (implVm_any s _ _ xs _ hn H.out)).mono ?_)
    rintro e u1 ⟨rfl, hb⟩
    have hy1 := hb.size
    replace q0_0 := keepc hb q0_0
    replace q0_1 := keepc hb q0_1
    replace q1_0 := keepc hb q1_0
    replace q1_1 := keepc hb q1_1
    replace q2_0 := keepc hb q2_0
    replace q2_1 := keepc hb q2_1
    replace HX2 := Lib.hid (HX2.out.late hb)
    replace H := Lib.hid (H.out.later hb)
    replace H' := Lib.hid (H'.out.later hb)
    replace r2 := HX2.out.f0 0
    replace r3 := HX2.out.f0 1
    replace HB := Lib.hid (gr_then hb HB.out)
    clear hb
    go_wp2_with fail
    go_at_call 19
    (with_reducible refine (ok_is (K := fun w w' => Below w.heap.size w w') K2.out (implVm_any t _ _ ys _ hm H'.out)).mono ?_)
    rintro e u2 ⟨rfl, hb⟩
    have hy2 := hb.size
    replace q0_0 := keepc hb q0_0
    replace q0_1 := keepc hb q0_1
    replace q1_0 := keepc hb q1_0
    replace q1_1 := keepc hb q1_1
    replace q2_0 := keepc hb q2_0
    replace q2_1 := keepc hb q2_1
    replace HX2 := Lib.hid (HX2.out.late hb)
    replace H := Lib.hid (H.out.later hb)
    replace H' := Lib.hid (H'.out.later hb)
    replace r2 := HX2.out.f0 0
    replace r3 := HX2.out.f0 1
    replace HB := Lib.hid (gr_then hb HB.out)
    clear hb
    go_wp2
    refine bodyPost_ret (v := .tuple #[.agg #[.int .i64 0, .slice none 0 0], .int .i64 1]) (by simp [results, Try.results37, go_sem, *]) rfl ⟨none, 0, rfl, RS.nil, ?_⟩
    have := HB.out
    repeat' first | exact gr_refl _ | with_reducible assumption | with_reducible apply gr_alloc | with_reducible apply gr_drew | with_reducible apply gr_drewN | (refine gr_set (by dsimp only; omega) ?_)
  have K2 := Lib.hid k2
  have hn2 : xs.length ≤ 200 := (okM_t k1).2.1
  have HAT : Hid (∀ (A : Option Addr) (c : Nat) (w : World), SV (.int .i64) w w.heap.size A (trk s xs xs.length) → Calls Try.prog 55 #[.slice A (xs.length + 1) c, .int .i64 200] w fun e w' => e = .returned (.int .i64 (dirAt s xs xs.length)) ∧ w = w') := fun A c w h => by have h2 := at_any s A c 200 xs w hn2 (by constructor <;> omega) h; rw [show min (200 : Int).toNat xs.length = xs.length by omega] at h2; exact h2
  by_cases k3 : dirAt s xs xs.length = t
  case neg =>
    have hcd : jmC s xs t ys = 6 := by unfold jmC; simp [*]
    rw [(jm_bad hcd (by decide)).1, (jm_bad hcd (by decide)).2, hcd]
    have hne : (dirAt s xs xs.length != t) = true := by rw [bne_iff_ne]; exact k3
    clear k1 k2 hcd k3
    have r2 := HX2.out.f0 0
    have r3 := HX2.out.f0 1
    go_enter Try.func37, Try.ntmps37; go_wp2_with fail
    generalize ((w.alloc (.cells #[.int .i64 s, .slice A xs.length c] 27)).alloc (.cells #[.int .i64 t, .slice A' ys.length c'] 27)).alloc (.cells #[.int .i64 0, .slice none 0 0] 27) = v0 at *
    go_at_call 19
    (with_reducible refine (ok_is (K := fun w w' => Below w.heap.size w w') K1.out (implVm_any s _ _ xs _ hn H.out)).mono ?_)
    rintro e u1 ⟨rfl, hb⟩
    have hy1 := hb.size
    replace q0_0 := keepc hb q0_0
    replace q0_1 := keepc hb q0_1
    replace q1_0 := keepc hb q1_0
    replace q1_1 := keepc hb q1_1
    replace q2_0 := keepc hb q2_0
    replace q2_1 := keepc hb q2_1
    replace HX2 := Lib.hid (HX2.out.late hb)
    replace H := Lib.hid (H.out.later hb)
    replace H' := Lib.hid (H'.out.later hb)
    replace r2 := HX2.out.f0 0
    replace r3 := HX2.out.f0 1
    replace HB := Lib.hid (gr_then hb HB.out)
    clear hb
    go_wp2_with fail
    go_at_call 19
    (with_reducible refine (ok_is (K := fun w w' => Below w.heap.size w w') K2.out (implVm_any t _ _ ys _ hm H'.out)).mono ?_)
    rintro e u2 ⟨rfl, hb⟩
    have hy2 := hb.size
    replace q0_0 := keepc hb q0_0
    replace q0_1 := keepc hb q0_1
    replace q1_0 := keepc hb q1_0
    replace q1_1 := keepc hb q1_1
    replace q2_0 := keepc hb q2_0
    replace q2_1 := keepc hb q2_1
    replace HX2 := Lib.hid (HX2.out.late hb)
    replace H := Lib.hid (H.out.later hb)
    replace H' := Lib.hid (H'.out.later hb)
    replace r2 := HX2.out.f0 0
    replace r3 := HX2.out.f0 1
    replace HB := Lib.hid (gr_then hb HB.out)
    clear hb
    go_wp2
    go_region_held3 (fun w' => w'.cell? ⟨w.heap.size, 0, none⟩ = some (.int .i64 s) ∧ w'.cell? ⟨w.heap.size, 1, none⟩ = some (.slice A xs.length c) ∧ w'.cell? ⟨w.heap.size + 1, 0, none⟩ = some (.int .i64 t)) ((first | exact ⟨q0_0, q0_1, q1_0⟩ | exact ⟨keepc HA.out q0_0, keepc HA.out q0_1, keepc HA.out q1_0⟩ | exact ⟨setfar (setfar (keepc HA.out q0_0) (by dsimp only; omega)) (by dsimp only; omega), setfar (setfar (keepc HA.out q0_1) (by dsimp only; omega)) (by dsimp only; omega), setfar (setfar (keepc HA.out q1_0) (by dsimp only; omega)) (by dsimp only; omega)⟩)) (first | (go_at_call 56; (with_reducible refine (track_any s _ _ xs _ K1.out (H.out.later (gr_drew (gr_refl _)))).mono ?_); rintro e x1 ⟨g1, cap, rfl, hsv, hb⟩; have HT := Lib.hid hsv; have HA := Lib.hid (gr_then hb (gr_drew (gr_refl u2))); clear hsv hb) | (go_at_call 55; (with_reducible refine (HAT.out _ _ _ HT.out).mono ?_); rintro e x2 ⟨rfl, rfl⟩))
    have hy9 := HA.out.size
    replace q0_0 := keepc HA.out q0_0
    replace q0_1 := keepc HA.out q0_1
    replace q1_0 := keepc HA.out q1_0
    replace q1_1 := keepc HA.out q1_1
    replace q2_0 := keepc HA.out q2_0
    replace q2_1 := keepc HA.out q2_1
    replace HX2 := Lib.hid (HX2.out.late HA.out)
    replace H := Lib.hid (H.out.later HA.out)
    replace H' := Lib.hid (H'.out.later HA.out)
    replace r2 := HX2.out.f0 0
    replace r3 := HX2.out.f0 1
    replace HB := Lib.hid (gr_then HA.out HB.out)
    clear HA HT
    go_wp2
    refine bodyPost_ret (v := .tuple #[.agg #[.int .i64 0, .slice none 0 0], .int .i64 6]) (by simp [results, Try.results37, go_sem, *]) rfl ⟨none, 0, rfl, RS.nil, ?_⟩
    have := HB.out
    repeat' first | exact gr_refl _ | with_reducible assumption | with_reducible apply gr_alloc | with_reducible apply gr_drew | with_reducible apply gr_drewN | (refine gr_set (by dsimp only; omega) ?_)
  have hne : (dirAt s xs xs.length != t) = false := by rw [bne_eq_false_iff_eq]; exact k3
  by_cases k4 : 200 < xs.length + ys.length
  case pos =>
    have hcd : jmC s xs t ys = 5 := by unfold jmC; simp [*]
    rw [(jm_bad hcd (by decide)).1, (jm_bad hcd (by decide)).2, hcd]
    have hlt : (200 : Int) < (xs.length : Int) + (ys.length : Int) := by omega
    clear k1 k2 hcd k3
    have r2 := HX2.out.f0 0
    have r3 := HX2.out.f0 1
    go_enter Try.func37, Try.ntmps37; go_wp2_with fail
    generalize ((w.alloc (.cells #[.int .i64 s, .slice A xs.length c] 27)).alloc (.cells #[.int .i64 t, .slice A' ys.length c'] 27)).alloc (.cells #[.int .i64 0, .slice none 0 0] 27) = v0 at *
    go_at_call 19
    (with_reducible refine (ok_is (K := fun w w' => Below w.heap.size w w') K1.out (implVm_any s _ _ xs _ hn H.out)).mono ?_)
    rintro e u1 ⟨rfl, hb⟩
    have hy1 := hb.size
    replace q0_0 := keepc hb q0_0
    replace q0_1 := keepc hb q0_1
    replace q1_0 := keepc hb q1_0
    replace q1_1 := keepc hb q1_1
    replace q2_0 := keepc hb q2_0
    replace q2_1 := keepc hb q2_1
    replace HX2 := Lib.hid (HX2.out.late hb)
    replace H := Lib.hid (H.out.later hb)
    replace H' := Lib.hid (H'.out.later hb)
    replace r2 := HX2.out.f0 0
    replace r3 := HX2.out.f0 1
    replace HB := Lib.hid (gr_then hb HB.out)
    clear hb
    go_wp2_with fail
    go_at_call 19
    (with_reducible refine (ok_is (K := fun w w' => Below w.heap.size w w') K2.out (implVm_any t _ _ ys _ hm H'.out)).mono ?_)
    rintro e u2 ⟨rfl, hb⟩
    have hy2 := hb.size
    replace q0_0 := keepc hb q0_0
    replace q0_1 := keepc hb q0_1
    replace q1_0 := keepc hb q1_0
    replace q1_1 := keepc hb q1_1
    replace q2_0 := keepc hb q2_0
    replace q2_1 := keepc hb q2_1
    replace HX2 := Lib.hid (HX2.out.late hb)
    replace H := Lib.hid (H.out.later hb)
    replace H' := Lib.hid (H'.out.later hb)
    replace r2 := HX2.out.f0 0
    replace r3 := HX2.out.f0 1
    replace HB := Lib.hid (gr_then hb HB.out)
    clear hb
    go_wp2
    go_region_held3 (fun w' => w'.cell? ⟨w.heap.size, 0, none⟩ = some (.int .i64 s) ∧ w'.cell? ⟨w.heap.size, 1, none⟩ = some (.slice A xs.length c) ∧ w'.cell? ⟨w.heap.size + 1, 0, none⟩ = some (.int .i64 t)) ((first | exact ⟨q0_0, q0_1, q1_0⟩ | exact ⟨keepc HA.out q0_0, keepc HA.out q0_1, keepc HA.out q1_0⟩ | exact ⟨setfar (setfar (keepc HA.out q0_0) (by dsimp only; omega)) (by dsimp only; omega), setfar (setfar (keepc HA.out q0_1) (by dsimp only; omega)) (by dsimp only; omega), setfar (setfar (keepc HA.out q1_0) (by dsimp only; omega)) (by dsimp only; omega)⟩)) (first | (go_at_call 56; (with_reducible refine (track_any s _ _ xs _ K1.out (H.out.later (gr_drew (gr_refl _)))).mono ?_); rintro e x1 ⟨g1, cap, rfl, hsv, hb⟩; have HT := Lib.hid hsv; have HA := Lib.hid (gr_then hb (gr_drew (gr_refl u2))); clear hsv hb) | (go_at_call 55; (with_reducible refine (HAT.out _ _ _ HT.out).mono ?_); rintro e x2 ⟨rfl, rfl⟩))
    have hy9 := HA.out.size
    replace q0_0 := keepc HA.out q0_0
    replace q0_1 := keepc HA.out q0_1
    replace q1_0 := keepc HA.out q1_0
    replace q1_1 := keepc HA.out q1_1
    replace q2_0 := keepc HA.out q2_0
    replace q2_1 := keepc HA.out q2_1
    replace HX2 := Lib.hid (HX2.out.late HA.out)
    replace H := Lib.hid (H.out.later HA.out)
    replace H' := Lib.hid (H'.out.later HA.out)
    replace r2 := HX2.out.f0 0
    replace r3 := HX2.out.f0 1
    replace HB := Lib.hid (gr_then HA.out HB.out)
    clear HA HT
    go_wp2
    refine bodyPost_ret (v := .tuple #[.agg #[.int .i64 0, .slice none 0 0], .int .i64 5]) (by simp [results, Try.results37, go_sem, *]) rfl ⟨none, 0, rfl, RS.nil, ?_⟩
    have := HB.out
    repeat' first | exact gr_refl _ | with_reducible assumption | with_reducible apply gr_alloc | with_reducible apply gr_drew | with_reducible apply gr_drewN | (refine gr_set (by dsimp only; omega) ?_)
  have hcd : jmC s xs t ys = 0 := by unfold jmC; simp [*]
  rw [(jm_good hcd).1, (jm_good hcd).2, hcd]
  have hlt : (xs.length : Int) + (ys.length : Int) ≤ 200 := by omega
  clear k1 k2 hcd k3 k4
  have r2 := HX2.out.f0 0
  have r3 := HX2.out.f0 1
  go_enter Try.func37, Try.ntmps37; go_wp2_with fail
  generalize ((w.alloc (.cells #[.int .i64 s, .slice A xs.length c] 27)).alloc (.cells #[.int .i64 t, .slice A' ys.length c'] 27)).alloc (.cells #[.int .i64 0, .slice none 0 0] 27) = v0 at *
  go_at_call 19
  (with_reducible refine (ok_is (K := fun w w' => Below w.heap.size w w') K1.out (implVm_any s _ _ xs _ hn H.out)).mono ?_)
  rintro e u1 ⟨rfl, hb⟩
  have hy1 := hb.size
  replace q0_0 := keepc hb q0_0
  replace q0_1 := keepc hb q0_1
  replace q1_0 := keepc hb q1_0
  replace q1_1 := keepc hb q1_1
  replace q2_0 := keepc hb q2_0
  replace q2_1 := keepc hb q2_1
  replace HX2 := Lib.hid (HX2.out.late hb)
  replace H := Lib.hid (H.out.later hb)
  replace H' := Lib.hid (H'.out.later hb)
  replace r2 := HX2.out.f0 0
  replace r3 := HX2.out.f0 1
  replace HB := Lib.hid (gr_then hb HB.out)
  clear hb
  go_wp2_with fail
  go_at_call 19
  (with_reducible refine (ok_is (K := fun w w' => Below w.heap.size w w') K2.out (implVm_any t _ _ ys _ hm H'.out)).mono ?_)
  rintro e u2 ⟨rfl, hb⟩
  have hy2 := hb.size
  replace q0_0 := keepc hb q0_0
  replace q0_1 := keepc hb q0_1
  replace q1_0 := keepc hb q1_0
  replace q1_1 := keepc hb q1_1
  replace q2_0 := keepc hb q2_0
  replace q2_1 := keepc hb q2_1
  replace HX2 := Lib.hid (HX2.out.late hb)
  replace H := Lib.hid (H.out.later hb)
  replace H' := Lib.hid (H'.out.later hb)
  replace r2 := HX2.out.f0 0
  replace r3 := HX2.out.f0 1
  replace HB := Lib.hid (gr_then hb HB.out)
  clear hb
  go_wp2
  go_region_held3 (fun w' => w'.cell? ⟨w.heap.size, 0, none⟩ = some (.int .i64 s) ∧ w'.cell? ⟨w.heap.size, 1, none⟩ = some (.slice A xs.length c) ∧ w'.cell? ⟨w.heap.size + 1, 0, none⟩ = some (.int .i64 t)) ((first | exact ⟨q0_0, q0_1, q1_0⟩ | exact ⟨keepc HA.out q0_0, keepc HA.out q0_1, keepc HA.out q1_0⟩ | exact ⟨setfar (setfar (keepc HA.out q0_0) (by dsimp only; omega)) (by dsimp only; omega), setfar (setfar (keepc HA.out q0_1) (by dsimp only; omega)) (by dsimp only; omega), setfar (setfar (keepc HA.out q1_0) (by dsimp only; omega)) (by dsimp only; omega)⟩)) (first | (go_at_call 56; (with_reducible refine (track_any s _ _ xs _ K1.out (H.out.later (gr_drew (gr_refl _)))).mono ?_); rintro e x1 ⟨g1, cap, rfl, hsv, hb⟩; have HT := Lib.hid hsv; have HA := Lib.hid (gr_then hb (gr_drew (gr_refl u2))); clear hsv hb) | (go_at_call 55; (with_reducible refine (HAT.out _ _ _ HT.out).mono ?_); rintro e x2 ⟨rfl, rfl⟩))
  have hy9 := HA.out.size
  replace q0_0 := keepc HA.out q0_0
  replace q0_1 := keepc HA.out q0_1
  replace q1_0 := keepc HA.out q1_0
  replace q1_1 := keepc HA.out q1_1
  replace q2_0 := keepc HA.out q2_0
  replace q2_1 := keepc HA.out q2_1
  replace HX2 := Lib.hid (HX2.out.late HA.out)
  replace H := Lib.hid (H.out.later HA.out)
  replace H' := Lib.hid (H'.out.later HA.out)
  replace r2 := HX2.out.f0 0
  replace r3 := HX2.out.f0 1
  replace HB := Lib.hid (gr_then HA.out HB.out)
  clear HA HT
  go_wp2
  go_region_held3 (fun w' => w'.cell? ⟨w.heap.size, 0, none⟩ = some (.int .i64 s) ∧ w'.cell? ⟨w.heap.size, 1, none⟩ = some (.slice A xs.length c) ∧ w'.cell? ⟨w.heap.size + 1, 1, none⟩ = some (.slice A' ys.length c')) ((first | exact ⟨keepc (gr_drew (gr_alloc (gr_refl _))) q0_0, keepc (gr_drew (gr_alloc (gr_refl _))) q0_1, keepc (gr_drew (gr_alloc (gr_refl _))) q1_1⟩ | exact ⟨q0_0, q0_1, q1_1⟩ | exact ⟨keepc HA.out q0_0, keepc HA.out q0_1, keepc HA.out q1_1⟩ | exact ⟨setfar (setfar (keepc HA.out q0_0) (by dsimp only; omega)) (by dsimp only; omega), setfar (setfar (keepc HA.out q0_1) (by dsimp only; omega)) (by dsimp only; omega), setfar (setfar (keepc HA.out q1_1) (by dsimp only; omega)) (by dsimp only; omega)⟩)) ((go_at_call 74; (with_reducible refine (concat_any xs ys A A' c c' _ _ hn hm G.out G'.out (H.out.later (gr_drew (gr_alloc (gr_refl _)))) (H'.out.later (gr_drew (gr_alloc (gr_refl _)))) (by simp [go_sem]) (by simp [go_sem])).mono ?_); rintro e x3 ⟨A2, c2, rfl, hr2, hb⟩; have HR2 := Lib.hid hr2; have HA := Lib.hid (gr_then hb (gr_drew (gr_alloc (gr_refl x1)))); have hbx := HX2.out.late HA.out; have r0 := hbx.c0; have r1 := hbx.c1; have r4 := hbx.f0 0; have r5 := hbx.f0 1; clear hbx hr2 hb))
  go_wp2
  refine bodyPost_ret (v := .tuple #[.agg #[.int .i64 s, .slice A2 (xs ++ ys).length c2], .int .i64 0]) (by simp [results, Try.results37, go_sem, *]) rfl ⟨A2, c2, rfl, ?_, ?_⟩
  · exact ((HR2.out.far (p := ⟨w.heap.size + 1 + 1, 0, none⟩) (by intro g' hg' he'; have := HR2.out.ge' hg'; simp at he' this; omega) _).far (p := ⟨w.heap.size + 1 + 1, 1, none⟩) (by intro g' hg' he'; have := HR2.out.ge' hg'; simp at he' this; omega) _).wide (by simp; omega) (by simp)
  · exact ((gr_then HA.out HB.out).setCell (by simp; omega) _).setCell (by simp; omega) _
end Go.Proofs.Ytoojnfdphjdocaa
