/- The readers of slings: the walks. -/
import Derived.Test.YtnmldhkcbekecaaDoorRdP
namespace Go.Proofs.YtnmldhkcbekecaaDoor
open Go.RowKit Go.Deep
set_option maxHeartbeats 8000000 in
set_option maxRecDepth 20000 in
theorem specRd_any (t : ByteArray) (w : World) (hs : t.size ≤ 1048576) : Calls Tryd.prog 8 #[.string t] w (RetRd t w) := by
  have HX := Lib.hid (Box4.new w 25 0 0 0 0)
  have HB := Lib.hid (show Below w.heap.size w (w.alloc (.cells #[.int .i64 0, .int .i64 0, .int .i64 0, .int .i64 0] 25)) from gr_alloc (gr_refl w))
  have hz : w.heap.size + 1 ≤ (w.alloc (.cells #[.int .i64 0, .int .i64 0, .int .i64 0, .int .i64 0] 25)).heap.size := by simp
  by_cases h2 : (splB t 32).length = 2
  case neg =>
    have HR := Lib.hid (rel_n1 h2)
    obtain ⟨L, hL⟩ : ∃ L, splB t 32 = L := ⟨_, rfl⟩
    rw [hL] at h2
    have HSP : Hid (∀ w : World, Calls Tryd.prog 15 #[.string t, .int .u8 32] w fun e w' => ∃ (A : Option Addr) (n c : Nat), e = .returned (.slice A n c) ∧ List.length (α := ByteArray) L = n ∧ RS .string 9 w' w.heap.size w'.heap.size A c L ∧ Below w.heap.size w w') := fun w => by have h9 := split_is t 32 32 rfl w (by omega); rw [hL] at h9; exact h9
    clear hL
    go_enter Tryd.func8, Tryd.ntmps8; go_wp2_with fail
    generalize w.alloc (.cells #[.int .i64 0, .int .i64 0, .int .i64 0, .int .i64 0] 25) = wv at *
    go_at_call 15
    (with_reducible refine (HSP.out _).mono ?_)
    rintro r w1 ⟨A, n, c, rfl, hn, hr, hb⟩
    have hd : ((n : Int) != 2) = true := by rw [bne_iff_ne]; omega
    have hy := hb.size
    replace HX := Lib.hid (HX.out.late hb)
    replace HB := Lib.hid (gr_then hb HB.out)
    obtain ⟨r0, r1, r2, r3⟩ := HX.out.cs
    have f0 := HX.out.fr 0
    have f1 := HX.out.fr 1
    have f2 := HX.out.fr 2
    have f3 := HX.out.fr 3
    clear hn hr hb
    go_wp2
    refine bodyPost_ret (v := .tuple #[.agg #[.int .i64 (0), .int .i64 (0), .int .i64 (0), .int .i64 (0)], .bool false]) (by simp [results, Tryd.results8, go_sem, *]) rfl ?_
    exact ⟨0, 0, 0, 0, false, rfl, HR.out, (((HB.out.setCell (by simp) _).setCell (by simp) _).setCell (by simp) _).setCell (by simp) _⟩
  obtain ⟨x0, x1, hL⟩ := two_of h2
  obtain ⟨s1, s2⟩ := two_size hL
  have HSP : Hid (∀ w : World, Calls Tryd.prog 15 #[.string t, .int .u8 32] w fun e w' => ∃ (A : Option Addr) (n c : Nat), e = .returned (.slice A n c) ∧ List.length (α := ByteArray) [x0, x1] = n ∧ RS .string 9 w' w.heap.size w'.heap.size A c [x0, x1] ∧ Below w.heap.size w w') := fun w => by have h9 := split_is t 32 32 rfl w (by omega); rw [hL] at h9; exact h9
  clear h2
  by_cases h2 : (splB x0 120).length = 2
  case neg =>
    have HR := Lib.hid (rel_n2 hL h2)
    obtain ⟨L, hL2⟩ : ∃ L, splB x0 120 = L := ⟨_, rfl⟩
    rw [hL2] at h2
    have HSP2 : Hid (∀ w : World, Calls Tryd.prog 15 #[.string x0, .int .u8 120] w fun e w' => ∃ (A : Option Addr) (n c : Nat), e = .returned (.slice A n c) ∧ List.length (α := ByteArray) L = n ∧ RS .string 9 w' w.heap.size w'.heap.size A c L ∧ Below w.heap.size w w') := fun w => by have h9 := split_is x0 120 120 rfl w (by omega); rw [hL2] at h9; exact h9
    clear hL hL2
    go_enter Tryd.func8, Tryd.ntmps8; go_wp2_with fail
    generalize w.alloc (.cells #[.int .i64 0, .int .i64 0, .int .i64 0, .int .i64 0] 25) = wv at *
    go_at_call 15
    (with_reducible refine (HSP.out _).mono ?_)
    rintro r w1 ⟨A, n, c, rfl, hn, hr, hb⟩
    obtain rfl : n = 2 := hn.symm
    have hy := hb.size
    obtain ⟨g, rfl, _, _, _, c0, _⟩ := hr.cellAt (k := 0) rfl
    obtain ⟨g', eg, _, _, _, c1, _⟩ := hr.cellAt (k := 1) rfl
    simp only [Option.some.injEq, Addr.mk.injEq, and_true] at eg
    subst eg
    replace HX := Lib.hid (HX.out.late hb)
    replace HB := Lib.hid (gr_then hb HB.out)
    clear hr hb hn
    go_wp2_with fail
    go_at_call 15
    (with_reducible refine (HSP2.out _).mono ?_)
    rintro r w2 ⟨A, n, c3, rfl, hn, hr, hb⟩
    have hd : ((n : Int) != 2) = true := by rw [bne_iff_ne]; omega
    have hy2 := hb.size
    replace c0 := keepc hb c0
    replace c1 := keepc hb c1
    replace HX := Lib.hid (HX.out.late hb)
    replace HB := Lib.hid (gr_then hb HB.out)
    obtain ⟨r0, r1, r2, r3⟩ := HX.out.cs
    have f0 := HX.out.fr 0
    have f1 := HX.out.fr 1
    have f2 := HX.out.fr 2
    have f3 := HX.out.fr 3
    clear hn hr hb
    go_wp2
    refine bodyPost_ret (v := .tuple #[.agg #[.int .i64 (0), .int .i64 (0), .int .i64 (0), .int .i64 (0)], .bool false]) (by simp [results, Tryd.results8, go_sem, *]) rfl ?_
    exact ⟨0, 0, 0, 0, false, rfl, HR.out, (((HB.out.setCell (by simp) _).setCell (by simp) _).setCell (by simp) _).setCell (by simp) _⟩
  obtain ⟨v0, v1, hL2⟩ := two_of h2
  obtain ⟨s3, s4⟩ := two_size hL2
  have HSP2 : Hid (∀ w : World, Calls Tryd.prog 15 #[.string x0, .int .u8 120] w fun e w' => ∃ (A : Option Addr) (n c : Nat), e = .returned (.slice A n c) ∧ List.length (α := ByteArray) [v0, v1] = n ∧ RS .string 9 w' w.heap.size w'.heap.size A c [v0, v1] ∧ Below w.heap.size w w') := fun w => by have h9 := split_is x0 120 120 rfl w (by omega); rw [hL2] at h9; exact h9
  clear h2
  have HL := Lib.hid hL
  have HL2 := Lib.hid hL2
  clear hL hL2
  obtain ⟨a, hha⟩ : ∃ q, numS v0 = q := ⟨_, rfl⟩
  have Ha := Lib.hid hha
  obtain ⟨p, hhp⟩ : ∃ q, prA v1 47 = q := ⟨_, rfl⟩
  have Hp := Lib.hid hhp
  obtain ⟨r, hhr⟩ : ∃ q, prB v1 47 = q := ⟨_, rfl⟩
  have Hr := Lib.hid hhr
  obtain ⟨m, hhm⟩ : ∃ q, numS x1 = q := ⟨_, rfl⟩
  have Hm := Lib.hid hhm
  obtain ⟨k0, hhk0⟩ : ∃ q, okS v0 = q := ⟨_, rfl⟩
  have Hk0 := Lib.hid hhk0
  obtain ⟨k1, hhk1⟩ : ∃ q, prK v1 47 = q := ⟨_, rfl⟩
  have Hk1 := Lib.hid hhk1
  obtain ⟨k2, hhk2⟩ : ∃ q, okS x1 = q := ⟨_, rfl⟩
  have Hk2 := Lib.hid hhk2
  obtain ⟨k3, hhk3⟩ : ∃ q, okSl a p r m = q := ⟨_, rfl⟩
  have Hk3 := Lib.hid hhk3
  clear hha hhp hhr hhm hhk0 hhk1 hhk2 hhk3
  have HN : Hid (¬ (k0 = true ∧ k1 = true ∧ k2 = true ∧ k3 = true) → RdRel t 0 0 0 0 false) := fun h => rel_n3 HL.out HL2.out (by rw [Ha.out, Hp.out, Hr.out, Hm.out, Hk0.out, Hk1.out, Hk2.out, Hk3.out]; exact h)
  have HY : Hid (k0 = true → k1 = true → k2 = true → k3 = true → RdRel t a p r m true) := fun h0 h1 h2 h3 => by have h9 := rel_t HL.out HL2.out (Hk0.out.trans h0) (Hk1.out.trans h1) (Hk2.out.trans h2) (by rw [Ha.out, Hp.out, Hr.out, Hm.out]; exact Hk3.out.trans h3); rw [Ha.out, Hp.out, Hr.out, Hm.out] at h9; exact h9
  have HP : Hid (∀ w : World, Calls Tryd.prog 17 #[.string v1, .int .u8 47] w fun e w' => e = .returned (.tuple #[.int .i64 p, .int .i64 r, .bool k1]) ∧ Below w.heap.size w w') := fun w => by have h9 := pair_is v1 47 47 rfl w (by omega); rw [Hp.out, Hr.out, Hk1.out] at h9; exact h9
  have HO : Hid (∀ (b : Nat) (w : World), C4 w b 0 a p r m → Calls Tryd.prog 11 #[.pointer (some ⟨b, 0, none⟩)] w fun e w' => e = .returned (.bool k3) ∧ w = w') := fun b w h => by have h9 := l07Ok_any a p r m b 0 w h; rw [Hk3.out] at h9; exact h9
  go_enter Tryd.func8, Tryd.ntmps8; go_wp2_with fail
  generalize w.alloc (.cells #[.int .i64 0, .int .i64 0, .int .i64 0, .int .i64 0] 25) = wv at *
  go_at_call 15
  (with_reducible refine (HSP.out _).mono ?_)
  rintro r w1 ⟨A, n, c, rfl, hn, hr, hb⟩
  obtain rfl : n = 2 := hn.symm
  have hy := hb.size
  obtain ⟨g, rfl, _, _, _, c0, _⟩ := hr.cellAt (k := 0) rfl
  obtain ⟨g', eg, _, _, _, c1, _⟩ := hr.cellAt (k := 1) rfl
  simp only [Option.some.injEq, Addr.mk.injEq, and_true] at eg
  subst eg
  replace HX := Lib.hid (HX.out.late hb)
  replace HB := Lib.hid (gr_then hb HB.out)
  clear hr hb hn
  go_wp2_with fail
  go_at_call 15
  (with_reducible refine (HSP2.out _).mono ?_)
  rintro r w2 ⟨A, n, c3, rfl, hn, hr, hb⟩
  obtain rfl : n = 2 := hn.symm
  have hy2 := hb.size
  obtain ⟨g2, rfl, _, _, _, d0, _⟩ := hr.cellAt (k := 0) rfl
  obtain ⟨g', eg, _, _, _, d1, _⟩ := hr.cellAt (k := 1) rfl
  simp only [Option.some.injEq, Addr.mk.injEq, and_true] at eg
  subst eg
  replace c0 := keepc hb c0
  replace c1 := keepc hb c1
  replace HX := Lib.hid (HX.out.late hb)
  replace HB := Lib.hid (gr_then hb HB.out)
  clear hn hr hb
  go_wp2_with fail
  go_at_call 16
  (with_reducible refine (number_is v0 _ (by omega) Ha.out Hk0.out).mono ?_)
  rintro r w3 ⟨rfl, hb⟩
  have hy3 := hb.size
  replace c1 := keepc hb c1
  replace d0 := keepc hb d0
  replace d1 := keepc hb d1
  replace HX := Lib.hid (HX.out.late hb)
  replace HB := Lib.hid (gr_then hb HB.out)
  clear hb
  go_wp2_with fail
  go_at_call 17
  (with_reducible refine (HP.out _).mono ?_)
  rintro r w4 ⟨rfl, hb⟩
  have hy4 := hb.size
  replace c1 := keepc hb c1
  replace HX := Lib.hid (HX.out.late hb)
  replace HB := Lib.hid (gr_then hb HB.out)
  clear hb
  go_wp2_with fail
  go_at_call 16
  (with_reducible refine (number_is x1 _ (by omega) Hm.out Hk2.out).mono ?_)
  rintro r w5 ⟨rfl, hb⟩
  have hy5 := hb.size
  replace HX := Lib.hid (HX.out.late hb)
  replace HB := Lib.hid (gr_then hb HB.out)
  clear hb c0 c1 d0 d1
  have HC := Lib.hid (C4.box w5 25 a p r m)
  have HX5 := Lib.hid (HX.out.late (gr_alloc (o := .cells #[.int .i64 a, .int .i64 p, .int .i64 r, .int .i64 m] 25) (gr_refl w5)))
  obtain ⟨r0, r1, r2, r3⟩ := HX5.out.cs
  have f0 := HX5.out.fr 0
  have f1 := HX5.out.fr 1
  have f2 := HX5.out.fr 2
  have f3 := HX5.out.fr 3
  cases k0
  · go_wp2_with (go_at_call 11; (with_reducible refine (HO.out _ _ HC.out).mono ?_); rintro r w6 ⟨rfl, rfl⟩)
    refine bodyPost_ret (v := .tuple #[.agg #[.int .i64 (0), .int .i64 (0), .int .i64 (0), .int .i64 (0)], .bool false]) (by simp [results, Tryd.results8, go_sem, *]) rfl ?_
    exact ⟨0, 0, 0, 0, false, rfl, HN.out (by simp), (((((gr_alloc HB.out).setCell (by simp) _).setCell (by simp) _).setCell (by simp) _).setCell (by simp) _)⟩
  cases k1
  · go_wp2_with (go_at_call 11; (with_reducible refine (HO.out _ _ HC.out).mono ?_); rintro r w6 ⟨rfl, rfl⟩)
    refine bodyPost_ret (v := .tuple #[.agg #[.int .i64 (0), .int .i64 (0), .int .i64 (0), .int .i64 (0)], .bool false]) (by simp [results, Tryd.results8, go_sem, *]) rfl ?_
    exact ⟨0, 0, 0, 0, false, rfl, HN.out (by simp), (((((gr_alloc HB.out).setCell (by simp) _).setCell (by simp) _).setCell (by simp) _).setCell (by simp) _)⟩
  cases k2
  · go_wp2_with (go_at_call 11; (with_reducible refine (HO.out _ _ HC.out).mono ?_); rintro r w6 ⟨rfl, rfl⟩)
    refine bodyPost_ret (v := .tuple #[.agg #[.int .i64 (0), .int .i64 (0), .int .i64 (0), .int .i64 (0)], .bool false]) (by simp [results, Tryd.results8, go_sem, *]) rfl ?_
    exact ⟨0, 0, 0, 0, false, rfl, HN.out (by simp), (((((gr_alloc HB.out).setCell (by simp) _).setCell (by simp) _).setCell (by simp) _).setCell (by simp) _)⟩
  cases k3
  · go_wp2_with (go_at_call 11; (with_reducible refine (HO.out _ _ HC.out).mono ?_); rintro r w6 ⟨rfl, rfl⟩)
    refine bodyPost_ret (v := .tuple #[.agg #[.int .i64 (0), .int .i64 (0), .int .i64 (0), .int .i64 (0)], .bool false]) (by simp [results, Tryd.results8, go_sem, *]) rfl ?_
    exact ⟨0, 0, 0, 0, false, rfl, HN.out (by simp), (((((gr_alloc HB.out).setCell (by simp) _).setCell (by simp) _).setCell (by simp) _).setCell (by simp) _)⟩
  go_wp2_with (go_at_call 11; (with_reducible refine (HO.out _ _ HC.out).mono ?_); rintro r w6 ⟨rfl, rfl⟩)
  refine bodyPost_ret (v := .tuple #[.agg #[.int .i64 (a), .int .i64 (p), .int .i64 (r), .int .i64 (m)], .bool true]) (by simp [results, Tryd.results8, go_sem, *]) rfl ?_
  exact ⟨a, p, r, m, true, rfl, HY.out (by trivial) (by trivial) (by trivial) (by trivial), (((((gr_alloc HB.out).setCell (by simp) _).setCell (by simp) _).setCell (by simp) _).setCell (by simp) _)⟩
end Go.Proofs.YtnmldhkcbekecaaDoor
