/- TurnMotion, both sides. -/
import Derived.Test.YtoojnfdphjdocaaMotF
import Derived.Test.YtoojnfdphjdocaaApp
import Derived.Laws.CopyOwn
namespace Go.Proofs.Ytoojnfdphjdocaa
open Go.RowKit
def tuOk (a b : Int) : Bool := inI a 0 23 && inI b (-200) 200
def sgn (b : Int) : Int := if b < 0 then -1 else if b = 0 then 0 else 1
def tuS (a b : Int) : Int := if tuOk a b then a else 0
def tuC (a b : Int) : Int := if tuOk a b then 0 else 2
def tuX (a b : Int) : List Int := if tuOk a b then List.replicate b.natAbs (sgn b) else []
theorem tuX_len (a b : Int) : (tuX a b).length ≤ 200 := by
  unfold tuX tuOk
  split
  · rename_i h
    simp only [Bool.and_eq_true] at h
    have := inI_t h.2
    simp; omega
  · simp
set_option maxHeartbeats 8000000 in
theorem specTu_any (a b : Int) (w : World) (_ : -9223372036854775808 ≤ a ∧ a ≤ 9223372036854775807) (hb' : -9223372036854775808 ≤ b ∧ b ≤ 9223372036854775807) : Calls Try.prog 22 #[.int .i64 a, .int .i64 b] w (RetM (tuS a b) (tuX a b) (tuC a b) 2 w) := by
  by_cases h1 : inI a 0 23 = true
  case neg =>
    have h1 := (Bool.not_eq_true _).mp h1
    rw [show tuS a b = 0 by simp [tuS, tuOk, h1], show tuX a b = [] by simp [tuX, tuOk, h1], show tuC a b = 2 by simp [tuC, tuOk, h1]]
    go_enter Try.func22, Try.ntmps22; go_wp2_with (first | (go_at_call 57; (with_reducible refine (dir_is0 (by assumption) (dir02_any _ _)).mono ?_); rintro e w1 ⟨rfl, rfl⟩) | (go_at_call 58; (with_reducible refine (in_is0 (by assumption) (in_any _ _ _ _)).mono ?_); rintro e w1 ⟨rfl, rfl⟩))
    refine bodyPost_ret (v := .tuple #[.agg #[.int .i64 0, .slice none 0 0], .int .i64 2]) (by simp [results, Try.results22, go_sem]) rfl ⟨none, 0, rfl, RS.nil, by repeat' first | exact gr_refl _ | with_reducible assumption | with_reducible apply gr_alloc | with_reducible apply gr_set | with_reducible apply gr_drew | with_reducible apply gr_drewN | exact Nat.le_add_right _ _ | exact Nat.le_refl _ | (refine gr_then (by with_reducible assumption) ?_)⟩
  by_cases h2 : inI b (-200) 200 = true
  case neg =>
    have h2 := (Bool.not_eq_true _).mp h2
    rw [show tuS a b = 0 by simp [tuS, tuOk, h2], show tuX a b = [] by simp [tuX, tuOk, h2], show tuC a b = 2 by simp [tuC, tuOk, h2]]
    go_enter Try.func22, Try.ntmps22; go_wp2_with (first | (go_at_call 57; (with_reducible refine (dir_is0 (by assumption) (dir02_any _ _)).mono ?_); rintro e w1 ⟨rfl, rfl⟩) | (go_at_call 58; (with_reducible refine (in_is0 (by assumption) (in_any _ _ _ _)).mono ?_); rintro e w1 ⟨rfl, rfl⟩))
    refine bodyPost_ret (v := .tuple #[.agg #[.int .i64 0, .slice none 0 0], .int .i64 2]) (by simp [results, Try.results22, go_sem]) rfl ⟨none, 0, rfl, RS.nil, by repeat' first | exact gr_refl _ | with_reducible assumption | with_reducible apply gr_alloc | with_reducible apply gr_set | with_reducible apply gr_drew | with_reducible apply gr_drewN | exact Nat.le_add_right _ _ | exact Nat.le_refl _ | (refine gr_then (by with_reducible assumption) ?_)⟩
  have hb := inI_t h2
  rw [show tuS a b = a by simp [tuS, tuOk, h1, h2], show tuC a b = 0 by simp [tuC, tuOk, h1, h2]]
  obtain ⟨i0, hi, hz0, hz1, hz2⟩ := info_parts infoInt
  by_cases hp : 0 ≤ b
  · obtain ⟨n, rfl⟩ : ∃ n : Nat, b = n := ⟨b.toNat, by omega⟩
    have hx : tuX a n = List.replicate n 1 := by
      unfold tuX tuOk
      rw [h1, h2]
      by_cases h0 : n = 0
      · subst h0; rfl
      · rw [show sgn n = 1 by unfold sgn; rw [if_neg (by omega), if_neg (by omega)]]; rfl
    rw [hx]
    clear hx hb'
    go_enter Try.func22, Try.ntmps22; go_wp2_with (first | (go_at_call 57; (with_reducible refine (dir_is0 (by assumption) (dir02_any _ _)).mono ?_); rintro e w1 ⟨rfl, rfl⟩) | (go_at_call 58; (with_reducible refine (in_is0 (by assumption) (in_any _ _ _ _)).mono ?_); rintro e w1 ⟨rfl, rfl⟩))
    go_loopw [7] (fun k wr => ∃ (j g c : Nat), j ≤ n ∧ k = .int .i64 ((j : Int)) ∧ g ≠ w.heap.size + 1 + 1 ∧ RS (.int .i64) 2 wr (w.heap.size + 1) wr.heap.size (some ⟨g, 0, none⟩) c (List.replicate j 1) ∧ Box2 wr (w.heap.size + 1 + 1) 27 (.int .i64 a) (.slice (some ⟨g, 0, none⟩) j c) ∧ Box2 wr w.heap.size 27 (.int .i64 0) (.slice none 0 0) ∧ Below w.heap.size w wr) (fun k _ => n - (intOf k).toNat)
    case atStart =>
      refine ⟨0, w.heap.size + 1, 0, by omega, by first | rfl | simp, by omega, ?_, ?_, ?_, by repeat' first | exact gr_refl _ | with_reducible assumption | with_reducible apply gr_alloc | with_reducible apply gr_set | with_reducible apply gr_drew | with_reducible apply gr_drewN | exact Nat.le_add_right _ _ | exact Nat.le_refl _ | (refine gr_then (by with_reducible assumption) ?_)⟩
      · have h := RS.lit0 (f := Value.int .i64) (e := 2) (w.alloc (.cells #[.int .i64 0, .slice none 0 0] 27)); rw [World.size_alloc] at h; exact (h.late (gr_alloc (gr_refl _))).top
      · have h := Box2.new ((w.alloc (.cells #[.int .i64 0, .slice none 0 0] 27)).alloc (.cells #[] 2)) 27 (.int .i64 a) (.slice (some ⟨w.heap.size + 1, 0, none⟩) 0 0); simpa using h
      · exact ((Box2.new w 27 (.int .i64 0) (.slice none 0 0)).late (gr_alloc (gr_refl _))).late (gr_alloc (gr_refl _))
    case round =>
      obtain ⟨j, g, c, hj, rfl, hne, hr, hm, hs, hbe⟩ := hrel
      by_cases hlt : j < n
      · skip
        have hlm := hm.lt
        have p0 := hm.c0
        have p1 := hm.c1
        have HR := Lib.hid hr
        have HM := Lib.hid hm
        have HS := Lib.hid hs
        have HB := Lib.hid hbe
        have hgl : w.heap.size + 1 ≤ g := hr.ge
        clear hr hm hs hbe
        go_wp2_with (at_builtin; refine wpList_app rfl _ _ _ rfl (w.heap.size + 1) 2 i0 (.int .i64 0) 8 Try.underlying22 hi hz0 hz1 hz2 rfl (Value.int .i64) (fun _ => rfl) (some ⟨g, 0, none⟩) (j) (c) (List.replicate j (1)) (wr.heap.size) rfl (by simp) (HR.out.late (gr_alloc (gr_refl _))) (some ⟨wr.heap.size, 0, none⟩) (1) (1) ([1]) _ rfl rfl (SV.of_new wr) (fun h => by cases h) (by unfold maxLen; omega) (by omega) (by simp only [World.size_alloc]; omega) ?_; intro A2 c2 w2 hr2 hgrow hblk; obtain ⟨g2, rfl, hg2, _, _⟩ := hr2.isAt (by simp); have hne2 : g2 ≠ w.heap.size + 1 + 1 := (by simp only [Option.some.injEq, Addr.mk.injEq, and_true, World.size_alloc] at hblk; omega); have hbm := (HM.out.late (gr_alloc (gr_refl _))).grown hgrow (by simp; omega); have hbr := (HS.out.late (gr_alloc (gr_refl _))).grown hgrow (by simp; omega); have q1 := hbm.c1; have q2 := hbm.f0 1; have HM2 := Lib.hid hbm; have HS2 := Lib.hid hbr; have HR2 := Lib.hid hr2; have HB2 := Lib.hid ((gr_alloc HB.out).grown hgrow (by have := HB.out.size; simp only [World.size_alloc]; omega) (by intro k' hk'; simp at hk'; omega)); clear hbm hbr hr2 hgrow hblk)
        go_roundw
        case rel => exact ⟨j + 1, g2, c2, by omega, by first | go_num | (apply congrArg; omega), hne2, by rw [List.replicate_succ']; exact (HR2.out.far (p := ⟨w.heap.size + 1 + 1, 1, none⟩) (by intro g' hg' he'; simp at hg' he'; omega) _).wide (Nat.le_refl _) (by simp), HM2.out.put1 _, HS2.out.far (p := ⟨w.heap.size + 1 + 1, 1, none⟩) (by simp; omega) _, HB2.out.setCell (by simp; omega) _⟩
        case measure => simp [intOf]; omega
      · obtain rfl : j = n := by omega
        obtain ⟨hr, hm, hs, hbe⟩ : _ ∧ _ ∧ _ ∧ _ := ⟨hr, hm, hs, hbe⟩
        have p0 := hm.c0
        have p1 := hm.c1
        have p2 := hs.c0
        have p3 := hs.c1
        have p4 := hs.f0 0
        have p5 := hs.f0 1
        have hlm := hm.lt
        have hgl : w.heap.size + 1 ≤ g := hr.ge
        have HR := Lib.hid hr
        have HB := Lib.hid hbe
        clear hr hm hs hbe
        have hd : decide ((j : Int) < 0) = false := decide_eq_false (by omega)
        go_wp2
        go_loopw [8] (fun k w2 => k = .int .i64 j ∧ w2 = wr) (fun _ _ => 0)
        case atStart => exact ⟨rfl, rfl⟩
        case round =>
          obtain ⟨rfl, rfl⟩ := hrel
          go_wp2
          refine bodyPost_ret (v := .tuple #[.agg #[.int .i64 a, .slice (some ⟨g, 0, none⟩) j c], .int .i64 0]) (by simp [results, Try.results22, go_sem, *]) rfl ⟨some ⟨g, 0, none⟩, c, by rw [List.length_replicate], ?_, ?_⟩
          · exact ((HR.out.far (p := ⟨w.heap.size, 0, none⟩) (by intro g' hg' he'; simp at hg' he'; omega) _).far (p := ⟨w.heap.size, 1, none⟩) (by intro g' hg' he'; simp at hg' he'; omega) _).wide (by omega) (by simp)
          · exact (HB.out.setCell (by simp) _).setCell (by simp) _
  · obtain ⟨n, hn1, hn2⟩ : ∃ n : Nat, b + (n : Int) ≤ 0 ∧ 0 ≤ b + (n : Int) := ⟨b.natAbs, by omega, by omega⟩
    have hx : tuX a b = List.replicate n (-1) := by
      unfold tuX tuOk
      rw [h1, h2, show sgn b = -1 from if_pos (by omega), show b.natAbs = n by omega]; rfl
    rw [hx]
    clear hx hb'
    have hp2 : b < 0 := by omega
    have hd0 : decide ((0 : Int) < b) = false := decide_eq_false (by omega)
    clear hp
    go_enter Try.func22, Try.ntmps22; go_wp2_with (first | (go_at_call 57; (with_reducible refine (dir_is0 (by assumption) (dir02_any _ _)).mono ?_); rintro e w1 ⟨rfl, rfl⟩) | (go_at_call 58; (with_reducible refine (in_is0 (by assumption) (in_any _ _ _ _)).mono ?_); rintro e w1 ⟨rfl, rfl⟩))
    go_loopw [7] (fun k w2 => k = .int .i64 0 ∧ w2 = ((w.alloc (.cells #[.int .i64 0, .slice none 0 0] 27)).alloc (.cells #[] 2)).alloc (.cells #[.int .i64 a, .slice (some ⟨w.heap.size + 1, 0, none⟩) 0 0] 27)) (fun _ _ => 0)
    case atStart => exact ⟨rfl, rfl⟩
    case round =>
      obtain ⟨rfl, rfl⟩ := hrel
      go_wp2
      go_loopw [8] (fun k wr => ∃ (j g c : Nat), j ≤ n ∧ k = .int .i64 (b + (j : Int)) ∧ g ≠ w.heap.size + 1 + 1 ∧ RS (.int .i64) 2 wr (w.heap.size + 1) wr.heap.size (some ⟨g, 0, none⟩) c (List.replicate j (-1)) ∧ Box2 wr (w.heap.size + 1 + 1) 27 (.int .i64 a) (.slice (some ⟨g, 0, none⟩) j c) ∧ Box2 wr w.heap.size 27 (.int .i64 0) (.slice none 0 0) ∧ Below w.heap.size w wr) (fun k _ => (- intOf k).toNat)
      case atStart =>
        refine ⟨0, w.heap.size + 1, 0, by omega, by first | rfl | simp, by omega, ?_, ?_, ?_, by repeat' first | exact gr_refl _ | with_reducible assumption | with_reducible apply gr_alloc | with_reducible apply gr_set | with_reducible apply gr_drew | with_reducible apply gr_drewN | exact Nat.le_add_right _ _ | exact Nat.le_refl _ | (refine gr_then (by with_reducible assumption) ?_)⟩
        · have h := RS.lit0 (f := Value.int .i64) (e := 2) (w.alloc (.cells #[.int .i64 0, .slice none 0 0] 27)); rw [World.size_alloc] at h; exact (h.late (gr_alloc (gr_refl _))).top
        · have h := Box2.new ((w.alloc (.cells #[.int .i64 0, .slice none 0 0] 27)).alloc (.cells #[] 2)) 27 (.int .i64 a) (.slice (some ⟨w.heap.size + 1, 0, none⟩) 0 0); simpa using h
        · exact ((Box2.new w 27 (.int .i64 0) (.slice none 0 0)).late (gr_alloc (gr_refl _))).late (gr_alloc (gr_refl _))
      case round =>
        obtain ⟨j, g, c, hj, rfl, hne, hr, hm, hs, hbe⟩ := hrel
        by_cases hlt : j < n
        · have hd1 : b + (j : Int) < 0 := by omega
          have hlm := hm.lt
          have p0 := hm.c0
          have p1 := hm.c1
          have HR := Lib.hid hr
          have HM := Lib.hid hm
          have HS := Lib.hid hs
          have HB := Lib.hid hbe
          have hgl : w.heap.size + 1 ≤ g := hr.ge
          clear hr hm hs hbe
          go_wp2_with (at_builtin; refine wpList_app rfl _ _ _ rfl (w.heap.size + 1) 2 i0 (.int .i64 0) 8 Try.underlying22 hi hz0 hz1 hz2 rfl (Value.int .i64) (fun _ => rfl) (some ⟨g, 0, none⟩) (j) (c) (List.replicate j (-1)) (wr.heap.size) rfl (by simp) (HR.out.late (gr_alloc (gr_refl _))) (some ⟨wr.heap.size, 0, none⟩) (1) (1) ([-1]) _ rfl rfl (SV.of_new wr) (fun h => by cases h) (by unfold maxLen; omega) (by omega) (by simp only [World.size_alloc]; omega) ?_; intro A2 c2 w2 hr2 hgrow hblk; obtain ⟨g2, rfl, hg2, _, _⟩ := hr2.isAt (by simp); have hne2 : g2 ≠ w.heap.size + 1 + 1 := (by simp only [Option.some.injEq, Addr.mk.injEq, and_true, World.size_alloc] at hblk; omega); have hbm := (HM.out.late (gr_alloc (gr_refl _))).grown hgrow (by simp; omega); have hbr := (HS.out.late (gr_alloc (gr_refl _))).grown hgrow (by simp; omega); have q1 := hbm.c1; have q2 := hbm.f0 1; have HM2 := Lib.hid hbm; have HS2 := Lib.hid hbr; have HR2 := Lib.hid hr2; have HB2 := Lib.hid ((gr_alloc HB.out).grown hgrow (by have := HB.out.size; simp only [World.size_alloc]; omega) (by intro k' hk'; simp at hk'; omega)); clear hbm hbr hr2 hgrow hblk)
          go_roundw
          case rel => exact ⟨j + 1, g2, c2, by omega, by first | go_num | (apply congrArg; omega), hne2, by rw [List.replicate_succ']; exact (HR2.out.far (p := ⟨w.heap.size + 1 + 1, 1, none⟩) (by intro g' hg' he'; simp at hg' he'; omega) _).wide (Nat.le_refl _) (by simp), HM2.out.put1 _, HS2.out.far (p := ⟨w.heap.size + 1 + 1, 1, none⟩) (by simp; omega) _, HB2.out.setCell (by simp; omega) _⟩
          case measure => simp [intOf]; omega
        · obtain rfl : j = n := by omega
          obtain ⟨hr, hm, hs, hbe⟩ : _ ∧ _ ∧ _ ∧ _ := ⟨hr, hm, hs, hbe⟩
          have p0 := hm.c0
          have p1 := hm.c1
          have p2 := hs.c0
          have p3 := hs.c1
          have p4 := hs.f0 0
          have p5 := hs.f0 1
          have hlm := hm.lt
          have hgl : w.heap.size + 1 ≤ g := hr.ge
          have HR := Lib.hid hr
          have HB := Lib.hid hbe
          clear hr hm hs hbe
          have hd2 : decide (b + (j : Int) < 0) = false := decide_eq_false (by omega)
          go_wp2
          refine bodyPost_ret (v := .tuple #[.agg #[.int .i64 a, .slice (some ⟨g, 0, none⟩) j c], .int .i64 0]) (by simp [results, Try.results22, go_sem, *]) rfl ⟨some ⟨g, 0, none⟩, c, by rw [List.length_replicate], ?_, ?_⟩
          · exact ((HR.out.far (p := ⟨w.heap.size, 0, none⟩) (by intro g' hg' he'; simp at hg' he'; omega) _).far (p := ⟨w.heap.size, 1, none⟩) (by intro g' hg' he'; simp at hg' he'; omega) _).wide (by omega) (by simp)
          · exact (HB.out.setCell (by simp) _).setCell (by simp) _
end Go.Proofs.Ytoojnfdphjdocaa
