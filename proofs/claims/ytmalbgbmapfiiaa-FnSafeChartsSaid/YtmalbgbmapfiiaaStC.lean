/- TotalMass, MomentOf, IsStable, both sides. -/
import Derived.Test.YtmalbgbmapfiiaaStS
import Derived.Test.YtmalbgbmapfiiaaSrc
namespace Go.Proofs.Ytmalbgbmapfiiaa
open Go.RowKit Go.Deep
theorem retB_n {k K : Int} {b : Bool} (h : k = K) (hk : ¬ K = 0) : Ending.returned (.tuple #[.bool false, .int .i64 K]) = .returned (.tuple #[.bool (decide (k = 0) && b), .int .i64 k]) := by subst h; simp [hk]
theorem retB_y {k : Int} {b c : Bool} (h : k = 0) (hb : c = b) : Ending.returned (.tuple #[.bool c, .int .i64 0]) = .returned (.tuple #[.bool (decide (k = 0) && b), .int .i64 k]) := by subst h; subst hb; simp
theorem retN_n {k K v : Int} (h : k = K) (hk : ¬ K = 0) : Ending.returned (.tuple #[.int .i64 0, .int .i64 K]) = .returned (.tuple #[.int .i64 (zif k v), .int .i64 k]) := by subst h; rw [zif_n hk]
theorem retN_y {k v u : Int} (h : k = 0) (hv : u = v) : Ending.returned (.tuple #[.int .i64 u, .int .i64 0]) = .returned (.tuple #[.int .i64 (zif k v), .int .i64 k]) := by subst h; subst hv; rw [zif_y rfl]
theorem retF_n {k K v u : Int} (h : k = K) (hk : ¬ K = 0) : Ending.returned (.tuple #[.agg #[.int .i64 0, .int .i64 0], .int .i64 K]) = .returned (.tuple #[.agg #[.int .i64 (zif k v), .int .i64 (zif k u)], .int .i64 k]) := by subst h; rw [zif_n hk, zif_n hk]
theorem retF_y {k v u a b : Int} (h : k = 0) (hv : a = v) (hu : b = u) : Ending.returned (.tuple #[.agg #[.int .i64 a, .int .i64 b], .int .i64 0]) = .returned (.tuple #[.agg #[.int .i64 (zif k v), .int .i64 (zif k u)], .int .i64 k]) := by subst h; subst hv; subst hu; rw [zif_y rfl, zif_y rfl]
set_option maxHeartbeats 8000000 in
set_option maxRecDepth 20000 in
theorem implSt_any (x0 x1 x2 x3 x4 x5 x6 : Int) (ld r pc : Int) (w : World) : Calls Try.prog 12 #[.agg #[.int .i64 x0, .int .i64 x1, .int .i64 x2, .int .i64 x3, .int .i64 x4, .int .i64 x5, .int .i64 x6], .int .i64 ld, .int .i64 r, .int .i64 pc] w fun e w' => e = .returned (.tuple #[.bool (decide (codB (okB x0 x1 x2 x3 x4 x5 x6) ld r pc = 0) && stB x0 (totB x1 x2 x3 x5 ld) (momB x3 x4 x5 x6 ld r) pc), .int .i64 (codB (okB x0 x1 x2 x3 x4 x5 x6) ld r pc)]) ∧ Below w.heap.size w w' := by
  have B0 := Lib.hid (show BI (w.alloc (.cells #[.int .i64 x0, .int .i64 x1, .int .i64 x2, .int .i64 x3, .int .i64 x4, .int .i64 x5, .int .i64 x6] 25)) w.heap.size 25 [x0, x1, x2, x3, x4, x5, x6] from heap_alloc_new w _)
  have HB := Lib.hid (show Below w.heap.size w (w.alloc (.cells #[.int .i64 x0, .int .i64 x1, .int .i64 x2, .int .i64 x3, .int .i64 x4, .int .i64 x5, .int .i64 x6] 25)) by repeat' first | exact gr_refl _ | with_reducible assumption | with_reducible apply gr_alloc | with_reducible apply gr_set | with_reducible apply gr_drew | with_reducible apply gr_drewN | exact Nat.le_add_right _ _ | exact Nat.le_refl _ | (refine gr_then (by with_reducible assumption) ?_))
  have cB0_0 := B0.out.cell 0 (by simp)
  have cB0_1 := B0.out.cell 1 (by simp)
  have cB0_2 := B0.out.cell 2 (by simp)
  have cB0_3 := B0.out.cell 3 (by simp)
  have cB0_4 := B0.out.cell 4 (by simp)
  have cB0_5 := B0.out.cell 5 (by simp)
  have cB0_6 := B0.out.cell 6 (by simp)
  simp only [List.getD_cons_zero, List.getD_cons_succ] at cB0_0 cB0_1 cB0_2 cB0_3 cB0_4 cB0_5 cB0_6
  go_enter Try.func12, Try.ntmps12
  go_wp2_with fail
  generalize w.alloc (.cells #[.int .i64 x0, .int .i64 x1, .int .i64 x2, .int .i64 x3, .int .i64 x4, .int .i64 x5, .int .i64 x6] 25) = v0 at *
  go_at_call 18
  (with_reducible refine (baseCode_any x0 x1 x2 x3 x4 x5 x6 ld r pc _).mono ?_)
  rintro e w1 ⟨rfl, hb⟩
  clear cB0_0 cB0_1 cB0_2 cB0_3 cB0_4 cB0_5 cB0_6
  replace B0 := Lib.hid (B0.out.late hb)
  replace HB := Lib.hid (gr_then hb HB.out)
  clear hb
  have HK := codB_bd (okB x0 x1 x2 x3 x4 x5 x6) ld r pc
  obtain ⟨K, hK⟩ : ∃ K, codB (okB x0 x1 x2 x3 x4 x5 x6) ld r pc = K := ⟨_, rfl⟩
  rw [hK]
  rw [hK] at HK
  have hK2 := Lib.hid hK
  clear hK
  by_cases hk0 : K = 0
  case neg =>
    have hd : (K != 0) = true := bne_iff_ne.2 hk0
    go_wp2
    go_returns
    exact ⟨retB_n hK2.out hk0, by repeat' (first | with_reducible exact HB.out | (with_reducible refine gr_drewN ?_) | (with_reducible refine gr_drew ?_))⟩
  subst hk0
  obtain ⟨hok, hl, hr, hp⟩ := codB_t hK2.out
  have HOK := Lib.hid hok
  have cB0_0 := B0.out.cell 0 (by simp)
  have cB0_1 := B0.out.cell 1 (by simp)
  have cB0_2 := B0.out.cell 2 (by simp)
  have cB0_3 := B0.out.cell 3 (by simp)
  have cB0_4 := B0.out.cell 4 (by simp)
  have cB0_5 := B0.out.cell 5 (by simp)
  have cB0_6 := B0.out.cell 6 (by simp)
  simp only [List.getD_cons_zero, List.getD_cons_succ] at cB0_0 cB0_1 cB0_2 cB0_3 cB0_4 cB0_5 cB0_6
  go_wp2_with fail
  go_at_call 20
  (with_reducible refine (stable_any x0 x1 x2 x3 x4 x5 x6 ld r pc _ HOK.out hl hr hp).mono ?_)
  rintro e w2 ⟨rfl, hb⟩
  replace HB := Lib.hid (gr_then hb HB.out)
  go_wp2
  go_returns
  exact ⟨retB_y hK2.out rfl, by repeat' (first | with_reducible exact HB.out | (with_reducible refine gr_drewN ?_) | (with_reducible refine gr_drew ?_))⟩
end Go.Proofs.Ytmalbgbmapfiiaa
