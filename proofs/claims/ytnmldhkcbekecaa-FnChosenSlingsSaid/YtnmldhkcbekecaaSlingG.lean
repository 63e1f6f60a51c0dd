/- Contracts of LeastRise, both sides: the least rise with which a sling holds a weight. -/
import Derived.Test.YtnmldhkcbekecaaSlingF
import Derived.Test.YtnmldhkcbekecaaSlices
import Derived.Deep.LoopGhost
namespace Go.Proofs.Ytnmldhkcbekecaa
open Go.RowKit
def lrF (p : Int → Bool) : Nat → Int → Int
  | 0, _ => 0
  | f + 1, k => if p k = true then k else lrF p f (k + 1)
noncomputable def lrN (ok : Bool) (n k l s : Int) : Int := if ok = true ∧ inI n 0 50000 = true ∧ inI k 0 50000 = true then lrF (hldSl n k l s) 400 1 else 0
noncomputable def lrE (ok : Bool) (n k l s : Int) : Int := if ok = true then (if inI n 0 50000 = true ∧ inI k 0 50000 = true then (if lrF (hldSl n k l s) 400 1 = 0 then 3 else 0) else 2) else 1
/-- what is still to come from k on is the whole -/
def LrInv (p : Int → Bool) (k : Int) : Prop := 1 ≤ k ∧ k ≤ 401 ∧ lrF p (401 - k).toNat k = lrF p 400 1
theorem LrInv.start (p : Int → Bool) : LrInv p 1 := ⟨by omega, by omega, rfl⟩
theorem LrInv.hit {p : Int → Bool} {k : Int} (h : LrInv p k) (hk : k ≤ 400) (hp : p k = true) : lrF p 400 1 = k := by
  obtain ⟨h0, h1, h2⟩ := h
  rw [← h2, show (401 - k).toNat = (400 - k).toNat + 1 by omega]
  exact if_pos hp
theorem LrInv.miss {p : Int → Bool} {k : Int} (h : LrInv p k) (hk : k ≤ 400) (hp : p k = false) : LrInv p (k + 1) := by
  obtain ⟨h0, h1, h2⟩ := h
  refine ⟨by omega, by omega, ?_⟩
  rw [← h2, show (401 - k).toNat = (400 - k).toNat + 1 by omega, show (401 - (k + 1)).toNat = (400 - k).toNat by omega]
  exact (if_neg (by simp [hp])).symm
theorem LrInv.fin {p : Int → Bool} {k : Int} (h : LrInv p k) (hk : ¬ k ≤ 400) : lrF p 400 1 = 0 := by
  obtain ⟨h0, h1, h2⟩ := h
  rw [← h2, show (401 - k).toNat = 0 by omega]
  rfl
theorem BI.c4 {w : World} {g t : Nat} {a b c d : Int} (h : BI w g t [a, b, c, d]) : C4 w g 0 a b c d := ⟨h.cell 0 (by simp), h.cell 1 (by simp), h.cell 2 (by simp), h.cell 3 (by simp)⟩
theorem okSl_rise {l s r m x : Int} (h : okSl l s r m = true) (h1 : 1 ≤ x) (h2 : x ≤ 400) : okSl l s x m = true := by
  have := okSl_t h
  exact okSl_y (by omega)
set_option maxHeartbeats 3000000 in
theorem holds07_any (b o : Nat) (l s r m n k : Int) (w : World) (h : C4 w b o l s r m) (hB : b < w.heap.size) (hok : okSl l s r m = true) (hn : 0 ≤ n) (hn2 : n ≤ 50000) : Calls Try.prog 56 #[.pointer (some ⟨b, o, none⟩), .int .i64 n, .int .i64 k] w fun e w' => e = .returned (.bool (hldSl n k l s r)) ∧ Below w.heap.size w w' := by
  have hcb := clSl_bd l s r
  by_cases h3 : clSl l s r < 3
  · have hne : (clSl l s r != 3) = true := by rw [bne_iff_ne]; omega
    by_cases hu : upSl n l s r ≤ k
    · rw [show hldSl n k l s r = true from decide_eq_true ⟨h3, hu⟩]; go_enter Try.func56, Try.ntmps56; go_wp2_with (first | (go_at_call 46; refine (class07_any _ _ _ _ _ _ _ h hok).mono ?_; rintro e w1 ⟨rfl, q, rfl⟩) | (go_at_call 51; refine (up07_any _ _ _ _ _ _ _ _ (by first | exact h | exact h.drewN) (by first | exact hB | (simp; exact hB)) hok hn hn2).mono ?_; rintro e w1 ⟨rfl, hb⟩)); go_ret; exact ⟨rfl, by repeat' first | exact gr_refl _ | with_reducible assumption | with_reducible apply gr_alloc | with_reducible apply gr_set | with_reducible apply gr_drew | with_reducible apply gr_drewN | exact Nat.le_add_right _ _ | exact Nat.le_refl _ | (refine gr_then (by with_reducible assumption) ?_)⟩
    · have hd := decide_eq_false hu; rw [show hldSl n k l s r = false from decide_eq_false (fun hh => hu hh.2)]; go_enter Try.func56, Try.ntmps56; go_wp2_with (first | (go_at_call 46; refine (class07_any _ _ _ _ _ _ _ h hok).mono ?_; rintro e w1 ⟨rfl, q, rfl⟩) | (go_at_call 51; refine (up07_any _ _ _ _ _ _ _ _ (by first | exact h | exact h.drewN) (by first | exact hB | (simp; exact hB)) hok hn hn2).mono ?_; rintro e w1 ⟨rfl, hb⟩)); go_ret; exact ⟨rfl, by repeat' first | exact gr_refl _ | with_reducible assumption | with_reducible apply gr_alloc | with_reducible apply gr_set | with_reducible apply gr_drew | with_reducible apply gr_drewN | exact Nat.le_add_right _ _ | exact Nat.le_refl _ | (refine gr_then (by with_reducible assumption) ?_)⟩
  · have hd := decide_eq_false h3; have hne : (clSl l s r != 3) = false := by rw [bne_eq_false_iff_eq]; omega
    rw [show hldSl n k l s r = false from decide_eq_false (fun hh => h3 hh.1)]; go_enter Try.func56, Try.ntmps56; go_wp2_with (first | (go_at_call 46; refine (class07_any _ _ _ _ _ _ _ h hok).mono ?_; rintro e w1 ⟨rfl, q, rfl⟩) | (go_at_call 51; refine (up07_any _ _ _ _ _ _ _ _ (by first | exact h | exact h.drewN) (by first | exact hB | (simp; exact hB)) hok hn hn2).mono ?_; rintro e w1 ⟨rfl, hb⟩)); go_ret; exact ⟨rfl, by repeat' first | exact gr_refl _ | with_reducible assumption | with_reducible apply gr_alloc | with_reducible apply gr_set | with_reducible apply gr_drew | with_reducible apply gr_drewN | exact Nat.le_add_right _ _ | exact Nat.le_refl _ | (refine gr_then (by with_reducible assumption) ?_)⟩
set_option maxHeartbeats 3000000 in
theorem holds_any (l s r m n k : Int) (w : World) (hok : okSl l s r m = true) (hn : 0 ≤ n) (hn2 : n ≤ 50000) : Calls Try.prog 57 #[.agg #[.int .i64 l, .int .i64 s, .int .i64 r, .int .i64 m], .int .i64 n, .int .i64 k] w fun e w' => e = .returned (.bool (hldSl n k l s r)) ∧ Below w.heap.size w w' := by
  have hcb := clSl_bd l s r
  have hnd := nd_bd hok hn hn2
  have HU := Lib.hid (show (numSl n s r + denSl l r - 1) / denSl l r = upSl n l s r from rfl)
  by_cases h3 : clSl l s r < 3
  · have hne : (clSl l s r != 3) = true := by rw [bne_iff_ne]; omega
    by_cases hu : upSl n l s r ≤ k
    · rw [show hldSl n k l s r = true from decide_eq_true ⟨h3, hu⟩]; go_enter Try.func57, Try.ntmps57; go_wp2_with (first | (go_at_call 52; refine (force_any _ _ _ _ _ _ hok hn hn2).mono ?_; rintro e w1 ⟨rfl, hb⟩; have hB : Below (w.alloc (.cells #[.int .i64 l, .int .i64 s, .int .i64 r, .int .i64 m] 25)).heap.size (w.alloc (.cells #[.int .i64 l, .int .i64 s, .int .i64 r, .int .i64 m] 25)) w1 := gr_then hb (by repeat' first | exact gr_refl _ | with_reducible assumption | with_reducible apply gr_alloc | with_reducible apply gr_set | with_reducible apply gr_drew | with_reducible apply gr_drewN | exact Nat.le_add_right _ _ | exact Nat.le_refl _ | (refine gr_then (by with_reducible assumption) ?_)); obtain ⟨hc, hf⟩ := bcell hB; have hz := hB.size) | (go_at_call 47; refine (class_any _ _ _ _ _ hok).mono ?_; rintro e w1 ⟨rfl, hb⟩; have hB : Below (w.alloc (.cells #[.int .i64 l, .int .i64 s, .int .i64 r, .int .i64 m] 25)).heap.size (w.alloc (.cells #[.int .i64 l, .int .i64 s, .int .i64 r, .int .i64 m] 25)) w1 := gr_then hb (by repeat' first | exact gr_refl _ | with_reducible assumption | with_reducible apply gr_alloc | with_reducible apply gr_set | with_reducible apply gr_drew | with_reducible apply gr_drewN | exact Nat.le_add_right _ _ | exact Nat.le_refl _ | (refine gr_then (by with_reducible assumption) ?_)); obtain ⟨hc, hf⟩ := bcell hB; have hz := hB.size) | (go_at_call 49; refine (ceil_any _ _ _ (by omega) (by omega) (by omega)).mono ?_; rintro e w1 ⟨rfl, rfl⟩; rw [HU.out])); go_ret; exact ⟨rfl, by repeat' first | exact gr_refl _ | with_reducible assumption | with_reducible apply gr_alloc | with_reducible apply gr_set | with_reducible apply gr_drew | with_reducible apply gr_drewN | exact Nat.le_add_right _ _ | exact Nat.le_refl _ | (refine gr_then (by with_reducible assumption) ?_)⟩
    · have hd := decide_eq_false hu; rw [show hldSl n k l s r = false from decide_eq_false (fun hh => hu hh.2)]; go_enter Try.func57, Try.ntmps57; go_wp2_with (first | (go_at_call 52; refine (force_any _ _ _ _ _ _ hok hn hn2).mono ?_; rintro e w1 ⟨rfl, hb⟩; have hB : Below (w.alloc (.cells #[.int .i64 l, .int .i64 s, .int .i64 r, .int .i64 m] 25)).heap.size (w.alloc (.cells #[.int .i64 l, .int .i64 s, .int .i64 r, .int .i64 m] 25)) w1 := gr_then hb (by repeat' first | exact gr_refl _ | with_reducible assumption | with_reducible apply gr_alloc | with_reducible apply gr_set | with_reducible apply gr_drew | with_reducible apply gr_drewN | exact Nat.le_add_right _ _ | exact Nat.le_refl _ | (refine gr_then (by with_reducible assumption) ?_)); obtain ⟨hc, hf⟩ := bcell hB; have hz := hB.size) | (go_at_call 47; refine (class_any _ _ _ _ _ hok).mono ?_; rintro e w1 ⟨rfl, hb⟩; have hB : Below (w.alloc (.cells #[.int .i64 l, .int .i64 s, .int .i64 r, .int .i64 m] 25)).heap.size (w.alloc (.cells #[.int .i64 l, .int .i64 s, .int .i64 r, .int .i64 m] 25)) w1 := gr_then hb (by repeat' first | exact gr_refl _ | with_reducible assumption | with_reducible apply gr_alloc | with_reducible apply gr_set | with_reducible apply gr_drew | with_reducible apply gr_drewN | exact Nat.le_add_right _ _ | exact Nat.le_refl _ | (refine gr_then (by with_reducible assumption) ?_)); obtain ⟨hc, hf⟩ := bcell hB; have hz := hB.size) | (go_at_call 49; refine (ceil_any _ _ _ (by omega) (by omega) (by omega)).mono ?_; rintro e w1 ⟨rfl, rfl⟩; rw [HU.out])); go_ret; exact ⟨rfl, by repeat' first | exact gr_refl _ | with_reducible assumption | with_reducible apply gr_alloc | with_reducible apply gr_set | with_reducible apply gr_drew | with_reducible apply gr_drewN | exact Nat.le_add_right _ _ | exact Nat.le_refl _ | (refine gr_then (by with_reducible assumption) ?_)⟩
  · have hd := decide_eq_false h3; have hne : (clSl l s r != 3) = false := by rw [bne_eq_false_iff_eq]; omega
    rw [show hldSl n k l s r = false from decide_eq_false (fun hh => h3 hh.1)]; go_enter Try.func57, Try.ntmps57; go_wp2_with (first | (go_at_call 52; refine (force_any _ _ _ _ _ _ hok hn hn2).mono ?_; rintro e w1 ⟨rfl, hb⟩; have hB : Below (w.alloc (.cells #[.int .i64 l, .int .i64 s, .int .i64 r, .int .i64 m] 25)).heap.size (w.alloc (.cells #[.int .i64 l, .int .i64 s, .int .i64 r, .int .i64 m] 25)) w1 := gr_then hb (by repeat' first | exact gr_refl _ | with_reducible assumption | with_reducible apply gr_alloc | with_reducible apply gr_set | with_reducible apply gr_drew | with_reducible apply gr_drewN | exact Nat.le_add_right _ _ | exact Nat.le_refl _ | (refine gr_then (by with_reducible assumption) ?_)); obtain ⟨hc, hf⟩ := bcell hB; have hz := hB.size) | (go_at_call 47; refine (class_any _ _ _ _ _ hok).mono ?_; rintro e w1 ⟨rfl, hb⟩; have hB : Below (w.alloc (.cells #[.int .i64 l, .int .i64 s, .int .i64 r, .int .i64 m] 25)).heap.size (w.alloc (.cells #[.int .i64 l, .int .i64 s, .int .i64 r, .int .i64 m] 25)) w1 := gr_then hb (by repeat' first | exact gr_refl _ | with_reducible assumption | with_reducible apply gr_alloc | with_reducible apply gr_set | with_reducible apply gr_drew | with_reducible apply gr_drewN | exact Nat.le_add_right _ _ | exact Nat.le_refl _ | (refine gr_then (by with_reducible assumption) ?_)); obtain ⟨hc, hf⟩ := bcell hB; have hz := hB.size) | (go_at_call 49; refine (ceil_any _ _ _ (by omega) (by omega) (by omega)).mono ?_; rintro e w1 ⟨rfl, rfl⟩; rw [HU.out])); go_ret; exact ⟨rfl, by repeat' first | exact gr_refl _ | with_reducible assumption | with_reducible apply gr_alloc | with_reducible apply gr_set | with_reducible apply gr_drew | with_reducible apply gr_drewN | exact Nat.le_add_right _ _ | exact Nat.le_refl _ | (refine gr_then (by with_reducible assumption) ?_)⟩
set_option maxHeartbeats 4000000 in
theorem specLr_any (l s r m n k : Int) (w : World) : Calls Try.prog 29 #[.agg #[.int .i64 l, .int .i64 s, .int .i64 r, .int .i64 m], .int .i64 n, .int .i64 k] w fun e w' => e = .returned (.tuple #[.int .i64 (lrN (okSl l s r m) n k l s), .int .i64 (lrE (okSl l s r m) n k l s)]) ∧ Below w.heap.size w w' := by
  have hC := C4.box w 25 l s r m
  by_cases hok : okSl l s r m = true
  case neg => have hok := (Bool.not_eq_true _).mp hok; have hcd2 : codeSl false n 0 = 1 := codeSl_n rfl; rw [show lrN (okSl l s r m) n k l s = 0 from if_neg (by simp [hok]), show lrE (okSl l s r m) n k l s = 1 from if_neg (by simp [hok])]; go_enter Try.func29, Try.ntmps29; go_wp2_with (first | (go_at_call 44; refine (code07_any _ _ _ _ _ _ _ hC _).mono ?_; rintro e w1 ⟨rfl, rfl⟩) | (go_at_call 55; refine (in_any _ _ _ _).mono ?_; rintro e w1 ⟨rfl, rfl⟩)); go_returns; exact ⟨rfl, by repeat' first | exact gr_refl _ | with_reducible assumption | with_reducible apply gr_alloc | with_reducible apply gr_set | with_reducible apply gr_drew | with_reducible apply gr_drewN | exact Nat.le_add_right _ _ | exact Nat.le_refl _ | (refine gr_then (by with_reducible assumption) ?_)⟩
  by_cases hi : inI n 0 50000 = true
  case neg => have hi := (Bool.not_eq_true _).mp hi; have hcd2 : codeSl true n 0 = 2 := codeSl_r rfl (.inl hi); rw [show lrN (okSl l s r m) n k l s = 0 from if_neg (by simp [hi]), show lrE (okSl l s r m) n k l s = 2 from (if_pos hok).trans (if_neg (by simp [hi]))]; go_enter Try.func29, Try.ntmps29; go_wp2_with (first | (go_at_call 44; refine (code07_any _ _ _ _ _ _ _ hC _).mono ?_; rintro e w1 ⟨rfl, rfl⟩) | (go_at_call 55; refine (in_any _ _ _ _).mono ?_; rintro e w1 ⟨rfl, rfl⟩)); go_returns; exact ⟨rfl, by repeat' first | exact gr_refl _ | with_reducible assumption | with_reducible apply gr_alloc | with_reducible apply gr_set | with_reducible apply gr_drew | with_reducible apply gr_drewN | exact Nat.le_add_right _ _ | exact Nat.le_refl _ | (refine gr_then (by with_reducible assumption) ?_)⟩
  by_cases hk : inI k 0 50000 = true
  case neg => have hk := (Bool.not_eq_true _).mp hk; have hcd2 : codeSl true n 0 = 0 := codeSl_y rfl hi in0; rw [show lrN (okSl l s r m) n k l s = 0 from if_neg (by simp [hk]), show lrE (okSl l s r m) n k l s = 2 from (if_pos hok).trans (if_neg (by simp [hk]))]; go_enter Try.func29, Try.ntmps29; go_wp2_with (first | (go_at_call 44; refine (code07_any _ _ _ _ _ _ _ hC _).mono ?_; rintro e w1 ⟨rfl, rfl⟩) | (go_at_call 55; refine (in_any _ _ _ _).mono ?_; rintro e w1 ⟨rfl, rfl⟩)); go_returns; exact ⟨rfl, by repeat' first | exact gr_refl _ | with_reducible assumption | with_reducible apply gr_alloc | with_reducible apply gr_set | with_reducible apply gr_drew | with_reducible apply gr_drewN | exact Nat.le_add_right _ _ | exact Nat.le_refl _ | (refine gr_then (by with_reducible assumption) ?_)⟩
  have hi2 := inI_t hi
  have hcd2 : codeSl true n 0 = 0 := codeSl_y rfl hi in0
  rw [hok]
  have HN := Lib.hid (show lrN true n k l s = lrF (hldSl n k l s) 400 1 from if_pos ⟨rfl, hi, hk⟩)
  have HE := Lib.hid (show lrE true n k l s = (if lrF (hldSl n k l s) 400 1 = 0 then 3 else 0) from (if_pos rfl).trans (if_pos ⟨hi, hk⟩))
  go_enter Try.func29, Try.ntmps29
  go_wp2_with (first | (go_at_call 44; refine (code07_any _ _ _ _ _ _ _ hC _).mono ?_; rintro e w1 ⟨rfl, rfl⟩) | (go_at_call 55; refine (in_any _ _ _ _).mono ?_; rintro e w1 ⟨rfl, rfl⟩))
  go_loopw [9] (fun a wr => ∃ x y : Int, a = .int .i64 x ∧ LrInv (hldSl n k l s) x ∧ BI wr w.heap.size 25 [l, s, y, m] ∧ Below w.heap.size w wr) (fun a _ => (401 - intOf a).toNat)
  case atStart => exact ⟨1, r, rfl, LrInv.start _, heap_alloc_new w _, by repeat' first | exact gr_refl _ | with_reducible assumption | with_reducible apply gr_alloc | with_reducible apply gr_set | with_reducible apply gr_drew | with_reducible apply gr_drewN | exact Nat.le_add_right _ _ | exact Nat.le_refl _ | (refine gr_then (by with_reducible assumption) ?_)⟩
  case round =>
    obtain ⟨x, y, rfl, hinv, hbi, hbe⟩ := hrel
    have hx1 := hinv.1
    have hx2 := hinv.2.1
    by_cases hle : x ≤ 400
    · have hokx := okSl_rise hok hx1 hle
      have c2 : wr.cell? ⟨w.heap.size, 2, none⟩ = some (.int .i64 y) := hbi.cell 2 (by simp)
      have f2 := hbi.free 2
      have hp : BI (wr.setCell ⟨w.heap.size, 2, none⟩ (.int .i64 x)) w.heap.size 25 [l, s, x, m] := hbi.put 2 x
      have HB := Lib.hid (hbe.setCell (p := ⟨w.heap.size, 2, none⟩) (Nat.le_refl _) (.int .i64 x))
      clear hbi hbe
      by_cases hh : hldSl n k l s x = true
      · have HH := Lib.hid (hinv.hit hle hh)
        clear hinv
        go_wp2_with (go_at_call 56; refine (holds07_any _ _ _ _ _ _ _ _ _ hp.c4 hp.lt hokx hi2.1 hi2.2).mono ?_; rintro e w1 ⟨rfl, hb⟩)
        go_returns
        exact ⟨ret_int2 (by rw [HN.out, HH.out]) (by rw [HE.out, HH.out]; exact (if_neg (by omega)).symm), by have := HB.out; repeat' first | exact gr_refl _ | with_reducible assumption | with_reducible apply gr_alloc | with_reducible apply gr_set | with_reducible apply gr_drew | with_reducible apply gr_drewN | exact Nat.le_add_right _ _ | exact Nat.le_refl _ | (refine gr_then (by with_reducible assumption) ?_)⟩
      · have hh := (Bool.not_eq_true _).mp hh
        have HI := Lib.hid (hinv.miss hle hh)
        clear hinv
        go_wp2_with (go_at_call 56; refine (holds07_any _ _ _ _ _ _ _ _ _ hp.c4 hp.lt hokx hi2.1 hi2.2).mono ?_; rintro e w1 ⟨rfl, hb⟩)
        go_roundw
        case rel => exact ⟨x + 1, x, rfl, HI.out, hp.below hb hp.lt, gr_then hb HB.out⟩
        case measure => simp [intOf]; omega
    · have hd := decide_eq_false hle
      have HH := Lib.hid (hinv.fin hle)
      clear hinv
      have HB := Lib.hid hbe
      clear hbe hbi
      go_wp2
      go_returns
      exact ⟨ret_int2 (by rw [HN.out, HH.out]) (by rw [HE.out, HH.out]; rfl), by have := HB.out; repeat' first | exact gr_refl _ | with_reducible assumption | with_reducible apply gr_alloc | with_reducible apply gr_set | with_reducible apply gr_drew | with_reducible apply gr_drewN | exact Nat.le_add_right _ _ | exact Nat.le_refl _ | (refine gr_then (by with_reducible assumption) ?_)⟩
set_option maxHeartbeats 4000000 in
theorem implLr_any (l s r m n k : Int) (w : World) : Calls Try.prog 30 #[.agg #[.int .i64 l, .int .i64 s, .int .i64 r, .int .i64 m], .int .i64 n, .int .i64 k] w fun e w' => e = .returned (.tuple #[.int .i64 (lrN (okSl l s r m) n k l s), .int .i64 (lrE (okSl l s r m) n k l s)]) ∧ Below w.heap.size w w' := by
  by_cases hok : okSl l s r m = true
  case neg => have hok := (Bool.not_eq_true _).mp hok; have hcd2 : codeSl false n k = 1 := codeSl_n rfl; rw [show lrN (okSl l s r m) n k l s = 0 from if_neg (by simp [hok]), show lrE (okSl l s r m) n k l s = 1 from if_neg (by simp [hok])]; go_enter Try.func30, Try.ntmps30; go_wp2_with (first | (go_at_call 45; refine (slingCode_any _ _ _ _ _ _ _).mono ?_; rintro e w1 ⟨rfl, hb⟩; have hB : Below (w.alloc (.cells #[.int .i64 l, .int .i64 s, .int .i64 r, .int .i64 m] 25)).heap.size (w.alloc (.cells #[.int .i64 l, .int .i64 s, .int .i64 r, .int .i64 m] 25)) w1 := gr_then hb (by repeat' first | exact gr_refl _ | with_reducible assumption | with_reducible apply gr_alloc | with_reducible apply gr_set | with_reducible apply gr_drew | with_reducible apply gr_drewN | exact Nat.le_add_right _ _ | exact Nat.le_refl _ | (refine gr_then (by with_reducible assumption) ?_)); obtain ⟨hc, hf⟩ := bcell hB; have hz := hB.size)); go_returns; exact ⟨rfl, by repeat' first | exact gr_refl _ | with_reducible assumption | with_reducible apply gr_alloc | with_reducible apply gr_set | with_reducible apply gr_drew | with_reducible apply gr_drewN | exact Nat.le_add_right _ _ | exact Nat.le_refl _ | (refine gr_then (by with_reducible assumption) ?_)⟩
  by_cases hi : inI n 0 50000 = true
  case neg => have hi := (Bool.not_eq_true _).mp hi; have hcd2 : codeSl true n k = 2 := codeSl_r rfl (.inl hi); rw [show lrN (okSl l s r m) n k l s = 0 from if_neg (by simp [hi]), show lrE (okSl l s r m) n k l s = 2 from (if_pos hok).trans (if_neg (by simp [hi]))]; go_enter Try.func30, Try.ntmps30; go_wp2_with (first | (go_at_call 45; refine (slingCode_any _ _ _ _ _ _ _).mono ?_; rintro e w1 ⟨rfl, hb⟩; have hB : Below (w.alloc (.cells #[.int .i64 l, .int .i64 s, .int .i64 r, .int .i64 m] 25)).heap.size (w.alloc (.cells #[.int .i64 l, .int .i64 s, .int .i64 r, .int .i64 m] 25)) w1 := gr_then hb (by repeat' first | exact gr_refl _ | with_reducible assumption | with_reducible apply gr_alloc | with_reducible apply gr_set | with_reducible apply gr_drew | with_reducible apply gr_drewN | exact Nat.le_add_right _ _ | exact Nat.le_refl _ | (refine gr_then (by with_reducible assumption) ?_)); obtain ⟨hc, hf⟩ := bcell hB; have hz := hB.size)); go_returns; exact ⟨rfl, by repeat' first | exact gr_refl _ | with_reducible assumption | with_reducible apply gr_alloc | with_reducible apply gr_set | with_reducible apply gr_drew | with_reducible apply gr_drewN | exact Nat.le_add_right _ _ | exact Nat.le_refl _ | (refine gr_then (by with_reducible assumption) ?_)⟩
  by_cases hk : inI k 0 50000 = true
  case neg => have hk := (Bool.not_eq_true _).mp hk; have hcd2 : codeSl true n k = 2 := codeSl_r rfl (.inr hk); rw [show lrN (okSl l s r m) n k l s = 0 from if_neg (by simp [hk]), show lrE (okSl l s r m) n k l s = 2 from (if_pos hok).trans (if_neg (by simp [hk]))]; go_enter Try.func30, Try.ntmps30; go_wp2_with (first | (go_at_call 45; refine (slingCode_any _ _ _ _ _ _ _).mono ?_; rintro e w1 ⟨rfl, hb⟩; have hB : Below (w.alloc (.cells #[.int .i64 l, .int .i64 s, .int .i64 r, .int .i64 m] 25)).heap.size (w.alloc (.cells #[.int .i64 l, .int .i64 s, .int .i64 r, .int .i64 m] 25)) w1 := gr_then hb (by repeat' first | exact gr_refl _ | with_reducible assumption | with_reducible apply gr_alloc | with_reducible apply gr_set | with_reducible apply gr_drew | with_reducible apply gr_drewN | exact Nat.le_add_right _ _ | exact Nat.le_refl _ | (refine gr_then (by with_reducible assumption) ?_)); obtain ⟨hc, hf⟩ := bcell hB; have hz := hB.size)); go_returns; exact ⟨rfl, by repeat' first | exact gr_refl _ | with_reducible assumption | with_reducible apply gr_alloc | with_reducible apply gr_set | with_reducible apply gr_drew | with_reducible apply gr_drewN | exact Nat.le_add_right _ _ | exact Nat.le_refl _ | (refine gr_then (by with_reducible assumption) ?_)⟩
  have hi2 := inI_t hi
  have hcd2 : codeSl true n k = 0 := codeSl_y rfl hi hk
  rw [hok]
  have HN := Lib.hid (show lrN true n k l s = lrF (hldSl n k l s) 400 1 from if_pos ⟨rfl, hi, hk⟩)
  have HE := Lib.hid (show lrE true n k l s = (if lrF (hldSl n k l s) 400 1 = 0 then 3 else 0) from (if_pos rfl).trans (if_pos ⟨hi, hk⟩))
  go_enter Try.func30, Try.ntmps30
  go_wp2_with (first | (go_at_call 45; refine (slingCode_any _ _ _ _ _ _ _).mono ?_; rintro e w1 ⟨rfl, hb⟩; have hB : Below (w.alloc (.cells #[.int .i64 l, .int .i64 s, .int .i64 r, .int .i64 m] 25)).heap.size (w.alloc (.cells #[.int .i64 l, .int .i64 s, .int .i64 r, .int .i64 m] 25)) w1 := gr_then hb (by repeat' first | exact gr_refl _ | with_reducible assumption | with_reducible apply gr_alloc | with_reducible apply gr_set | with_reducible apply gr_drew | with_reducible apply gr_drewN | exact Nat.le_add_right _ _ | exact Nat.le_refl _ | (refine gr_then (by with_reducible assumption) ?_)); have hbi : BI w1 w.heap.size 25 [l, s, r, m] := (hB.block w.heap.size (by simp)).trans (heap_alloc_new w _); have f2 := hbi.free 2; have hbx : BI (w1.setCell ⟨w.heap.size, 2, none⟩ (.int .i64 1)) w.heap.size 25 [l, s, 1, m] := hbi.put 2 1; obtain ⟨hc, hf⟩ := bcell hB; have hz := hB.size))
  have hbe0 : Below w.heap.size w (w1.setCell ⟨w.heap.size, 2, none⟩ (.int .i64 1)) := (gr_then hB (gr_alloc (gr_refl w))).setCell (Nat.le_refl _) _
  have HX := Lib.hid (And.intro hbx hbe0)
  clear hb hB hbi hbx hbe0 hc hf hz f2
  go_loopg [6, 7] 400 (fun j _ _ wr => ∃ x : Int, (j : Int) = 401 - x ∧ LrInv (hldSl n k l s) x ∧ BI wr w.heap.size 25 [l, s, x, m] ∧ Below w.heap.size w wr)
  case atStart => exact ⟨1, by omega, LrInv.start _, HX.out.1, HX.out.2⟩
  case round =>
    obtain ⟨x, hj, hinv, hbi, hbe⟩ := hrel
    have HJ := Lib.hid hj
    clear hj HX
    have hx1 := hinv.1
    have hx2 := hinv.2.1
    obtain ⟨c0, c1, c2, c3⟩ := hbi.c4
    simp only [Nat.zero_add] at c1 c2 c3
    have hlt := hbi.lt
    have f2 := hbi.free 2
    have HB := Lib.hid hbe
    clear hbe
    by_cases hle : x ≤ 400
    · have hokx := okSl_rise hok hx1 hle
      by_cases hh : hldSl n k l s x = true
      · have HH := Lib.hid (hinv.hit hle hh)
        clear hinv
        go_wp2_with (go_at_call 57; refine (holds_any _ _ _ _ _ _ _ hokx hi2.1 hi2.2).mono ?_; rintro e w2 ⟨rfl, hb⟩; have hbj := hbi.below hb hlt; obtain ⟨d0, d1, d2, d3⟩ := hbj.c4; simp only [Nat.zero_add] at d1 d2 d3)
        go_returns
        exact ⟨ret_int2 (by rw [HN.out, HH.out]) (by rw [HE.out, HH.out]; exact (if_neg (by omega)).symm), gr_then hb HB.out⟩
      · have hh := (Bool.not_eq_true _).mp hh
        have HI := Lib.hid (hinv.miss hle hh)
        clear hinv
        go_wp2_with (go_at_call 57; refine (holds_any _ _ _ _ _ _ _ hokx hi2.1 hi2.2).mono ?_; rintro e w2 ⟨rfl, hb⟩; have hbj := hbi.below hb hlt; obtain ⟨d0, d1, d2, d3⟩ := hbj.c4; simp only [Nat.zero_add] at d1 d2 d3; have g2 := hbj.free 2)
        go_roundg (gk - 1)
        case rel => exact ⟨x + 1, by have := HJ.out; omega, HI.out, hbj.put 2 (x + 1), (gr_then hb HB.out).setCell (Nat.le_refl _) _⟩
        case measure => have := HJ.out; omega
    · have hd := decide_eq_false hle
      have HH := Lib.hid (hinv.fin hle)
      clear hinv
      go_wp2
      go_returns
      exact ⟨ret_int2 (by rw [HN.out, HH.out]) (by rw [HE.out, HH.out]; rfl), HB.out⟩
end Go.Proofs.Ytnmldhkcbekecaa
