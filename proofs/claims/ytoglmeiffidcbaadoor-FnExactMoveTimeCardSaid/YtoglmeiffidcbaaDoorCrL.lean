/- Cranes and segments in the law: the size, the conversion, the comparison. -/
import Derived.Test.YtoglmeiffidcbaaDoorBoom
import Derived.Test.YtoglmeiffidcbaaDoorConvChartStep
namespace Go.Proofs.YtoglmeiffidcbaaDoor
open Go.RowKit Go.Deep
theorem keepf {W w1 : World} {b o : Nat} (hb : Below W.heap.size W w1) (hl : b < W.heap.size) (h : W.frozen? ⟨b, o, none⟩ = false) : w1.frozen? ⟨b, o, none⟩ = false := ((bcell hb).2 b o hl).trans h
theorem toPt_any (a b : Int) (w : World) : Calls Tryd.prog 12 #[.agg #[.int .i64 a, .int .i64 b]] w fun e w' => e = .returned (.agg #[.int .i64 a, .int .i64 b]) ∧ Below w.heap.size w w' := by
  go_enter Tryd.func12, Tryd.ntmps12; go_wp2; go_returns; exact ⟨rfl, by repeat' first | exact gr_refl _ | with_reducible assumption | with_reducible apply gr_alloc | with_reducible apply gr_set | with_reducible apply gr_drew | with_reducible apply gr_drewN | exact Nat.le_add_right _ _ | exact Nat.le_refl _ | (refine gr_then (by with_reducible assumption) ?_)⟩
theorem eqPt_same (a b : Int) (w : World) : Calls Tryd.prog 41 #[.agg #[.int .i64 a, .int .i64 b], .agg #[.int .i64 a, .int .i64 b]] w fun e w' => e = .returned (.bool true) ∧ Below w.heap.size w w' := by
  go_enter Tryd.func41, Tryd.ntmps41; go_wp2; go_returns; exact ⟨rfl, by repeat' first | exact gr_refl _ | with_reducible assumption | with_reducible apply gr_alloc | with_reducible apply gr_set | with_reducible apply gr_drew | with_reducible apply gr_drewN | exact Nat.le_add_right _ _ | exact Nat.le_refl _ | (refine gr_then (by with_reducible assumption) ?_)⟩
def szC (left : Int) (a n : Nat) : Int := if left < a then -1 else if left - a < n then -1 else left - a - n
set_option maxHeartbeats 2000000 in
theorem szCrane_any (x : Cr) (A : Option Addr) (n c : Nat) (left : Int) (w : World) (hn : n ≤ 9223372036854775807) (hm : x.nm.size ≤ 9223372036854775807) (h0 : 0 ≤ left) (h1 : left ≤ 1048576) : Calls Tryd.prog 8 #[.agg #[.string x.nm, .int .i64 x.px, .int .i64 x.py, .int .i64 x.hg, .int .i64 x.jb, .int .i64 x.bk, .slice A n c], .int .i64 left] w fun e w' => e = .returned (.int .i64 (szC left x.nm.size n)) ∧ Below w.heap.size w w' := by
  have hB0 : Below w.heap.size w (w.alloc (.cells #[.string x.nm, .int .i64 x.px, .int .i64 x.py, .int .i64 x.hg, .int .i64 x.jb, .int .i64 x.bk, .slice A n c] 29)) := gr_alloc (gr_refl _)
  have HB := Lib.hid hB0
  clear hB0
  by_cases h2 : left < x.nm.size
  · have hd : decide (left - (x.nm.size : Int) < 0) = true := decide_eq_true (by omega)
    rw [show szC left x.nm.size n = -1 from if_pos h2]
    go_enter Tryd.func8, Tryd.ntmps8
    go_wp2_with fail
    go_returns
    exact ⟨rfl, HB.out⟩
  have hd : decide (left - (x.nm.size : Int) < 0) = false := decide_eq_false (by omega)
  rw [show szC left x.nm.size n = if left - x.nm.size < n then -1 else left - x.nm.size - n from if_neg h2]
  by_cases h3 : left - (x.nm.size : Int) < n
  · rw [if_pos h3]; go_enter Tryd.func8, Tryd.ntmps8; go_wp2_with (go_at_call 31; (with_reducible refine (szChartStepS_any _ _ _ _ _ hn (by omega) (by omega)).mono ?_); rw [if_pos h3]; rintro e w1 ⟨rfl, rfl⟩); go_returns; exact ⟨rfl, HB.out⟩
  · rw [if_neg h3]; have hd3 : decide (left - (x.nm.size : Int) - (n : Int) < 0) = false := decide_eq_false (by omega); go_enter Tryd.func8, Tryd.ntmps8; go_wp2_with (go_at_call 31; (with_reducible refine (szChartStepS_any _ _ _ _ _ hn (by omega) (by omega)).mono ?_); rw [if_neg h3]; rintro e w1 ⟨rfl, rfl⟩); go_returns; exact ⟨rfl, HB.out⟩
set_option maxHeartbeats 16000000 in
set_option maxRecDepth 20000 in
theorem toCrane_any (x : Cr) (A : Option Addr) (n c : Nat) (w : World) (hn : n ≤ 1048576) (hz : x.zs.length = n * 2) (h : SI w w.heap.size A x.zs) : Calls Tryd.prog 10 #[.agg #[.string x.nm, .int .i64 x.px, .int .i64 x.py, .int .i64 x.hg, .int .i64 x.jb, .int .i64 x.bk, .slice A n c]] w fun e w' => ∃ g, e = .returned (.agg #[.string x.nm, .int .i64 x.px, .int .i64 x.py, .int .i64 x.hg, .int .i64 x.jb, .int .i64 x.bk, .slice (some ⟨g, 0, none⟩) n n]) ∧ w.heap.size ≤ g ∧ BI w' g 84 x.zs ∧ Below w.heap.size w w' := by
  have hB0 : Below w.heap.size w (((w.alloc (.cells #[.string x.nm, .int .i64 x.px, .int .i64 x.py, .int .i64 x.hg, .int .i64 x.jb, .int .i64 x.bk, .slice A n c] 29)).alloc (.cells #[.string ⟨#[]⟩, .int .i64 0, .int .i64 0, .int .i64 0, .int .i64 0, .int .i64 0, .slice none 0 0] 38)).alloc (.cells #[.string ⟨#[]⟩, .int .i64 0, .int .i64 0, .int .i64 0, .int .i64 0, .int .i64 0, .slice none 0 0] 38)) := gr_alloc (gr_alloc (gr_alloc (gr_refl _)))
  have HB := Lib.hid hB0
  have HS := Lib.hid h
  clear hB0 h
  have hz0 : w.heap.size + 2 < (((w.alloc (.cells #[.string x.nm, .int .i64 x.px, .int .i64 x.py, .int .i64 x.hg, .int .i64 x.jb, .int .i64 x.bk, .slice A n c] 29)).alloc (.cells #[.string ⟨#[]⟩, .int .i64 0, .int .i64 0, .int .i64 0, .int .i64 0, .int .i64 0, .slice none 0 0] 38)).alloc (.cells #[.string ⟨#[]⟩, .int .i64 0, .int .i64 0, .int .i64 0, .int .i64 0, .int .i64 0, .slice none 0 0] 38)).heap.size := by simp
  have c0 : (((w.alloc (.cells #[.string x.nm, .int .i64 x.px, .int .i64 x.py, .int .i64 x.hg, .int .i64 x.jb, .int .i64 x.bk, .slice A n c] 29)).alloc (.cells #[.string ⟨#[]⟩, .int .i64 0, .int .i64 0, .int .i64 0, .int .i64 0, .int .i64 0, .slice none 0 0] 38)).alloc (.cells #[.string ⟨#[]⟩, .int .i64 0, .int .i64 0, .int .i64 0, .int .i64 0, .int .i64 0, .slice none 0 0] 38)).cell? ⟨w.heap.size, 0, none⟩ = some (.string x.nm) := by simp [go_sem]
  have d0 : (((w.alloc (.cells #[.string x.nm, .int .i64 x.px, .int .i64 x.py, .int .i64 x.hg, .int .i64 x.jb, .int .i64 x.bk, .slice A n c] 29)).alloc (.cells #[.string ⟨#[]⟩, .int .i64 0, .int .i64 0, .int .i64 0, .int .i64 0, .int .i64 0, .slice none 0 0] 38)).alloc (.cells #[.string ⟨#[]⟩, .int .i64 0, .int .i64 0, .int .i64 0, .int .i64 0, .int .i64 0, .slice none 0 0] 38)).cell? ⟨w.heap.size + 1, 0, none⟩ = some (.string ⟨#[]⟩) := by simp [go_sem]
  have k0 : (((w.alloc (.cells #[.string x.nm, .int .i64 x.px, .int .i64 x.py, .int .i64 x.hg, .int .i64 x.jb, .int .i64 x.bk, .slice A n c] 29)).alloc (.cells #[.string ⟨#[]⟩, .int .i64 0, .int .i64 0, .int .i64 0, .int .i64 0, .int .i64 0, .slice none 0 0] 38)).alloc (.cells #[.string ⟨#[]⟩, .int .i64 0, .int .i64 0, .int .i64 0, .int .i64 0, .int .i64 0, .slice none 0 0] 38)).cell? ⟨w.heap.size + 2, 0, none⟩ = some (.string ⟨#[]⟩) := by simp [go_sem]
  have m0 : (((w.alloc (.cells #[.string x.nm, .int .i64 x.px, .int .i64 x.py, .int .i64 x.hg, .int .i64 x.jb, .int .i64 x.bk, .slice A n c] 29)).alloc (.cells #[.string ⟨#[]⟩, .int .i64 0, .int .i64 0, .int .i64 0, .int .i64 0, .int .i64 0, .slice none 0 0] 38)).alloc (.cells #[.string ⟨#[]⟩, .int .i64 0, .int .i64 0, .int .i64 0, .int .i64 0, .int .i64 0, .slice none 0 0] 38)).frozen? ⟨w.heap.size + 1, 0, none⟩ = false := by simp [go_sem]
  have r0 : (((w.alloc (.cells #[.string x.nm, .int .i64 x.px, .int .i64 x.py, .int .i64 x.hg, .int .i64 x.jb, .int .i64 x.bk, .slice A n c] 29)).alloc (.cells #[.string ⟨#[]⟩, .int .i64 0, .int .i64 0, .int .i64 0, .int .i64 0, .int .i64 0, .slice none 0 0] 38)).alloc (.cells #[.string ⟨#[]⟩, .int .i64 0, .int .i64 0, .int .i64 0, .int .i64 0, .int .i64 0, .slice none 0 0] 38)).frozen? ⟨w.heap.size + 2, 0, none⟩ = false := by simp [go_sem]
  have c1 : (((w.alloc (.cells #[.string x.nm, .int .i64 x.px, .int .i64 x.py, .int .i64 x.hg, .int .i64 x.jb, .int .i64 x.bk, .slice A n c] 29)).alloc (.cells #[.string ⟨#[]⟩, .int .i64 0, .int .i64 0, .int .i64 0, .int .i64 0, .int .i64 0, .slice none 0 0] 38)).alloc (.cells #[.string ⟨#[]⟩, .int .i64 0, .int .i64 0, .int .i64 0, .int .i64 0, .int .i64 0, .slice none 0 0] 38)).cell? ⟨w.heap.size, 1, none⟩ = some (.int .i64 x.px) := by simp [go_sem]
  have d1 : (((w.alloc (.cells #[.string x.nm, .int .i64 x.px, .int .i64 x.py, .int .i64 x.hg, .int .i64 x.jb, .int .i64 x.bk, .slice A n c] 29)).alloc (.cells #[.string ⟨#[]⟩, .int .i64 0, .int .i64 0, .int .i64 0, .int .i64 0, .int .i64 0, .slice none 0 0] 38)).alloc (.cells #[.string ⟨#[]⟩, .int .i64 0, .int .i64 0, .int .i64 0, .int .i64 0, .int .i64 0, .slice none 0 0] 38)).cell? ⟨w.heap.size + 1, 1, none⟩ = some (.int .i64 0) := by simp [go_sem]
  have k1 : (((w.alloc (.cells #[.string x.nm, .int .i64 x.px, .int .i64 x.py, .int .i64 x.hg, .int .i64 x.jb, .int .i64 x.bk, .slice A n c] 29)).alloc (.cells #[.string ⟨#[]⟩, .int .i64 0, .int .i64 0, .int .i64 0, .int .i64 0, .int .i64 0, .slice none 0 0] 38)).alloc (.cells #[.string ⟨#[]⟩, .int .i64 0, .int .i64 0, .int .i64 0, .int .i64 0, .int .i64 0, .slice none 0 0] 38)).cell? ⟨w.heap.size + 2, 1, none⟩ = some (.int .i64 0) := by simp [go_sem]
  have m1 : (((w.alloc (.cells #[.string x.nm, .int .i64 x.px, .int .i64 x.py, .int .i64 x.hg, .int .i64 x.jb, .int .i64 x.bk, .slice A n c] 29)).alloc (.cells #[.string ⟨#[]⟩, .int .i64 0, .int .i64 0, .int .i64 0, .int .i64 0, .int .i64 0, .slice none 0 0] 38)).alloc (.cells #[.string ⟨#[]⟩, .int .i64 0, .int .i64 0, .int .i64 0, .int .i64 0, .int .i64 0, .slice none 0 0] 38)).frozen? ⟨w.heap.size + 1, 1, none⟩ = false := by simp [go_sem]
  have r1 : (((w.alloc (.cells #[.string x.nm, .int .i64 x.px, .int .i64 x.py, .int .i64 x.hg, .int .i64 x.jb, .int .i64 x.bk, .slice A n c] 29)).alloc (.cells #[.string ⟨#[]⟩, .int .i64 0, .int .i64 0, .int .i64 0, .int .i64 0, .int .i64 0, .slice none 0 0] 38)).alloc (.cells #[.string ⟨#[]⟩, .int .i64 0, .int .i64 0, .int .i64 0, .int .i64 0, .int .i64 0, .slice none 0 0] 38)).frozen? ⟨w.heap.size + 2, 1, none⟩ = false := by simp [go_sem]
  have c2 : (((w.alloc (.cells #[.string x.nm, .int .i64 x.px, .int .i64 x.py, .int .i64 x.hg, .int .i64 x.jb, .int .i64 x.bk, .slice A n c] 29)).alloc (.cells #[.string ⟨#[]⟩, .int .i64 0, .int .i64 0, .int .i64 0, .int .i64 0, .int .i64 0, .slice none 0 0] 38)).alloc (.cells #[.string ⟨#[]⟩, .int .i64 0, .int .i64 0, .int .i64 0, .int .i64 0, .int .i64 0, .slice none 0 0] 38)).cell? ⟨w.heap.size, 2, none⟩ = some (.int .i64 x.py) := by simp [go_sem]
  have d2 : (((w.alloc (.cells #[.string x.nm, .int .i64 x.px, .int .i64 x.py, .int .i64 x.hg, .int .i64 x.jb, .int .i64 x.bk, .slice A n c] 29)).alloc (.cells #[.string ⟨#[]⟩, .int .i64 0, .int .i64 0, .int .i64 0, .int .i64 0, .int .i64 0, .slice none 0 0] 38)).alloc (.cells #[.string ⟨#[]⟩, .int .i64 0, .int .i64 0, .int .i64 0, .int .i64 0, .int .i64 0, .slice none 0 0] 38)).cell? ⟨w.heap.size + 1, 2, none⟩ = some (.int .i64 0) := by simp [go_sem]
  have k2 : (((w.alloc (.cells #[.string x.nm, .int .i64 x.px, .int .i64 x.py, .int .i64 x.hg, .int .i64 x.jb, .int .i64 x.bk, .slice A n c] 29)).alloc (.cells #[.string ⟨#[]⟩, .int .i64 0, .int .i64 0, .int .i64 0, .int .i64 0, .int .i64 0, .slice none 0 0] 38)).alloc (.cells #[.string ⟨#[]⟩, .int .i64 0, .int .i64 0, .int .i64 0, .int .i64 0, .int .i64 0, .slice none 0 0] 38)).cell? ⟨w.heap.size + 2, 2, none⟩ = some (.int .i64 0) := by simp [go_sem]
  have m2 : (((w.alloc (.cells #[.string x.nm, .int .i64 x.px, .int .i64 x.py, .int .i64 x.hg, .int .i64 x.jb, .int .i64 x.bk, .slice A n c] 29)).alloc (.cells #[.string ⟨#[]⟩, .int .i64 0, .int .i64 0, .int .i64 0, .int .i64 0, .int .i64 0, .slice none 0 0] 38)).alloc (.cells #[.string ⟨#[]⟩, .int .i64 0, .int .i64 0, .int .i64 0, .int .i64 0, .int .i64 0, .slice none 0 0] 38)).frozen? ⟨w.heap.size + 1, 2, none⟩ = false := by simp [go_sem]
  have r2 : (((w.alloc (.cells #[.string x.nm, .int .i64 x.px, .int .i64 x.py, .int .i64 x.hg, .int .i64 x.jb, .int .i64 x.bk, .slice A n c] 29)).alloc (.cells #[.string ⟨#[]⟩, .int .i64 0, .int .i64 0, .int .i64 0, .int .i64 0, .int .i64 0, .slice none 0 0] 38)).alloc (.cells #[.string ⟨#[]⟩, .int .i64 0, .int .i64 0, .int .i64 0, .int .i64 0, .int .i64 0, .slice none 0 0] 38)).frozen? ⟨w.heap.size + 2, 2, none⟩ = false := by simp [go_sem]
  have c3 : (((w.alloc (.cells #[.string x.nm, .int .i64 x.px, .int .i64 x.py, .int .i64 x.hg, .int .i64 x.jb, .int .i64 x.bk, .slice A n c] 29)).alloc (.cells #[.string ⟨#[]⟩, .int .i64 0, .int .i64 0, .int .i64 0, .int .i64 0, .int .i64 0, .slice none 0 0] 38)).alloc (.cells #[.string ⟨#[]⟩, .int .i64 0, .int .i64 0, .int .i64 0, .int .i64 0, .int .i64 0, .slice none 0 0] 38)).cell? ⟨w.heap.size, 3, none⟩ = some (.int .i64 x.hg) := by simp [go_sem]
  have d3 : (((w.alloc (.cells #[.string x.nm, .int .i64 x.px, .int .i64 x.py, .int .i64 x.hg, .int .i64 x.jb, .int .i64 x.bk, .slice A n c] 29)).alloc (.cells #[.string ⟨#[]⟩, .int .i64 0, .int .i64 0, .int .i64 0, .int .i64 0, .int .i64 0, .slice none 0 0] 38)).alloc (.cells #[.string ⟨#[]⟩, .int .i64 0, .int .i64 0, .int .i64 0, .int .i64 0, .int .i64 0, .slice none 0 0] 38)).cell? ⟨w.heap.size + 1, 3, none⟩ = some (.int .i64 0) := by simp [go_sem]
  have k3 : (((w.alloc (.cells #[.string x.nm, .int .i64 x.px, .int .i64 x.py, .int .i64 x.hg, .int .i64 x.jb, .int .i64 x.bk, .slice A n c] 29)).alloc (.cells #[.string ⟨#[]⟩, .int .i64 0, .int .i64 0, .int .i64 0, .int .i64 0, .int .i64 0, .slice none 0 0] 38)).alloc (.cells #[.string ⟨#[]⟩, .int .i64 0, .int .i64 0, .int .i64 0, .int .i64 0, .int .i64 0, .slice none 0 0] 38)).cell? ⟨w.heap.size + 2, 3, none⟩ = some (.int .i64 0) := by simp [go_sem]
  have m3 : (((w.alloc (.cells #[.string x.nm, .int .i64 x.px, .int .i64 x.py, .int .i64 x.hg, .int .i64 x.jb, .int .i64 x.bk, .slice A n c] 29)).alloc (.cells #[.string ⟨#[]⟩, .int .i64 0, .int .i64 0, .int .i64 0, .int .i64 0, .int .i64 0, .slice none 0 0] 38)).alloc (.cells #[.string ⟨#[]⟩, .int .i64 0, .int .i64 0, .int .i64 0, .int .i64 0, .int .i64 0, .slice none 0 0] 38)).frozen? ⟨w.heap.size + 1, 3, none⟩ = false := by simp [go_sem]
  have r3 : (((w.alloc (.cells #[.string x.nm, .int .i64 x.px, .int .i64 x.py, .int .i64 x.hg, .int .i64 x.jb, .int .i64 x.bk, .slice A n c] 29)).alloc (.cells #[.string ⟨#[]⟩, .int .i64 0, .int .i64 0, .int .i64 0, .int .i64 0, .int .i64 0, .slice none 0 0] 38)).alloc (.cells #[.string ⟨#[]⟩, .int .i64 0, .int .i64 0, .int .i64 0, .int .i64 0, .int .i64 0, .slice none 0 0] 38)).frozen? ⟨w.heap.size + 2, 3, none⟩ = false := by simp [go_sem]
  have c4 : (((w.alloc (.cells #[.string x.nm, .int .i64 x.px, .int .i64 x.py, .int .i64 x.hg, .int .i64 x.jb, .int .i64 x.bk, .slice A n c] 29)).alloc (.cells #[.string ⟨#[]⟩, .int .i64 0, .int .i64 0, .int .i64 0, .int .i64 0, .int .i64 0, .slice none 0 0] 38)).alloc (.cells #[.string ⟨#[]⟩, .int .i64 0, .int .i64 0, .int .i64 0, .int .i64 0, .int .i64 0, .slice none 0 0] 38)).cell? ⟨w.heap.size, 4, none⟩ = some (.int .i64 x.jb) := by simp [go_sem]
  have d4 : (((w.alloc (.cells #[.string x.nm, .int .i64 x.px, .int .i64 x.py, .int .i64 x.hg, .int .i64 x.jb, .int .i64 x.bk, .slice A n c] 29)).alloc (.cells #[.string ⟨#[]⟩, .int .i64 0, .int .i64 0, .int .i64 0, .int .i64 0, .int .i64 0, .slice none 0 0] 38)).alloc (.cells #[.string ⟨#[]⟩, .int .i64 0, .int .i64 0, .int .i64 0, .int .i64 0, .int .i64 0, .slice none 0 0] 38)).cell? ⟨w.heap.size + 1, 4, none⟩ = some (.int .i64 0) := by simp [go_sem]
  have k4 : (((w.alloc (.cells #[.string x.nm, .int .i64 x.px, .int .i64 x.py, .int .i64 x.hg, .int .i64 x.jb, .int .i64 x.bk, .slice A n c] 29)).alloc (.cells #[.string ⟨#[]⟩, .int .i64 0, .int .i64 0, .int .i64 0, .int .i64 0, .int .i64 0, .slice none 0 0] 38)).alloc (.cells #[.string ⟨#[]⟩, .int .i64 0, .int .i64 0, .int .i64 0, .int .i64 0, .int .i64 0, .slice none 0 0] 38)).cell? ⟨w.heap.size + 2, 4, none⟩ = some (.int .i64 0) := by simp [go_sem]
  have m4 : (((w.alloc (.cells #[.string x.nm, .int .i64 x.px, .int .i64 x.py, .int .i64 x.hg, .int .i64 x.jb, .int .i64 x.bk, .slice A n c] 29)).alloc (.cells #[.string ⟨#[]⟩, .int .i64 0, .int .i64 0, .int .i64 0, .int .i64 0, .int .i64 0, .slice none 0 0] 38)).alloc (.cells #[.string ⟨#[]⟩, .int .i64 0, .int .i64 0, .int .i64 0, .int .i64 0, .int .i64 0, .slice none 0 0] 38)).frozen? ⟨w.heap.size + 1, 4, none⟩ = false := by simp [go_sem]
  have r4 : (((w.alloc (.cells #[.string x.nm, .int .i64 x.px, .int .i64 x.py, .int .i64 x.hg, .int .i64 x.jb, .int .i64 x.bk, .slice A n c] 29)).alloc (.cells #[.string ⟨#[]⟩, .int .i64 0, .int .i64 0, .int .i64 0, .int .i64 0, .int .i64 0, .slice none 0 0] 38)).alloc (.cells #[.string ⟨#[]⟩, .int .i64 0, .int .i64 0, .int .i64 0, .int .i64 0, .int .i64 0, .slice none 0 0] 38)).frozen? ⟨w.heap.size + 2, 4, none⟩ = false := by simp [go_sem]
  have c5 : (((w.alloc (.cells #[.string x.nm, .int .i64 x.px, .int .i64 x.py, .int .i64 x.hg, .int .i64 x.jb, .int .i64 x.bk, .slice A n c] 29)).alloc (.cells #[.string ⟨#[]⟩, .int .i64 0, .int .i64 0, .int .i64 0, .int .i64 0, .int .i64 0, .slice none 0 0] 38)).alloc (.cells #[.string ⟨#[]⟩, .int .i64 0, .int .i64 0, .int .i64 0, .int .i64 0, .int .i64 0, .slice none 0 0] 38)).cell? ⟨w.heap.size, 5, none⟩ = some (.int .i64 x.bk) := by simp [go_sem]
  have d5 : (((w.alloc (.cells #[.string x.nm, .int .i64 x.px, .int .i64 x.py, .int .i64 x.hg, .int .i64 x.jb, .int .i64 x.bk, .slice A n c] 29)).alloc (.cells #[.string ⟨#[]⟩, .int .i64 0, .int .i64 0, .int .i64 0, .int .i64 0, .int .i64 0, .slice none 0 0] 38)).alloc (.cells #[.string ⟨#[]⟩, .int .i64 0, .int .i64 0, .int .i64 0, .int .i64 0, .int .i64 0, .slice none 0 0] 38)).cell? ⟨w.heap.size + 1, 5, none⟩ = some (.int .i64 0) := by simp [go_sem]
  have k5 : (((w.alloc (.cells #[.string x.nm, .int .i64 x.px, .int .i64 x.py, .int .i64 x.hg, .int .i64 x.jb, .int .i64 x.bk, .slice A n c] 29)).alloc (.cells #[.string ⟨#[]⟩, .int .i64 0, .int .i64 0, .int .i64 0, .int .i64 0, .int .i64 0, .slice none 0 0] 38)).alloc (.cells #[.string ⟨#[]⟩, .int .i64 0, .int .i64 0, .int .i64 0, .int .i64 0, .int .i64 0, .slice none 0 0] 38)).cell? ⟨w.heap.size + 2, 5, none⟩ = some (.int .i64 0) := by simp [go_sem]
  have m5 : (((w.alloc (.cells #[.string x.nm, .int .i64 x.px, .int .i64 x.py, .int .i64 x.hg, .int .i64 x.jb, .int .i64 x.bk, .slice A n c] 29)).alloc (.cells #[.string ⟨#[]⟩, .int .i64 0, .int .i64 0, .int .i64 0, .int .i64 0, .int .i64 0, .slice none 0 0] 38)).alloc (.cells #[.string ⟨#[]⟩, .int .i64 0, .int .i64 0, .int .i64 0, .int .i64 0, .int .i64 0, .slice none 0 0] 38)).frozen? ⟨w.heap.size + 1, 5, none⟩ = false := by simp [go_sem]
  have r5 : (((w.alloc (.cells #[.string x.nm, .int .i64 x.px, .int .i64 x.py, .int .i64 x.hg, .int .i64 x.jb, .int .i64 x.bk, .slice A n c] 29)).alloc (.cells #[.string ⟨#[]⟩, .int .i64 0, .int .i64 0, .int .i64 0, .int .i64 0, .int .i64 0, .slice none 0 0] 38)).alloc (.cells #[.string ⟨#[]⟩, .int .i64 0, .int .i64 0, .int .i64 0, .int .i64 0, .int .i64 0, .slice none 0 0] 38)).frozen? ⟨w.heap.size + 2, 5, none⟩ = false := by simp [go_sem]
  have c6 : (((w.alloc (.cells #[.string x.nm, .int .i64 x.px, .int .i64 x.py, .int .i64 x.hg, .int .i64 x.jb, .int .i64 x.bk, .slice A n c] 29)).alloc (.cells #[.string ⟨#[]⟩, .int .i64 0, .int .i64 0, .int .i64 0, .int .i64 0, .int .i64 0, .slice none 0 0] 38)).alloc (.cells #[.string ⟨#[]⟩, .int .i64 0, .int .i64 0, .int .i64 0, .int .i64 0, .int .i64 0, .slice none 0 0] 38)).cell? ⟨w.heap.size, 6, none⟩ = some (.slice A n c) := by simp [go_sem]
  have d6 : (((w.alloc (.cells #[.string x.nm, .int .i64 x.px, .int .i64 x.py, .int .i64 x.hg, .int .i64 x.jb, .int .i64 x.bk, .slice A n c] 29)).alloc (.cells #[.string ⟨#[]⟩, .int .i64 0, .int .i64 0, .int .i64 0, .int .i64 0, .int .i64 0, .slice none 0 0] 38)).alloc (.cells #[.string ⟨#[]⟩, .int .i64 0, .int .i64 0, .int .i64 0, .int .i64 0, .int .i64 0, .slice none 0 0] 38)).cell? ⟨w.heap.size + 1, 6, none⟩ = some (.slice none 0 0) := by simp [go_sem]
  have k6 : (((w.alloc (.cells #[.string x.nm, .int .i64 x.px, .int .i64 x.py, .int .i64 x.hg, .int .i64 x.jb, .int .i64 x.bk, .slice A n c] 29)).alloc (.cells #[.string ⟨#[]⟩, .int .i64 0, .int .i64 0, .int .i64 0, .int .i64 0, .int .i64 0, .slice none 0 0] 38)).alloc (.cells #[.string ⟨#[]⟩, .int .i64 0, .int .i64 0, .int .i64 0, .int .i64 0, .int .i64 0, .slice none 0 0] 38)).cell? ⟨w.heap.size + 2, 6, none⟩ = some (.slice none 0 0) := by simp [go_sem]
  have m6 : (((w.alloc (.cells #[.string x.nm, .int .i64 x.px, .int .i64 x.py, .int .i64 x.hg, .int .i64 x.jb, .int .i64 x.bk, .slice A n c] 29)).alloc (.cells #[.string ⟨#[]⟩, .int .i64 0, .int .i64 0, .int .i64 0, .int .i64 0, .int .i64 0, .slice none 0 0] 38)).alloc (.cells #[.string ⟨#[]⟩, .int .i64 0, .int .i64 0, .int .i64 0, .int .i64 0, .int .i64 0, .slice none 0 0] 38)).frozen? ⟨w.heap.size + 1, 6, none⟩ = false := by simp [go_sem]
  have r6 : (((w.alloc (.cells #[.string x.nm, .int .i64 x.px, .int .i64 x.py, .int .i64 x.hg, .int .i64 x.jb, .int .i64 x.bk, .slice A n c] 29)).alloc (.cells #[.string ⟨#[]⟩, .int .i64 0, .int .i64 0, .int .i64 0, .int .i64 0, .int .i64 0, .slice none 0 0] 38)).alloc (.cells #[.string ⟨#[]⟩, .int .i64 0, .int .i64 0, .int .i64 0, .int .i64 0, .int .i64 0, .slice none 0 0] 38)).frozen? ⟨w.heap.size + 2, 6, none⟩ = false := by simp [go_sem]
  go_enter Tryd.func10, Tryd.ntmps10
  go_wp2_with fail
  generalize ((w.alloc (.cells #[.string x.nm, .int .i64 x.px, .int .i64 x.py, .int .i64 x.hg, .int .i64 x.jb, .int .i64 x.bk, .slice A n c] 29)).alloc (.cells #[.string ⟨#[]⟩, .int .i64 0, .int .i64 0, .int .i64 0, .int .i64 0, .int .i64 0, .slice none 0 0] 38)).alloc (.cells #[.string ⟨#[]⟩, .int .i64 0, .int .i64 0, .int .i64 0, .int .i64 0, .int .i64 0, .slice none 0 0] 38) = v0 at *
  go_at_call 12
  (with_reducible refine (toPt_any x.px x.py _).mono ?_)
  rintro e u1 ⟨rfl, hb⟩
  have hy := hb.size
  try simp only [World.size_setCell] at hy
  replace c0 := keepc hb (show World.cell? _ ⟨w.heap.size, 0, none⟩ = some (.string x.nm) by simp [go_sem, *])
  replace d0 := keepc hb (show World.cell? _ ⟨w.heap.size + 1, 0, none⟩ = some (.string ⟨#[]⟩) by simp [go_sem, *])
  have k0' := keepc hb (show World.cell? _ ⟨w.heap.size + 2, 0, none⟩ = some (.string x.nm) by simp [go_sem, *])
  replace m0 := keepf hb (by first | omega | (simp; done) | (simp; omega)) (show World.frozen? _ ⟨w.heap.size + 1, 0, none⟩ = false by simp [go_sem, *])
  replace r0 := keepf hb (by first | omega | (simp; done) | (simp; omega)) (show World.frozen? _ ⟨w.heap.size + 2, 0, none⟩ = false by simp [go_sem, *])
  replace c1 := keepc hb (show World.cell? _ ⟨w.heap.size, 1, none⟩ = some (.int .i64 x.px) by simp [go_sem, *])
  replace d1 := keepc hb (show World.cell? _ ⟨w.heap.size + 1, 1, none⟩ = some (.int .i64 0) by simp [go_sem, *])
  have k1' := keepc hb (show World.cell? _ ⟨w.heap.size + 2, 1, none⟩ = some (.int .i64 0) by simp [go_sem, *])
  replace m1 := keepf hb (by first | omega | (simp; done) | (simp; omega)) (show World.frozen? _ ⟨w.heap.size + 1, 1, none⟩ = false by simp [go_sem, *])
  replace r1 := keepf hb (by first | omega | (simp; done) | (simp; omega)) (show World.frozen? _ ⟨w.heap.size + 2, 1, none⟩ = false by simp [go_sem, *])
  replace c2 := keepc hb (show World.cell? _ ⟨w.heap.size, 2, none⟩ = some (.int .i64 x.py) by simp [go_sem, *])
  replace d2 := keepc hb (show World.cell? _ ⟨w.heap.size + 1, 2, none⟩ = some (.int .i64 0) by simp [go_sem, *])
  have k2' := keepc hb (show World.cell? _ ⟨w.heap.size + 2, 2, none⟩ = some (.int .i64 0) by simp [go_sem, *])
  replace m2 := keepf hb (by first | omega | (simp; done) | (simp; omega)) (show World.frozen? _ ⟨w.heap.size + 1, 2, none⟩ = false by simp [go_sem, *])
  replace r2 := keepf hb (by first | omega | (simp; done) | (simp; omega)) (show World.frozen? _ ⟨w.heap.size + 2, 2, none⟩ = false by simp [go_sem, *])
  replace c3 := keepc hb (show World.cell? _ ⟨w.heap.size, 3, none⟩ = some (.int .i64 x.hg) by simp [go_sem, *])
  replace d3 := keepc hb (show World.cell? _ ⟨w.heap.size + 1, 3, none⟩ = some (.int .i64 0) by simp [go_sem, *])
  have k3' := keepc hb (show World.cell? _ ⟨w.heap.size + 2, 3, none⟩ = some (.int .i64 0) by simp [go_sem, *])
  replace m3 := keepf hb (by first | omega | (simp; done) | (simp; omega)) (show World.frozen? _ ⟨w.heap.size + 1, 3, none⟩ = false by simp [go_sem, *])
  replace r3 := keepf hb (by first | omega | (simp; done) | (simp; omega)) (show World.frozen? _ ⟨w.heap.size + 2, 3, none⟩ = false by simp [go_sem, *])
  replace c4 := keepc hb (show World.cell? _ ⟨w.heap.size, 4, none⟩ = some (.int .i64 x.jb) by simp [go_sem, *])
  replace d4 := keepc hb (show World.cell? _ ⟨w.heap.size + 1, 4, none⟩ = some (.int .i64 0) by simp [go_sem, *])
  have k4' := keepc hb (show World.cell? _ ⟨w.heap.size + 2, 4, none⟩ = some (.int .i64 0) by simp [go_sem, *])
  replace m4 := keepf hb (by first | omega | (simp; done) | (simp; omega)) (show World.frozen? _ ⟨w.heap.size + 1, 4, none⟩ = false by simp [go_sem, *])
  replace r4 := keepf hb (by first | omega | (simp; done) | (simp; omega)) (show World.frozen? _ ⟨w.heap.size + 2, 4, none⟩ = false by simp [go_sem, *])
  replace c5 := keepc hb (show World.cell? _ ⟨w.heap.size, 5, none⟩ = some (.int .i64 x.bk) by simp [go_sem, *])
  replace d5 := keepc hb (show World.cell? _ ⟨w.heap.size + 1, 5, none⟩ = some (.int .i64 0) by simp [go_sem, *])
  have k5' := keepc hb (show World.cell? _ ⟨w.heap.size + 2, 5, none⟩ = some (.int .i64 0) by simp [go_sem, *])
  replace m5 := keepf hb (by first | omega | (simp; done) | (simp; omega)) (show World.frozen? _ ⟨w.heap.size + 1, 5, none⟩ = false by simp [go_sem, *])
  replace r5 := keepf hb (by first | omega | (simp; done) | (simp; omega)) (show World.frozen? _ ⟨w.heap.size + 2, 5, none⟩ = false by simp [go_sem, *])
  replace c6 := keepc hb (show World.cell? _ ⟨w.heap.size, 6, none⟩ = some (.slice A n c) by simp [go_sem, *])
  replace d6 := keepc hb (show World.cell? _ ⟨w.heap.size + 1, 6, none⟩ = some (.slice none 0 0) by simp [go_sem, *])
  have k6' := keepc hb (show World.cell? _ ⟨w.heap.size + 2, 6, none⟩ = some (.slice none 0 0) by simp [go_sem, *])
  replace m6 := keepf hb (by first | omega | (simp; done) | (simp; omega)) (show World.frozen? _ ⟨w.heap.size + 1, 6, none⟩ = false by simp [go_sem, *])
  replace r6 := keepf hb (by first | omega | (simp; done) | (simp; omega)) (show World.frozen? _ ⟨w.heap.size + 2, 6, none⟩ = false by simp [go_sem, *])
  clear k0 k1 k2 k3 k4 k5 k6
  have k0 := k0'
  have k1 := k1'
  have k2 := k2'
  have k3 := k3'
  have k4 := k4'
  have k5 := k5'
  have k6 := k6'
  clear k0' k1' k2' k3' k4' k5' k6'
  have hzu1 : w.heap.size + 2 < u1.heap.size := Nat.lt_of_lt_of_le (by first | (simp; done) | (simp; omega)) hb.size
  have HY := Lib.hid (gr_then hb (show Below w.heap.size w _ by repeat' (first | with_reducible exact HB.out | with_reducible exact gr_refl _ | with_reducible assumption | (with_reducible refine gr_set (by dsimp only; omega) ?_) | (with_reducible refine gr_alloc ?_) | (refine gr_then (by with_reducible assumption) ?_))))
  replace HB := HY
  clear HY hy
  clear hb
  go_wp2_with fail
  go_at_call 36
  (with_reducible refine (toChartStepS_any A n c x.zs _ hz hn (HS.out.later (show Below w.heap.size w _ by repeat' (first | with_reducible exact HB.out | with_reducible exact gr_refl _ | with_reducible assumption | (with_reducible refine gr_set (by dsimp only; omega) ?_) | (with_reducible refine gr_alloc ?_) | (refine gr_then (by with_reducible assumption) ?_))))).mono ?_)
  rintro e u2 ⟨rfl, hbi, hb⟩
  have hy := hb.size
  try simp only [World.size_setCell] at hy
  replace c0 := keepc hb (show World.cell? _ ⟨w.heap.size, 0, none⟩ = some (.string x.nm) by simp [go_sem, *])
  replace d0 := keepc hb (show World.cell? _ ⟨w.heap.size + 1, 0, none⟩ = some (.string ⟨#[]⟩) by simp [go_sem, *])
  have k0' := keepc hb (show World.cell? _ ⟨w.heap.size + 2, 0, none⟩ = some (.string x.nm) by simp [go_sem, *])
  replace m0 := keepf hb (by first | omega | (simp; done) | (simp; omega)) (show World.frozen? _ ⟨w.heap.size + 1, 0, none⟩ = false by simp [go_sem, *])
  replace r0 := keepf hb (by first | omega | (simp; done) | (simp; omega)) (show World.frozen? _ ⟨w.heap.size + 2, 0, none⟩ = false by simp [go_sem, *])
  replace c1 := keepc hb (show World.cell? _ ⟨w.heap.size, 1, none⟩ = some (.int .i64 x.px) by simp [go_sem, *])
  replace d1 := keepc hb (show World.cell? _ ⟨w.heap.size + 1, 1, none⟩ = some (.int .i64 0) by simp [go_sem, *])
  have k1' := keepc hb (show World.cell? _ ⟨w.heap.size + 2, 1, none⟩ = some (.int .i64 x.px) by simp [go_sem, *])
  replace m1 := keepf hb (by first | omega | (simp; done) | (simp; omega)) (show World.frozen? _ ⟨w.heap.size + 1, 1, none⟩ = false by simp [go_sem, *])
  replace r1 := keepf hb (by first | omega | (simp; done) | (simp; omega)) (show World.frozen? _ ⟨w.heap.size + 2, 1, none⟩ = false by simp [go_sem, *])
  replace c2 := keepc hb (show World.cell? _ ⟨w.heap.size, 2, none⟩ = some (.int .i64 x.py) by simp [go_sem, *])
  replace d2 := keepc hb (show World.cell? _ ⟨w.heap.size + 1, 2, none⟩ = some (.int .i64 0) by simp [go_sem, *])
  have k2' := keepc hb (show World.cell? _ ⟨w.heap.size + 2, 2, none⟩ = some (.int .i64 x.py) by simp [go_sem, *])
  replace m2 := keepf hb (by first | omega | (simp; done) | (simp; omega)) (show World.frozen? _ ⟨w.heap.size + 1, 2, none⟩ = false by simp [go_sem, *])
  replace r2 := keepf hb (by first | omega | (simp; done) | (simp; omega)) (show World.frozen? _ ⟨w.heap.size + 2, 2, none⟩ = false by simp [go_sem, *])
  replace c3 := keepc hb (show World.cell? _ ⟨w.heap.size, 3, none⟩ = some (.int .i64 x.hg) by simp [go_sem, *])
  replace d3 := keepc hb (show World.cell? _ ⟨w.heap.size + 1, 3, none⟩ = some (.int .i64 0) by simp [go_sem, *])
  have k3' := keepc hb (show World.cell? _ ⟨w.heap.size + 2, 3, none⟩ = some (.int .i64 x.hg) by simp [go_sem, *])
  replace m3 := keepf hb (by first | omega | (simp; done) | (simp; omega)) (show World.frozen? _ ⟨w.heap.size + 1, 3, none⟩ = false by simp [go_sem, *])
  replace r3 := keepf hb (by first | omega | (simp; done) | (simp; omega)) (show World.frozen? _ ⟨w.heap.size + 2, 3, none⟩ = false by simp [go_sem, *])
  replace c4 := keepc hb (show World.cell? _ ⟨w.heap.size, 4, none⟩ = some (.int .i64 x.jb) by simp [go_sem, *])
  replace d4 := keepc hb (show World.cell? _ ⟨w.heap.size + 1, 4, none⟩ = some (.int .i64 0) by simp [go_sem, *])
  have k4' := keepc hb (show World.cell? _ ⟨w.heap.size + 2, 4, none⟩ = some (.int .i64 x.jb) by simp [go_sem, *])
  replace m4 := keepf hb (by first | omega | (simp; done) | (simp; omega)) (show World.frozen? _ ⟨w.heap.size + 1, 4, none⟩ = false by simp [go_sem, *])
  replace r4 := keepf hb (by first | omega | (simp; done) | (simp; omega)) (show World.frozen? _ ⟨w.heap.size + 2, 4, none⟩ = false by simp [go_sem, *])
  replace c5 := keepc hb (show World.cell? _ ⟨w.heap.size, 5, none⟩ = some (.int .i64 x.bk) by simp [go_sem, *])
  replace d5 := keepc hb (show World.cell? _ ⟨w.heap.size + 1, 5, none⟩ = some (.int .i64 0) by simp [go_sem, *])
  have k5' := keepc hb (show World.cell? _ ⟨w.heap.size + 2, 5, none⟩ = some (.int .i64 x.bk) by simp [go_sem, *])
  replace m5 := keepf hb (by first | omega | (simp; done) | (simp; omega)) (show World.frozen? _ ⟨w.heap.size + 1, 5, none⟩ = false by simp [go_sem, *])
  replace r5 := keepf hb (by first | omega | (simp; done) | (simp; omega)) (show World.frozen? _ ⟨w.heap.size + 2, 5, none⟩ = false by simp [go_sem, *])
  replace c6 := keepc hb (show World.cell? _ ⟨w.heap.size, 6, none⟩ = some (.slice A n c) by simp [go_sem, *])
  replace d6 := keepc hb (show World.cell? _ ⟨w.heap.size + 1, 6, none⟩ = some (.slice none 0 0) by simp [go_sem, *])
  have k6' := keepc hb (show World.cell? _ ⟨w.heap.size + 2, 6, none⟩ = some (.slice none 0 0) by simp [go_sem, *])
  replace m6 := keepf hb (by first | omega | (simp; done) | (simp; omega)) (show World.frozen? _ ⟨w.heap.size + 1, 6, none⟩ = false by simp [go_sem, *])
  replace r6 := keepf hb (by first | omega | (simp; done) | (simp; omega)) (show World.frozen? _ ⟨w.heap.size + 2, 6, none⟩ = false by simp [go_sem, *])
  clear k0 k1 k2 k3 k4 k5 k6
  have k0 := k0'
  have k1 := k1'
  have k2 := k2'
  have k3 := k3'
  have k4 := k4'
  have k5 := k5'
  have k6 := k6'
  clear k0' k1' k2' k3' k4' k5' k6'
  have hzu2 : w.heap.size + 2 < u2.heap.size := Nat.lt_of_lt_of_le (by first | (simp; done) | (simp; omega)) hb.size
  have HY := Lib.hid (gr_then hb (show Below w.heap.size w _ by repeat' (first | with_reducible exact HB.out | with_reducible exact gr_refl _ | with_reducible assumption | (with_reducible refine gr_set (by dsimp only; omega) ?_) | (with_reducible refine gr_alloc ?_) | (refine gr_then (by with_reducible assumption) ?_))))
  replace HB := HY
  clear HY hy
  simp only [World.size_setCell] at hbi
  have HBI := Lib.hid hbi
  clear hbi hb
  have hg1 : u1.heap.size ≠ w.heap.size + 1 := by omega
  have hg2 : u1.heap.size ≠ w.heap.size + 2 := by omega
  go_wp2_with fail
  refine bodyPost_ret (v := .agg #[.string x.nm, .int .i64 x.px, .int .i64 x.py, .int .i64 x.hg, .int .i64 x.jb, .int .i64 x.bk, .slice (some ⟨u1.heap.size, 0, none⟩) n n]) (by simp [results, Tryd.results10, go_sem, d0, d1, d2, d3, d4, d5, d6]) rfl ⟨u1.heap.size, rfl, by omega, ?_, by repeat' (first | with_reducible exact HB.out | with_reducible exact gr_refl _ | with_reducible assumption | (with_reducible refine gr_set (by dsimp only; omega) ?_) | (with_reducible refine gr_alloc ?_) | (refine gr_then (by with_reducible assumption) ?_))⟩
  repeat' (first | with_reducible exact HBI.out | (with_reducible refine BI.far ?_ (by dsimp only; omega) _))
set_option maxHeartbeats 16000000 in
set_option maxRecDepth 20000 in
theorem eqCrane_same (x : Cr) (A A' : Option Addr) (n c c' : Nat) (w : World) (hn : n ≤ 1048576) (hz : x.zs.length = n * 2) (h : SI w w.heap.size A x.zs) (h' : SI w w.heap.size A' x.zs) : Calls Tryd.prog 14 #[.agg #[.string x.nm, .int .i64 x.px, .int .i64 x.py, .int .i64 x.hg, .int .i64 x.jb, .int .i64 x.bk, .slice A n c], .agg #[.string x.nm, .int .i64 x.px, .int .i64 x.py, .int .i64 x.hg, .int .i64 x.jb, .int .i64 x.bk, .slice A' n c']] w fun e w' => e = .returned (.bool true) ∧ Below w.heap.size w w' := by
  have hB0 : Below w.heap.size w ((w.alloc (.cells #[.string x.nm, .int .i64 x.px, .int .i64 x.py, .int .i64 x.hg, .int .i64 x.jb, .int .i64 x.bk, .slice A n c] 38)).alloc (.cells #[.string x.nm, .int .i64 x.px, .int .i64 x.py, .int .i64 x.hg, .int .i64 x.jb, .int .i64 x.bk, .slice A' n c'] 38)) := gr_alloc (gr_alloc (gr_refl _))
  have HB := Lib.hid hB0
  have HS := Lib.hid h
  have HS' := Lib.hid h'
  clear hB0 h h'
  have c0 : ((w.alloc (.cells #[.string x.nm, .int .i64 x.px, .int .i64 x.py, .int .i64 x.hg, .int .i64 x.jb, .int .i64 x.bk, .slice A n c] 38)).alloc (.cells #[.string x.nm, .int .i64 x.px, .int .i64 x.py, .int .i64 x.hg, .int .i64 x.jb, .int .i64 x.bk, .slice A' n c'] 38)).cell? ⟨w.heap.size, 0, none⟩ = some (.string x.nm) := by simp [go_sem]
  have d0 : ((w.alloc (.cells #[.string x.nm, .int .i64 x.px, .int .i64 x.py, .int .i64 x.hg, .int .i64 x.jb, .int .i64 x.bk, .slice A n c] 38)).alloc (.cells #[.string x.nm, .int .i64 x.px, .int .i64 x.py, .int .i64 x.hg, .int .i64 x.jb, .int .i64 x.bk, .slice A' n c'] 38)).cell? ⟨w.heap.size + 1, 0, none⟩ = some (.string x.nm) := by simp [go_sem]
  have c1 : ((w.alloc (.cells #[.string x.nm, .int .i64 x.px, .int .i64 x.py, .int .i64 x.hg, .int .i64 x.jb, .int .i64 x.bk, .slice A n c] 38)).alloc (.cells #[.string x.nm, .int .i64 x.px, .int .i64 x.py, .int .i64 x.hg, .int .i64 x.jb, .int .i64 x.bk, .slice A' n c'] 38)).cell? ⟨w.heap.size, 1, none⟩ = some (.int .i64 x.px) := by simp [go_sem]
  have d1 : ((w.alloc (.cells #[.string x.nm, .int .i64 x.px, .int .i64 x.py, .int .i64 x.hg, .int .i64 x.jb, .int .i64 x.bk, .slice A n c] 38)).alloc (.cells #[.string x.nm, .int .i64 x.px, .int .i64 x.py, .int .i64 x.hg, .int .i64 x.jb, .int .i64 x.bk, .slice A' n c'] 38)).cell? ⟨w.heap.size + 1, 1, none⟩ = some (.int .i64 x.px) := by simp [go_sem]
  have c2 : ((w.alloc (.cells #[.string x.nm, .int .i64 x.px, .int .i64 x.py, .int .i64 x.hg, .int .i64 x.jb, .int .i64 x.bk, .slice A n c] 38)).alloc (.cells #[.string x.nm, .int .i64 x.px, .int .i64 x.py, .int .i64 x.hg, .int .i64 x.jb, .int .i64 x.bk, .slice A' n c'] 38)).cell? ⟨w.heap.size, 2, none⟩ = some (.int .i64 x.py) := by simp [go_sem]
  have d2 : ((w.alloc (.cells #[.string x.nm, .int .i64 x.px, .int .i64 x.py, .int .i64 x.hg, .int .i64 x.jb, .int .i64 x.bk, .slice A n c] 38)).alloc (.cells #[.string x.nm, .int .i64 x.px, .int .i64 x.py, .int .i64 x.hg, .int .i64 x.jb, .int .i64 x.bk, .slice A' n c'] 38)).cell? ⟨w.heap.size + 1, 2, none⟩ = some (.int .i64 x.py) := by simp [go_sem]
  have c3 : ((w.alloc (.cells #[.string x.nm, .int .i64 x.px, .int .i64 x.py, .int .i64 x.hg, .int .i64 x.jb, .int .i64 x.bk, .slice A n c] 38)).alloc (.cells #[.string x.nm, .int .i64 x.px, .int .i64 x.py, .int .i64 x.hg, .int .i64 x.jb, .int .i64 x.bk, .slice A' n c'] 38)).cell? ⟨w.heap.size, 3, none⟩ = some (.int .i64 x.hg) := by simp [go_sem]
  have d3 : ((w.alloc (.cells #[.string x.nm, .int .i64 x.px, .int .i64 x.py, .int .i64 x.hg, .int .i64 x.jb, .int .i64 x.bk, .slice A n c] 38)).alloc (.cells #[.string x.nm, .int .i64 x.px, .int .i64 x.py, .int .i64 x.hg, .int .i64 x.jb, .int .i64 x.bk, .slice A' n c'] 38)).cell? ⟨w.heap.size + 1, 3, none⟩ = some (.int .i64 x.hg) := by simp [go_sem]
  have c4 : ((w.alloc (.cells #[.string x.nm, .int .i64 x.px, .int .i64 x.py, .int .i64 x.hg, .int .i64 x.jb, .int .i64 x.bk, .slice A n c] 38)).alloc (.cells #[.string x.nm, .int .i64 x.px, .int .i64 x.py, .int .i64 x.hg, .int .i64 x.jb, .int .i64 x.bk, .slice A' n c'] 38)).cell? ⟨w.heap.size, 4, none⟩ = some (.int .i64 x.jb) := by simp [go_sem]
  have d4 : ((w.alloc (.cells #[.string x.nm, .int .i64 x.px, .int .i64 x.py, .int .i64 x.hg, .int .i64 x.jb, .int .i64 x.bk, .slice A n c] 38)).alloc (.cells #[.string x.nm, .int .i64 x.px, .int .i64 x.py, .int .i64 x.hg, .int .i64 x.jb, .int .i64 x.bk, .slice A' n c'] 38)).cell? ⟨w.heap.size + 1, 4, none⟩ = some (.int .i64 x.jb) := by simp [go_sem]
  have c5 : ((w.alloc (.cells #[.string x.nm, .int .i64 x.px, .int .i64 x.py, .int .i64 x.hg, .int .i64 x.jb, .int .i64 x.bk, .slice A n c] 38)).alloc (.cells #[.string x.nm, .int .i64 x.px, .int .i64 x.py, .int .i64 x.hg, .int .i64 x.jb, .int .i64 x.bk, .slice A' n c'] 38)).cell? ⟨w.heap.size, 5, none⟩ = some (.int .i64 x.bk) := by simp [go_sem]
  have d5 : ((w.alloc (.cells #[.string x.nm, .int .i64 x.px, .int .i64 x.py, .int .i64 x.hg, .int .i64 x.jb, .int .i64 x.bk, .slice A n c] 38)).alloc (.cells #[.string x.nm, .int .i64 x.px, .int .i64 x.py, .int .i64 x.hg, .int .i64 x.jb, .int .i64 x.bk, .slice A' n c'] 38)).cell? ⟨w.heap.size + 1, 5, none⟩ = some (.int .i64 x.bk) := by simp [go_sem]
  have c6 : ((w.alloc (.cells #[.string x.nm, .int .i64 x.px, .int .i64 x.py, .int .i64 x.hg, .int .i64 x.jb, .int .i64 x.bk, .slice A n c] 38)).alloc (.cells #[.string x.nm, .int .i64 x.px, .int .i64 x.py, .int .i64 x.hg, .int .i64 x.jb, .int .i64 x.bk, .slice A' n c'] 38)).cell? ⟨w.heap.size, 6, none⟩ = some (.slice A n c) := by simp [go_sem]
  have d6 : ((w.alloc (.cells #[.string x.nm, .int .i64 x.px, .int .i64 x.py, .int .i64 x.hg, .int .i64 x.jb, .int .i64 x.bk, .slice A n c] 38)).alloc (.cells #[.string x.nm, .int .i64 x.px, .int .i64 x.py, .int .i64 x.hg, .int .i64 x.jb, .int .i64 x.bk, .slice A' n c'] 38)).cell? ⟨w.heap.size + 1, 6, none⟩ = some (.slice A' n c') := by simp [go_sem]
  have hs9 : (x.nm.toList != x.nm.toList) = false := by simp
  go_enter Tryd.func14, Tryd.ntmps14
  go_wp2_with fail
  generalize (w.alloc (.cells #[.string x.nm, .int .i64 x.px, .int .i64 x.py, .int .i64 x.hg, .int .i64 x.jb, .int .i64 x.bk, .slice A n c] 38)).alloc (.cells #[.string x.nm, .int .i64 x.px, .int .i64 x.py, .int .i64 x.hg, .int .i64 x.jb, .int .i64 x.bk, .slice A' n c'] 38) = v0 at *
  go_at_call 41
  (with_reducible refine (eqPt_same x.px x.py _).mono ?_)
  rintro e u0 ⟨rfl, hb⟩
  replace c0 := keepc hb c0
  replace c1 := keepc hb c1
  replace c2 := keepc hb c2
  replace c3 := keepc hb c3
  replace c4 := keepc hb c4
  replace c5 := keepc hb c5
  replace c6 := keepc hb c6
  replace d0 := keepc hb d0
  replace d1 := keepc hb d1
  replace d2 := keepc hb d2
  replace d3 := keepc hb d3
  replace d4 := keepc hb d4
  replace d5 := keepc hb d5
  replace d6 := keepc hb d6
  replace HB := Lib.hid (gr_then hb HB.out)
  clear hb
  go_wp2_with fail
  go_at_call 42
  (with_reducible refine (eqChartStepS_same A A' n c c' x.zs _ hz hn (HS.out.later HB.out) (HS'.out.later HB.out)).mono ?_)
  rintro e u1 ⟨rfl, hb⟩
  have HB1 := Lib.hid (gr_then hb HB.out)
  clear hb
  go_wp2_with fail
  go_returns
  exact ⟨rfl, HB1.out⟩
end Go.Proofs.YtoglmeiffidcbaaDoor
