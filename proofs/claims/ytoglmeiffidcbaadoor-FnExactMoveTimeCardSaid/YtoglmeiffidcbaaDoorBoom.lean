/- The boom of a crane in a direction, both sides. -/
import Derived.Test.YtoglmeiffidcbaaDoorEnds
namespace Go.Proofs.YtoglmeiffidcbaaDoor
open Go.RowKit Go.Deep
/-- the code of a crane and a direction -/
def cdE (x : Cr) (n : Nat) (d : Int) : Int := if okCr x n = true then (if inI d 0 23 = true then 0 else 2) else 1
theorem cdE_n {x : Cr} {n : Nat} {d : Int} (h : okCr x n = false) : cdE x n d = 1 := if_neg (by rw [h]; decide)
theorem cdE_r {x : Cr} {n : Nat} {d : Int} (h : okCr x n = true) (h2 : inI d 0 23 = false) : cdE x n d = 2 := by unfold cdE; rw [if_pos h, if_neg (by rw [h2]; decide)]
theorem cdE_y {x : Cr} {n : Nat} {d : Int} (h : okCr x n = true) (h2 : inI d 0 23 = true) : cdE x n d = 0 := by unfold cdE; rw [if_pos h, if_pos h2]
def zE (c v : Int) : Int := if c = 0 then v else 0
theorem zE_y (v : Int) : zE 0 v = v := if_pos rfl
theorem zE_1 (v : Int) : zE 1 v = 0 := rfl
theorem zE_2 (v : Int) : zE 2 v = 0 := rfl
theorem validCr_is {x : Cr} {A : Option Addr} {n c : Nat} {r : Bool} (hr : okCr x n = r) {w : World} (hn : n ≤ 1048576) (hz : x.zs.length = n * 2) (hk : x.nm.size ≤ 9223372036854775806) (h : SI w w.heap.size A x.zs) : Calls Tryd.prog 38 #[.agg #[.string x.nm, .int .i64 x.px, .int .i64 x.py, .int .i64 x.hg, .int .i64 x.jb, .int .i64 x.bk, .slice A n c]] w fun e w' => e = .returned (.bool r) ∧ Below w.heap.size w w' := by rw [← hr]; exact validCr_any x A n c w hn hz hk h
theorem okCr04_is {x : Cr} {A : Option Addr} {n c : Nat} {r : Bool} (hr : okCr x n = r) {w : World} {b : Nat} (hc : Cc w b x A n c) (hn : n ≤ 1048576) (hz : x.zs.length = n * 2) (hk : x.nm.size ≤ 9223372036854775806) (h : SI w w.heap.size A x.zs) : Calls Tryd.prog 33 #[.pointer (some ⟨b, 0, none⟩)] w fun e w' => e = .returned (.bool r) ∧ Below w.heap.size w w' := by rw [← hr]; exact okCr04_any x A n c b w hn hz hk hc h
theorem isDir_is {d : Int} {r : Bool} (hr : inI d 0 23 = r) (w : World) : Calls Tryd.prog 49 #[.int .i64 d] w fun e w' => e = .returned (.bool r) ∧ w = w' := by rw [← hr]; exact isDir_any d w
end Go.Proofs.YtoglmeiffidcbaaDoor
