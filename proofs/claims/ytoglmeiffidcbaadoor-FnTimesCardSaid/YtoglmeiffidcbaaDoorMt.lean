/- MoveTime, both sides. -/
import Derived.Test.YtoglmeiffidcbaaDoorMv
import Derived.Test.YtoglmeiffidcbaaDoorSrc
namespace Go.Proofs.YtoglmeiffidcbaaDoor
open Go.RowKit Go.Deep
theorem move_is (x : Cr) (A : Option Addr) (n c : Nat) (s t o g : Int) (a b d e : Int) (w : World) (hx : okPl x.px x.py = true) (hf : okPl a b = true) (hg : okPl d e = true) (hs : 1 ≤ s ∧ s ≤ 600) (ht : 1 ≤ t ∧ t ≤ 600) (hQ : Quar w) {V : Int} (hV : mvI s t (a - x.px) (b - x.py) (d - x.px) (e - x.py) = V) : Calls Tryd.prog 40 #[.agg #[.string x.nm, .int .i64 x.px, .int .i64 x.py, .int .i64 x.hg, .int .i64 x.jb, .int .i64 x.bk, .slice A n c, .int .i64 s, .int .i64 t, .int .i64 o, .int .i64 g], .agg #[.int .i64 a, .int .i64 b], .agg #[.int .i64 d, .int .i64 e]] w fun r w' => r = .returned (.int .i64 V) ∧ Below w.heap.size w w' := by rw [← hV]; exact move_any x A n c s t o g a b d e w hx hf hg hs ht hQ
theorem move10_is (x : Cr) (A : Option Addr) (n c cb : Nat) (s t o g : Int) (a b d e : Int) (w : World) (hx : okPl x.px x.py = true) (hf : okPl a b = true) (hg : okPl d e = true) (hs : 1 ≤ s ∧ s ≤ 600) (ht : 1 ≤ t ∧ t ≤ 600) (hc : Cc w cb x A n c) {V : Int} (hV : mvI s t (a - x.px) (b - x.py) (d - x.px) (e - x.py) = V) : Calls Tryd.prog 35 #[.pointer (some ⟨cb, 0, none⟩), .agg #[.int .i64 s, .int .i64 t, .int .i64 o, .int .i64 g], .agg #[.int .i64 a, .int .i64 b], .agg #[.int .i64 d, .int .i64 e]] w fun r w' => r = .returned (.int .i64 V) ∧ Below w.heap.size w w' := by rw [← hV]; exact move10_any x A n c cb s t o g a b d e w hx hf hg hs ht hc
set_option maxHeartbeats 8000000 in
set_option maxRecDepth 20000 in
theorem implMv_any (x : Cr) (A : Option Addr) (n c : Nat) (s t o g a b d e : Int) (w : World) (hn : n ≤ 1048576) (hz : x.zs.length = n * 2) (hk : x.nm.size ≤ 9223372036854775806) (h : SI w w.heap.size A x.zs) (hT : Quar w) : Calls Tryd.prog 13 #[.agg #[.string x.nm, .int .i64 x.px, .int .i64 x.py, .int .i64 x.hg, .int .i64 x.jb, .int .i64 x.bk, .slice A n c], .agg #[.int .i64 s, .int .i64 t, .int .i64 o, .int .i64 g], .agg #[.int .i64 a, .int .i64 b], .agg #[.int .i64 d, .int .i64 e]] w fun r w' => r = .returned (.tuple #[.int .i64 (tV (mvOk x n s t o g a b d e) (mvI s t (a - x.px) (b - x.py) (d - x.px) (e - x.py))), .int .i64 (tC (mvOk x n s t o g a b d e))]) ∧ Below w.heap.size w w' := by
  obtain ⟨q0, h0⟩ : ∃ q, okSp s t o g = q := ⟨_, rfl⟩
  have K0 := Lib.hid h0
  clear h0
  obtain ⟨q1, h1⟩ : ∃ q, okCr x n = q := ⟨_, rfl⟩
  have K1 := Lib.hid h1
  clear h1
  obtain ⟨q2, h2⟩ : ∃ q, okPl a b = q := ⟨_, rfl⟩
  have K2 := Lib.hid h2
  clear h2
  obtain ⟨q3, h3⟩ : ∃ q, okPl d e = q := ⟨_, rfl⟩
  have K3 := Lib.hid h3
  clear h3
  obtain ⟨V, hV⟩ : ∃ q, mvI s t (a - x.px) (b - x.py) (d - x.px) (e - x.py) = q := ⟨_, rfl⟩
  rw [hV]
  have KV := Lib.hid hV
  clear hV
  cases q0
  case false =>
    have KK := Lib.hid (show mvOk x n s t o g a b d e = false by unfold mvOk; rw [K0.out]; rfl)
    rw [KK.out]
    rw [show tV false V = 0 from rfl, show tC false = 1 from rfl]
    have HC := Lib.hid ((Cc.box w 38 x A n c).late (show Below (w.alloc (.cells #[.string x.nm, .int .i64 x.px, .int .i64 x.py, .int .i64 x.hg, .int .i64 x.jb, .int .i64 x.bk, .slice A n c] 38)).heap.size (w.alloc (.cells #[.string x.nm, .int .i64 x.px, .int .i64 x.py, .int .i64 x.hg, .int .i64 x.jb, .int .i64 x.bk, .slice A n c] 38)) ((((w.alloc (.cells #[.string x.nm, .int .i64 x.px, .int .i64 x.py, .int .i64 x.hg, .int .i64 x.jb, .int .i64 x.bk, .slice A n c] 38)).alloc (.cells #[.int .i64 s, .int .i64 t, .int .i64 o, .int .i64 g] 40)).alloc (.cells #[.int .i64 a, .int .i64 b] 35)).alloc (.cells #[.int .i64 d, .int .i64 e] 35)) from gr_alloc (gr_alloc (gr_alloc (gr_refl _)))))
    have HV := Lib.hid (BI.late (show BI ((w.alloc (.cells #[.string x.nm, .int .i64 x.px, .int .i64 x.py, .int .i64 x.hg, .int .i64 x.jb, .int .i64 x.bk, .slice A n c] 38)).alloc (.cells #[.int .i64 s, .int .i64 t, .int .i64 o, .int .i64 g] 40)) (w.heap.size + 1) 40 [s, t, o, g] from by have h := heap_alloc_new (w.alloc (.cells #[.string x.nm, .int .i64 x.px, .int .i64 x.py, .int .i64 x.hg, .int .i64 x.jb, .int .i64 x.bk, .slice A n c] 38)) (.cells #[.int .i64 s, .int .i64 t, .int .i64 o, .int .i64 g] 40); simp only [World.size_alloc] at h; exact h) (show Below ((w.alloc (.cells #[.string x.nm, .int .i64 x.px, .int .i64 x.py, .int .i64 x.hg, .int .i64 x.jb, .int .i64 x.bk, .slice A n c] 38)).alloc (.cells #[.int .i64 s, .int .i64 t, .int .i64 o, .int .i64 g] 40)).heap.size ((w.alloc (.cells #[.string x.nm, .int .i64 x.px, .int .i64 x.py, .int .i64 x.hg, .int .i64 x.jb, .int .i64 x.bk, .slice A n c] 38)).alloc (.cells #[.int .i64 s, .int .i64 t, .int .i64 o, .int .i64 g] 40)) ((((w.alloc (.cells #[.string x.nm, .int .i64 x.px, .int .i64 x.py, .int .i64 x.hg, .int .i64 x.jb, .int .i64 x.bk, .slice A n c] 38)).alloc (.cells #[.int .i64 s, .int .i64 t, .int .i64 o, .int .i64 g] 40)).alloc (.cells #[.int .i64 a, .int .i64 b] 35)).alloc (.cells #[.int .i64 d, .int .i64 e] 35)) from gr_alloc (gr_alloc (gr_refl _))))
    have HP := Lib.hid (BI.late (show BI (((w.alloc (.cells #[.string x.nm, .int .i64 x.px, .int .i64 x.py, .int .i64 x.hg, .int .i64 x.jb, .int .i64 x.bk, .slice A n c] 38)).alloc (.cells #[.int .i64 s, .int .i64 t, .int .i64 o, .int .i64 g] 40)).alloc (.cells #[.int .i64 a, .int .i64 b] 35)) (w.heap.size + 1 + 1) 35 [a, b] from by have h := heap_alloc_new ((w.alloc (.cells #[.string x.nm, .int .i64 x.px, .int .i64 x.py, .int .i64 x.hg, .int .i64 x.jb, .int .i64 x.bk, .slice A n c] 38)).alloc (.cells #[.int .i64 s, .int .i64 t, .int .i64 o, .int .i64 g] 40)) (.cells #[.int .i64 a, .int .i64 b] 35); simp only [World.size_alloc] at h; exact h) (show Below (((w.alloc (.cells #[.string x.nm, .int .i64 x.px, .int .i64 x.py, .int .i64 x.hg, .int .i64 x.jb, .int .i64 x.bk, .slice A n c] 38)).alloc (.cells #[.int .i64 s, .int .i64 t, .int .i64 o, .int .i64 g] 40)).alloc (.cells #[.int .i64 a, .int .i64 b] 35)).heap.size (((w.alloc (.cells #[.string x.nm, .int .i64 x.px, .int .i64 x.py, .int .i64 x.hg, .int .i64 x.jb, .int .i64 x.bk, .slice A n c] 38)).alloc (.cells #[.int .i64 s, .int .i64 t, .int .i64 o, .int .i64 g] 40)).alloc (.cells #[.int .i64 a, .int .i64 b] 35)) ((((w.alloc (.cells #[.string x.nm, .int .i64 x.px, .int .i64 x.py, .int .i64 x.hg, .int .i64 x.jb, .int .i64 x.bk, .slice A n c] 38)).alloc (.cells #[.int .i64 s, .int .i64 t, .int .i64 o, .int .i64 g] 40)).alloc (.cells #[.int .i64 a, .int .i64 b] 35)).alloc (.cells #[.int .i64 d, .int .i64 e] 35)) from gr_alloc (gr_refl _)))
    have HQ := Lib.hid (BI.late (show BI ((((w.alloc (.cells #[.string x.nm, .int .i64 x.px, .int .i64 x.py, .int .i64 x.hg, .int .i64 x.jb, .int .i64 x.bk, .slice A n c] 38)).alloc (.cells #[.int .i64 s, .int .i64 t, .int .i64 o, .int .i64 g] 40)).alloc (.cells #[.int .i64 a, .int .i64 b] 35)).alloc (.cells #[.int .i64 d, .int .i64 e] 35)) (w.heap.size + 1 + 1 + 1) 35 [d, e] from by have h := heap_alloc_new (((w.alloc (.cells #[.string x.nm, .int .i64 x.px, .int .i64 x.py, .int .i64 x.hg, .int .i64 x.jb, .int .i64 x.bk, .slice A n c] 38)).alloc (.cells #[.int .i64 s, .int .i64 t, .int .i64 o, .int .i64 g] 40)).alloc (.cells #[.int .i64 a, .int .i64 b] 35)) (.cells #[.int .i64 d, .int .i64 e] 35); simp only [World.size_alloc] at h; exact h) (show Below ((((w.alloc (.cells #[.string x.nm, .int .i64 x.px, .int .i64 x.py, .int .i64 x.hg, .int .i64 x.jb, .int .i64 x.bk, .slice A n c] 38)).alloc (.cells #[.int .i64 s, .int .i64 t, .int .i64 o, .int .i64 g] 40)).alloc (.cells #[.int .i64 a, .int .i64 b] 35)).alloc (.cells #[.int .i64 d, .int .i64 e] 35)).heap.size ((((w.alloc (.cells #[.string x.nm, .int .i64 x.px, .int .i64 x.py, .int .i64 x.hg, .int .i64 x.jb, .int .i64 x.bk, .slice A n c] 38)).alloc (.cells #[.int .i64 s, .int .i64 t, .int .i64 o, .int .i64 g] 40)).alloc (.cells #[.int .i64 a, .int .i64 b] 35)).alloc (.cells #[.int .i64 d, .int .i64 e] 35)) ((((w.alloc (.cells #[.string x.nm, .int .i64 x.px, .int .i64 x.py, .int .i64 x.hg, .int .i64 x.jb, .int .i64 x.bk, .slice A n c] 38)).alloc (.cells #[.int .i64 s, .int .i64 t, .int .i64 o, .int .i64 g] 40)).alloc (.cells #[.int .i64 a, .int .i64 b] 35)).alloc (.cells #[.int .i64 d, .int .i64 e] 35)) from gr_refl _))
    have HB := Lib.hid (show Below w.heap.size w ((((w.alloc (.cells #[.string x.nm, .int .i64 x.px, .int .i64 x.py, .int .i64 x.hg, .int .i64 x.jb, .int .i64 x.bk, .slice A n c] 38)).alloc (.cells #[.int .i64 s, .int .i64 t, .int .i64 o, .int .i64 g] 40)).alloc (.cells #[.int .i64 a, .int .i64 b] 35)).alloc (.cells #[.int .i64 d, .int .i64 e] 35)) from gr_alloc (gr_alloc (gr_alloc (gr_alloc (gr_refl _)))))
    have HS := Lib.hid (h.later HB.out)
    have HT := Lib.hid (hT.late HB.out)
    have hz4 : w.heap.size + 4 ≤ ((((w.alloc (.cells #[.string x.nm, .int .i64 x.px, .int .i64 x.py, .int .i64 x.hg, .int .i64 x.jb, .int .i64 x.bk, .slice A n c] 38)).alloc (.cells #[.int .i64 s, .int .i64 t, .int .i64 o, .int .i64 g] 40)).alloc (.cells #[.int .i64 a, .int .i64 b] 35)).alloc (.cells #[.int .i64 d, .int .i64 e] 35)).heap.size := by simp
    clear h hT
    obtain ⟨c0, c1, c2, c3, c4, c5, c6⟩ := HC.out
    have HV_0 := HV.out.cell 0 (by simp)
    have HV_1 := HV.out.cell 1 (by simp)
    have HV_2 := HV.out.cell 2 (by simp)
    have HV_3 := HV.out.cell 3 (by simp)
    simp only [List.getD_cons_zero, List.getD_cons_succ] at HV_0 HV_1 HV_2 HV_3
    have HP_0 := HP.out.cell 0 (by simp)
    have HP_1 := HP.out.cell 1 (by simp)
    simp only [List.getD_cons_zero, List.getD_cons_succ] at HP_0 HP_1
    have HQ_0 := HQ.out.cell 0 (by simp)
    have HQ_1 := HQ.out.cell 1 (by simp)
    simp only [List.getD_cons_zero, List.getD_cons_succ] at HQ_0 HQ_1
    go_enter Tryd.func13, Tryd.ntmps13
    go_wp2_with fail
    generalize (((w.alloc (.cells #[.string x.nm, .int .i64 x.px, .int .i64 x.py, .int .i64 x.hg, .int .i64 x.jb, .int .i64 x.bk, .slice A n c] 38)).alloc (.cells #[.int .i64 s, .int .i64 t, .int .i64 o, .int .i64 g] 40)).alloc (.cells #[.int .i64 a, .int .i64 b] 35)).alloc (.cells #[.int .i64 d, .int .i64 e] 35) = v0 at *
    clear c0 c1 c2 c3 c4 c5 c6 HV_0 HV_1 HV_2 HV_3 HP_0 HP_1 HQ_0 HQ_1
    go_at_call 37
    (with_reducible refine (validSpeeds_is K0.out _).mono ?_)
    rintro r w1 ⟨rfl, hb⟩
    replace HC := Lib.hid (HC.out.late hb)
    replace HV := Lib.hid (HV.out.late hb)
    replace HP := Lib.hid (HP.out.late hb)
    replace HQ := Lib.hid (HQ.out.late hb)
    replace HT := Lib.hid (HT.out.late hb)
    replace HS := Lib.hid (HS.out.later hb)
    replace HB := Lib.hid (gr_then hb HB.out)
    clear hb
    obtain ⟨c0, c1, c2, c3, c4, c5, c6⟩ := HC.out
    have HV_0 := HV.out.cell 0 (by simp)
    have HV_1 := HV.out.cell 1 (by simp)
    have HV_2 := HV.out.cell 2 (by simp)
    have HV_3 := HV.out.cell 3 (by simp)
    simp only [List.getD_cons_zero, List.getD_cons_succ] at HV_0 HV_1 HV_2 HV_3
    have HP_0 := HP.out.cell 0 (by simp)
    have HP_1 := HP.out.cell 1 (by simp)
    simp only [List.getD_cons_zero, List.getD_cons_succ] at HP_0 HP_1
    have HQ_0 := HQ.out.cell 0 (by simp)
    have HQ_1 := HQ.out.cell 1 (by simp)
    simp only [List.getD_cons_zero, List.getD_cons_succ] at HQ_0 HQ_1
    go_wp2_with fail
    clear c0 c1 c2 c3 c4 c5 c6 HV_0 HV_1 HV_2 HV_3 HP_0 HP_1 HQ_0 HQ_1
    go_returns
    exact ⟨rfl, HB.out⟩
  cases q1
  case false =>
    have KK := Lib.hid (show mvOk x n s t o g a b d e = false by unfold mvOk; rw [K0.out, K1.out]; rfl)
    rw [KK.out]
    rw [show tV false V = 0 from rfl, show tC false = 1 from rfl]
    have HC := Lib.hid ((Cc.box w 38 x A n c).late (show Below (w.alloc (.cells #[.string x.nm, .int .i64 x.px, .int .i64 x.py, .int .i64 x.hg, .int .i64 x.jb, .int .i64 x.bk, .slice A n c] 38)).heap.size (w.alloc (.cells #[.string x.nm, .int .i64 x.px, .int .i64 x.py, .int .i64 x.hg, .int .i64 x.jb, .int .i64 x.bk, .slice A n c] 38)) ((((w.alloc (.cells #[.string x.nm, .int .i64 x.px, .int .i64 x.py, .int .i64 x.hg, .int .i64 x.jb, .int .i64 x.bk, .slice A n c] 38)).alloc (.cells #[.int .i64 s, .int .i64 t, .int .i64 o, .int .i64 g] 40)).alloc (.cells #[.int .i64 a, .int .i64 b] 35)).alloc (.cells #[.int .i64 d, .int .i64 e] 35)) from gr_alloc (gr_alloc (gr_alloc (gr_refl _)))))
    have HV := Lib.hid (BI.late (show BI ((w.alloc (.cells #[.string x.nm, .int .i64 x.px, .int .i64 x.py, .int .i64 x.hg, .int .i64 x.jb, .int .i64 x.bk, .slice A n c] 38)).alloc (.cells #[.int .i64 s, .int .i64 t, .int .i64 o, .int .i64 g] 40)) (w.heap.size + 1) 40 [s, t, o, g] from by have h := heap_alloc_new (w.alloc (.cells #[.string x.nm, .int .i64 x.px, .int .i64 x.py, .int .i64 x.hg, .int .i64 x.jb, .int .i64 x.bk, .slice A n c] 38)) (.cells #[.int .i64 s, .int .i64 t, .int .i64 o, .int .i64 g] 40); simp only [World.size_alloc] at h; exact h) (show Below ((w.alloc (.cells #[.string x.nm, .int .i64 x.px, .int .i64 x.py, .int .i64 x.hg, .int .i64 x.jb, .int .i64 x.bk, .slice A n c] 38)).alloc (.cells #[.int .i64 s, .int .i64 t, .int .i64 o, .int .i64 g] 40)).heap.size ((w.alloc (.cells #[.string x.nm, .int .i64 x.px, .int .i64 x.py, .int .i64 x.hg, .int .i64 x.jb, .int .i64 x.bk, .slice A n c] 38)).alloc (.cells #[.int .i64 s, .int .i64 t, .int .i64 o, .int .i64 g] 40)) ((((w.alloc (.cells #[.string x.nm, .int .i64 x.px, .int .i64 x.py, .int .i64 x.hg, .int .i64 x.jb, .int .i64 x.bk, .slice A n c] 38)).alloc (.cells #[.int .i64 s, .int .i64 t, .int .i64 o, .int .i64 g] 40)).alloc (.cells #[.int .i64 a, .int .i64 b] 35)).alloc (.cells #[.int .i64 d, .int .i64 e] 35)) from gr_alloc (gr_alloc (gr_refl _))))
    have HP := Lib.hid (BI.late (show BI (((w.alloc (.cells #[.string x.nm, .int .i64 x.px, .int .i64 x.py, .int .i64 x.hg, .int .i64 x.jb, .int .i64 x.bk, .slice A n c] 38)).alloc (.cells #[.int .i64 s, .int .i64 t, .int .i64 o, .int .i64 g] 40)).alloc (.cells #[.int .i64 a, .int .i64 b] 35)) (w.heap.size + 1 + 1) 35 [a, b] from by have h := heap_alloc_new ((w.alloc (.cells #[.string x.nm, .int .i64 x.px, .int .i64 x.py, .int .i64 x.hg, .int .i64 x.jb, .int .i64 x.bk, .slice A n c] 38)).alloc (.cells #[.int .i64 s, .int .i64 t, .int .i64 o, .int .i64 g] 40)) (.cells #[.int .i64 a, .int .i64 b] 35); simp only [World.size_alloc] at h; exact h) (show Below (((w.alloc (.cells #[.string x.nm, .int .i64 x.px, .int .i64 x.py, .int .i64 x.hg, .int .i64 x.jb, .int .i64 x.bk, .slice A n c] 38)).alloc (.cells #[.int .i64 s, .int .i64 t, .int .i64 o, .int .i64 g] 40)).alloc (.cells #[.int .i64 a, .int .i64 b] 35)).heap.size (((w.alloc (.cells #[.string x.nm, .int .i64 x.px, .int .i64 x.py, .int .i64 x.hg, .int .i64 x.jb, .int .i64 x.bk, .slice A n c] 38)).alloc (.cells #[.int .i64 s, .int .i64 t, .int .i64 o, .int .i64 g] 40)).alloc (.cells #[.int .i64 a, .int .i64 b] 35)) ((((w.alloc (.cells #[.string x.nm, .int .i64 x.px, .int .i64 x.py, .int .i64 x.hg, .int .i64 x.jb, .int .i64 x.bk, .slice A n c] 38)).alloc (.cells #[.int .i64 s, .int .i64 t, .int .i64 o, .int .i64 g] 40)).alloc (.cells #[.int .i64 a, .int .i64 b] 35)).alloc (.cells #[.int .i64 d, .int .i64 e] 35)) from gr_alloc (gr_refl _)))
    have HQ := Lib.hid (BI.late (show BI ((((w.alloc (.cells #[.string x.nm, .int .i64 x.px, .int .i64 x.py, .int .i64 x.hg, .int .i64 x.jb, .int .i64 x.bk, .slice A n c] 38)).alloc (.cells #[.int .i64 s, .int .i64 t, .int .i64 o, .int .i64 g] 40)).alloc (.cells #[.int .i64 a, .int .i64 b] 35)).alloc (.cells #[.int .i64 d, .int .i64 e] 35)) (w.heap.size + 1 + 1 + 1) 35 [d, e] from by have h := heap_alloc_new (((w.alloc (.cells #[.string x.nm, .int .i64 x.px, .int .i64 x.py, .int .i64 x.hg, .int .i64 x.jb, .int .i64 x.bk, .slice A n c] 38)).alloc (.cells #[.int .i64 s, .int .i64 t, .int .i64 o, .int .i64 g] 40)).alloc (.cells #[.int .i64 a, .int .i64 b] 35)) (.cells #[.int .i64 d, .int .i64 e] 35); simp only [World.size_alloc] at h; exact h) (show Below ((((w.alloc (.cells #[.string x.nm, .int .i64 x.px, .int .i64 x.py, .int .i64 x.hg, .int .i64 x.jb, .int .i64 x.bk, .slice A n c] 38)).alloc (.cells #[.int .i64 s, .int .i64 t, .int .i64 o, .int .i64 g] 40)).alloc (.cells #[.int .i64 a, .int .i64 b] 35)).alloc (.cells #[.int .i64 d, .int .i64 e] 35)).heap.size ((((w.alloc (.cells #[.string x.nm, .int .i64 x.px, .int .i64 x.py, .int .i64 x.hg, .int .i64 x.jb, .int .i64 x.bk, .slice A n c] 38)).alloc (.cells #[.int .i64 s, .int .i64 t, .int .i64 o, .int .i64 g] 40)).alloc (.cells #[.int .i64 a, .int .i64 b] 35)).alloc (.cells #[.int .i64 d, .int .i64 e] 35)) ((((w.alloc (.cells #[.string x.nm, .int .i64 x.px, .int .i64 x.py, .int .i64 x.hg, .int .i64 x.jb, .int .i64 x.bk, .slice A n c] 38)).alloc (.cells #[.int .i64 s, .int .i64 t, .int .i64 o, .int .i64 g] 40)).alloc (.cells #[.int .i64 a, .int .i64 b] 35)).alloc (.cells #[.int .i64 d, .int .i64 e] 35)) from gr_refl _))
    have HB := Lib.hid (show Below w.heap.size w ((((w.alloc (.cells #[.string x.nm, .int .i64 x.px, .int .i64 x.py, .int .i64 x.hg, .int .i64 x.jb, .int .i64 x.bk, .slice A n c] 38)).alloc (.cells #[.int .i64 s, .int .i64 t, .int .i64 o, .int .i64 g] 40)).alloc (.cells #[.int .i64 a, .int .i64 b] 35)).alloc (.cells #[.int .i64 d, .int .i64 e] 35)) from gr_alloc (gr_alloc (gr_alloc (gr_alloc (gr_refl _)))))
    have HS := Lib.hid (h.later HB.out)
    have HT := Lib.hid (hT.late HB.out)
    have hz4 : w.heap.size + 4 ≤ ((((w.alloc (.cells #[.string x.nm, .int .i64 x.px, .int .i64 x.py, .int .i64 x.hg, .int .i64 x.jb, .int .i64 x.bk, .slice A n c] 38)).alloc (.cells #[.int .i64 s, .int .i64 t, .int .i64 o, .int .i64 g] 40)).alloc (.cells #[.int .i64 a, .int .i64 b] 35)).alloc (.cells #[.int .i64 d, .int .i64 e] 35)).heap.size := by simp
    clear h hT
    obtain ⟨c0, c1, c2, c3, c4, c5, c6⟩ := HC.out
    have HV_0 := HV.out.cell 0 (by simp)
    have HV_1 := HV.out.cell 1 (by simp)
    have HV_2 := HV.out.cell 2 (by simp)
    have HV_3 := HV.out.cell 3 (by simp)
    simp only [List.getD_cons_zero, List.getD_cons_succ] at HV_0 HV_1 HV_2 HV_3
    have HP_0 := HP.out.cell 0 (by simp)
    have HP_1 := HP.out.cell 1 (by simp)
    simp only [List.getD_cons_zero, List.getD_cons_succ] at HP_0 HP_1
    have HQ_0 := HQ.out.cell 0 (by simp)
    have HQ_1 := HQ.out.cell 1 (by simp)
    simp only [List.getD_cons_zero, List.getD_cons_succ] at HQ_0 HQ_1
    go_enter Tryd.func13, Tryd.ntmps13
    go_wp2_with fail
    generalize (((w.alloc (.cells #[.string x.nm, .int .i64 x.px, .int .i64 x.py, .int .i64 x.hg, .int .i64 x.jb, .int .i64 x.bk, .slice A n c] 38)).alloc (.cells #[.int .i64 s, .int .i64 t, .int .i64 o, .int .i64 g] 40)).alloc (.cells #[.int .i64 a, .int .i64 b] 35)).alloc (.cells #[.int .i64 d, .int .i64 e] 35) = v0 at *
    clear c0 c1 c2 c3 c4 c5 c6 HV_0 HV_1 HV_2 HV_3 HP_0 HP_1 HQ_0 HQ_1
    go_at_call 37
    (with_reducible refine (validSpeeds_is K0.out _).mono ?_)
    rintro r w1 ⟨rfl, hb⟩
    replace HC := Lib.hid (HC.out.late hb)
    replace HV := Lib.hid (HV.out.late hb)
    replace HP := Lib.hid (HP.out.late hb)
    replace HQ := Lib.hid (HQ.out.late hb)
    replace HT := Lib.hid (HT.out.late hb)
    replace HS := Lib.hid (HS.out.later hb)
    replace HB := Lib.hid (gr_then hb HB.out)
    clear hb
    obtain ⟨c0, c1, c2, c3, c4, c5, c6⟩ := HC.out
    have HV_0 := HV.out.cell 0 (by simp)
    have HV_1 := HV.out.cell 1 (by simp)
    have HV_2 := HV.out.cell 2 (by simp)
    have HV_3 := HV.out.cell 3 (by simp)
    simp only [List.getD_cons_zero, List.getD_cons_succ] at HV_0 HV_1 HV_2 HV_3
    have HP_0 := HP.out.cell 0 (by simp)
    have HP_1 := HP.out.cell 1 (by simp)
    simp only [List.getD_cons_zero, List.getD_cons_succ] at HP_0 HP_1
    have HQ_0 := HQ.out.cell 0 (by simp)
    have HQ_1 := HQ.out.cell 1 (by simp)
    simp only [List.getD_cons_zero, List.getD_cons_succ] at HQ_0 HQ_1
    go_wp2_with fail
    clear c0 c1 c2 c3 c4 c5 c6 HV_0 HV_1 HV_2 HV_3 HP_0 HP_1 HQ_0 HQ_1
    go_at_call 38
    (with_reducible refine (validCr_is K1.out hn hz hk HS.out).mono ?_)
    rintro r w2 ⟨rfl, hb⟩
    replace HC := Lib.hid (HC.out.late hb)
    replace HV := Lib.hid (HV.out.late hb)
    replace HP := Lib.hid (HP.out.late hb)
    replace HQ := Lib.hid (HQ.out.late hb)
    replace HT := Lib.hid (HT.out.late hb)
    replace HS := Lib.hid (HS.out.later hb)
    replace HB := Lib.hid (gr_then hb HB.out)
    clear hb
    obtain ⟨c0, c1, c2, c3, c4, c5, c6⟩ := HC.out
    have HV_0 := HV.out.cell 0 (by simp)
    have HV_1 := HV.out.cell 1 (by simp)
    have HV_2 := HV.out.cell 2 (by simp)
    have HV_3 := HV.out.cell 3 (by simp)
    simp only [List.getD_cons_zero, List.getD_cons_succ] at HV_0 HV_1 HV_2 HV_3
    have HP_0 := HP.out.cell 0 (by simp)
    have HP_1 := HP.out.cell 1 (by simp)
    simp only [List.getD_cons_zero, List.getD_cons_succ] at HP_0 HP_1
    have HQ_0 := HQ.out.cell 0 (by simp)
    have HQ_1 := HQ.out.cell 1 (by simp)
    simp only [List.getD_cons_zero, List.getD_cons_succ] at HQ_0 HQ_1
    go_wp2_with fail
    clear c0 c1 c2 c3 c4 c5 c6 HV_0 HV_1 HV_2 HV_3 HP_0 HP_1 HQ_0 HQ_1
    go_returns
    exact ⟨rfl, HB.out⟩
  cases q2
  case false =>
    have KK := Lib.hid (show mvOk x n s t o g a b d e = false by unfold mvOk; rw [K0.out, K1.out, K2.out]; rfl)
    rw [KK.out]
    rw [show tV false V = 0 from rfl, show tC false = 1 from rfl]
    have HC := Lib.hid ((Cc.box w 38 x A n c).late (show Below (w.alloc (.cells #[.string x.nm, .int .i64 x.px, .int .i64 x.py, .int .i64 x.hg, .int .i64 x.jb, .int .i64 x.bk, .slice A n c] 38)).heap.size (w.alloc (.cells #[.string x.nm, .int .i64 x.px, .int .i64 x.py, .int .i64 x.hg, .int .i64 x.jb, .int .i64 x.bk, .slice A n c] 38)) ((((w.alloc (.cells #[.string x.nm, .int .i64 x.px, .int .i64 x.py, .int .i64 x.hg, .int .i64 x.jb, .int .i64 x.bk, .slice A n c] 38)).alloc (.cells #[.int .i64 s, .int .i64 t, .int .i64 o, .int .i64 g] 40)).alloc (.cells #[.int .i64 a, .int .i64 b] 35)).alloc (.cells #[.int .i64 d, .int .i64 e] 35)) from gr_alloc (gr_alloc (gr_alloc (gr_refl _)))))
    have HV := Lib.hid (BI.late (show BI ((w.alloc (.cells #[.string x.nm, .int .i64 x.px, .int .i64 x.py, .int .i64 x.hg, .int .i64 x.jb, .int .i64 x.bk, .slice A n c] 38)).alloc (.cells #[.int .i64 s, .int .i64 t, .int .i64 o, .int .i64 g] 40)) (w.heap.size + 1) 40 [s, t, o, g] from by have h := heap_alloc_new (w.alloc (.cells #[.string x.nm, .int .i64 x.px, .int .i64 x.py, .int .i64 x.hg, .int .i64 x.jb, .int .i64 x.bk, .slice A n c] 38)) (.cells #[.int .i64 s, .int .i64 t, .int .i64 o, .int .i64 g] 40); simp only [World.size_alloc] at h; exact h) (show Below ((w.alloc (.cells #[.string x.nm, .int .i64 x.px, .int .i64 x.py, .int .i64 x.hg, .int .i64 x.jb, .int .i64 x.bk, .slice A n c] 38)).alloc (.cells #[.int .i64 s, .int .i64 t, .int .i64 o, .int .i64 g] 40)).heap.size ((w.alloc (.cells #[.string x.nm, .int .i64 x.px, .int .i64 x.py, .int .i64 x.hg, .int .i64 x.jb, .int .i64 x.bk, .slice A n c] 38)).alloc (.cells #[.int .i64 s, .int .i64 t, .int .i64 o, .int .i64 g] 40)) ((((w.alloc (.cells #[.string x.nm, .int .i64 x.px, .int .i64 x.py, .int .i64 x.hg, .int .i64 x.jb, .int .i64 x.bk, .slice A n c] 38)).alloc (.cells #[.int .i64 s, .int .i64 t, .int .i64 o, .int .i64 g] 40)).alloc (.cells #[.int .i64 a, .int .i64 b] 35)).alloc (.cells #[.int .i64 d, .int .i64 e] 35)) from gr_alloc (gr_alloc (gr_refl _))))
    have HP := Lib.hid (BI.late (show BI (((w.alloc (.cells #[.string x.nm, .int .i64 x.px, .int .i64 x.py, .int .i64 x.hg, .int .i64 x.jb, .int .i64 x.bk, .slice A n c] 38)).alloc (.cells #[.int .i64 s, .int .i64 t, .int .i64 o, .int .i64 g] 40)).alloc (.cells #[.int .i64 a, .int .i64 b] 35)) (w.heap.size + 1 + 1) 35 [a, b] from by have h := heap_alloc_new ((w.alloc (.cells #[.string x.nm, .int .i64 x.px, .int .i64 x.py, .int .i64 x.hg, .int .i64 x.jb, .int .i64 x.bk, .slice A n c] 38)).alloc (.cells #[.int .i64 s, .int .i64 t, .int .i64 o, .int .i64 g] 40)) (.cells #[.int .i64 a, .int .i64 b] 35); simp only [World.size_alloc] at h; exact h) (show Below (((w.alloc (.cells #[.string x.nm, .int .i64 x.px, .int .i64 x.py, .int .i64 x.hg, .int .i64 x.jb, .int .i64 x.bk, .slice A n c] 38)).alloc (.cells #[.int .i64 s, .int .i64 t, .int .i64 o, .int .i64 g] 40)).alloc (.cells #[.int .i64 a, .int .i64 b] 35)).heap.size (((w.alloc (.cells #[.string x.nm, .int .i64 x.px, .int .i64 x.py, .int .i64 x.hg, .int .i64 x.jb, .int .i64 x.bk, .slice A n c] 38)).alloc (.cells #[.int .i64 s, .int .i64 t, .int .i64 o, .int .i64 g] 40)).alloc (.cells #[.int .i64 a, .int .i64 b] 35)) ((((w.alloc (.cells #[.string x.nm, .int .i64 x.px, .int .i64 x.py, .int .i64 x.hg, .int .i64 x.jb, .int .i64 x.bk, .slice A n c] 38)).alloc (.cells #[.int .i64 s, .int .i64 t, .int .i64 o, .int .i64 g] 40)).alloc (.cells #[.int .i64 a, .int .i64 b] 35)).alloc (.cells #[.int .i64 d, .int .i64 e] 35)) from gr_alloc (gr_refl _)))
    have HQ := Lib.hid (BI.late (show BI ((((w.alloc (.cells #[.string x.nm, .int .i64 x.px, .int .i64 x.py, .int .i64 x.hg, .int .i64 x.jb, .int .i64 x.bk, .slice A n c] 38)).alloc (.cells #[.int .i64 s, .int .i64 t, .int .i64 o, .int .i64 g] 40)).alloc (.cells #[.int .i64 a, .int .i64 b] 35)).alloc (.cells #[.int .i64 d, .int .i64 e] 35)) (w.heap.size + 1 + 1 + 1) 35 [d, e] from by have h := heap_alloc_new (((w.alloc (.cells #[.string x.nm, .int .i64 x.px, .int .i64 x.py, .int .i64 x.hg, .int .i64 x.jb, .int .i64 x.bk, .slice A n c] 38)).alloc (.cells #[.int .i64 s, .int .i64 t, .int .i64 o, .int .i64 g] 40)).alloc (.cells #[.int .i64 a, .int .i64 b] 35)) (.cells #[.int .i64 d, .int .i64 e] 35); simp only [World.size_alloc] at h; exact h) (show Below ((((w.alloc (.cells #[.string x.nm, .int .i64 x.px, .int .i64 x.py, .int .i64 x.hg, .int .i64 x.jb, .int .i64 x.bk, .slice A n c] 38)).alloc (.cells #[.int .i64 s, .int .i64 t, .int .i64 o, .int .i64 g] 40)).alloc (.cells #[.int .i64 a, .int .i64 b] 35)).alloc (.cells #[.int .i64 d, .int .i64 e] 35)).heap.size ((((w.alloc (.cells #[.string x.nm, .int .i64 x.px, .int .i64 x.py, .int .i64 x.hg, .int .i64 x.jb, .int .i64 x.bk, .slice A n c] 38)).alloc (.cells #[.int .i64 s, .int .i64 t, .int .i64 o, .int .i64 g] 40)).alloc (.cells #[.int .i64 a, .int .i64 b] 35)).alloc (.cells #[.int .i64 d, .int .i64 e] 35)) ((((w.alloc (.cells #[.string x.nm, .int .i64 x.px, .int .i64 x.py, .int .i64 x.hg, .int .i64 x.jb, .int .i64 x.bk, .slice A n c] 38)).alloc (.cells #[.int .i64 s, .int .i64 t, .int .i64 o, .int .i64 g] 40)).alloc (.cells #[.int .i64 a, .int .i64 b] 35)).alloc (.cells #[.int .i64 d, .int .i64 e] 35)) from gr_refl _))
    have HB := Lib.hid (show Below w.heap.size w ((((w.alloc (.cells #[.string x.nm, .int .i64 x.px, .int .i64 x.py, .int .i64 x.hg, .int .i64 x.jb, .int .i64 x.bk, .slice A n c] 38)).alloc (.cells #[.int .i64 s, .int .i64 t, .int .i64 o, .int .i64 g] 40)).alloc (.cells #[.int .i64 a, .int .i64 b] 35)).alloc (.cells #[.int .i64 d, .int .i64 e] 35)) from gr_alloc (gr_alloc (gr_alloc (gr_alloc (gr_refl _)))))
    have HS := Lib.hid (h.later HB.out)
    have HT := Lib.hid (hT.late HB.out)
    have hz4 : w.heap.size + 4 ≤ ((((w.alloc (.cells #[.string x.nm, .int .i64 x.px, .int .i64 x.py, .int .i64 x.hg, .int .i64 x.jb, .int .i64 x.bk, .slice A n c] 38)).alloc (.cells #[.int .i64 s, .int .i64 t, .int .i64 o, .int .i64 g] 40)).alloc (.cells #[.int .i64 a, .int .i64 b] 35)).alloc (.cells #[.int .i64 d, .int .i64 e] 35)).heap.size := by simp
    clear h hT
    obtain ⟨c0, c1, c2, c3, c4, c5, c6⟩ := HC.out
    have HV_0 := HV.out.cell 0 (by simp)
    have HV_1 := HV.out.cell 1 (by simp)
    have HV_2 := HV.out.cell 2 (by simp)
    have HV_3 := HV.out.cell 3 (by simp)
    simp only [List.getD_cons_zero, List.getD_cons_succ] at HV_0 HV_1 HV_2 HV_3
    have HP_0 := HP.out.cell 0 (by simp)
    have HP_1 := HP.out.cell 1 (by simp)
    simp only [List.getD_cons_zero, List.getD_cons_succ] at HP_0 HP_1
    have HQ_0 := HQ.out.cell 0 (by simp)
    have HQ_1 := HQ.out.cell 1 (by simp)
    simp only [List.getD_cons_zero, List.getD_cons_succ] at HQ_0 HQ_1
    go_enter Tryd.func13, Tryd.ntmps13
    go_wp2_with fail
    generalize (((w.alloc (.cells #[.string x.nm, .int .i64 x.px, .int .i64 x.py, .int .i64 x.hg, .int .i64 x.jb, .int .i64 x.bk, .slice A n c] 38)).alloc (.cells #[.int .i64 s, .int .i64 t, .int .i64 o, .int .i64 g] 40)).alloc (.cells #[.int .i64 a, .int .i64 b] 35)).alloc (.cells #[.int .i64 d, .int .i64 e] 35) = v0 at *
    clear c0 c1 c2 c3 c4 c5 c6 HV_0 HV_1 HV_2 HV_3 HP_0 HP_1 HQ_0 HQ_1
    go_at_call 37
    (with_reducible refine (validSpeeds_is K0.out _).mono ?_)
    rintro r w1 ⟨rfl, hb⟩
    replace HC := Lib.hid (HC.out.late hb)
    replace HV := Lib.hid (HV.out.late hb)
    replace HP := Lib.hid (HP.out.late hb)
    replace HQ := Lib.hid (HQ.out.late hb)
    replace HT := Lib.hid (HT.out.late hb)
    replace HS := Lib.hid (HS.out.later hb)
    replace HB := Lib.hid (gr_then hb HB.out)
    clear hb
    obtain ⟨c0, c1, c2, c3, c4, c5, c6⟩ := HC.out
    have HV_0 := HV.out.cell 0 (by simp)
    have HV_1 := HV.out.cell 1 (by simp)
    have HV_2 := HV.out.cell 2 (by simp)
    have HV_3 := HV.out.cell 3 (by simp)
    simp only [List.getD_cons_zero, List.getD_cons_succ] at HV_0 HV_1 HV_2 HV_3
    have HP_0 := HP.out.cell 0 (by simp)
    have HP_1 := HP.out.cell 1 (by simp)
    simp only [List.getD_cons_zero, List.getD_cons_succ] at HP_0 HP_1
    have HQ_0 := HQ.out.cell 0 (by simp)
    have HQ_1 := HQ.out.cell 1 (by simp)
    simp only [List.getD_cons_zero, List.getD_cons_succ] at HQ_0 HQ_1
    go_wp2_with fail
    clear c0 c1 c2 c3 c4 c5 c6 HV_0 HV_1 HV_2 HV_3 HP_0 HP_1 HQ_0 HQ_1
    go_at_call 38
    (with_reducible refine (validCr_is K1.out hn hz hk HS.out).mono ?_)
    rintro r w2 ⟨rfl, hb⟩
    replace HC := Lib.hid (HC.out.late hb)
    replace HV := Lib.hid (HV.out.late hb)
    replace HP := Lib.hid (HP.out.late hb)
    replace HQ := Lib.hid (HQ.out.late hb)
    replace HT := Lib.hid (HT.out.late hb)
    replace HS := Lib.hid (HS.out.later hb)
    replace HB := Lib.hid (gr_then hb HB.out)
    clear hb
    obtain ⟨c0, c1, c2, c3, c4, c5, c6⟩ := HC.out
    have HV_0 := HV.out.cell 0 (by simp)
    have HV_1 := HV.out.cell 1 (by simp)
    have HV_2 := HV.out.cell 2 (by simp)
    have HV_3 := HV.out.cell 3 (by simp)
    simp only [List.getD_cons_zero, List.getD_cons_succ] at HV_0 HV_1 HV_2 HV_3
    have HP_0 := HP.out.cell 0 (by simp)
    have HP_1 := HP.out.cell 1 (by simp)
    simp only [List.getD_cons_zero, List.getD_cons_succ] at HP_0 HP_1
    have HQ_0 := HQ.out.cell 0 (by simp)
    have HQ_1 := HQ.out.cell 1 (by simp)
    simp only [List.getD_cons_zero, List.getD_cons_succ] at HQ_0 HQ_1
    go_wp2_with fail
    clear c0 c1 c2 c3 c4 c5 c6 HV_0 HV_1 HV_2 HV_3 HP_0 HP_1 HQ_0 HQ_1
    go_at_call 39
    (with_reducible refine (validPl_is K2.out _).mono ?_)
    rintro r w3 ⟨rfl, hb⟩
    replace HC := Lib.hid (HC.out.late hb)
    replace HV := Lib.hid (HV.out.late hb)
    replace HP := Lib.hid (HP.out.late hb)
    replace HQ := Lib.hid (HQ.out.late hb)
    replace HT := Lib.hid (HT.out.late hb)
    replace HS := Lib.hid (HS.out.later hb)
    replace HB := Lib.hid (gr_then hb HB.out)
    clear hb
    obtain ⟨c0, c1, c2, c3, c4, c5, c6⟩ := HC.out
    have HV_0 := HV.out.cell 0 (by simp)
    have HV_1 := HV.out.cell 1 (by simp)
    have HV_2 := HV.out.cell 2 (by simp)
    have HV_3 := HV.out.cell 3 (by simp)
    simp only [List.getD_cons_zero, List.getD_cons_succ] at HV_0 HV_1 HV_2 HV_3
    have HP_0 := HP.out.cell 0 (by simp)
    have HP_1 := HP.out.cell 1 (by simp)
    simp only [List.getD_cons_zero, List.getD_cons_succ] at HP_0 HP_1
    have HQ_0 := HQ.out.cell 0 (by simp)
    have HQ_1 := HQ.out.cell 1 (by simp)
    simp only [List.getD_cons_zero, List.getD_cons_succ] at HQ_0 HQ_1
    go_wp2_with fail
    clear c0 c1 c2 c3 c4 c5 c6 HV_0 HV_1 HV_2 HV_3 HP_0 HP_1 HQ_0 HQ_1
    go_returns
    exact ⟨rfl, HB.out⟩
  cases q3
  case false =>
    have KK := Lib.hid (show mvOk x n s t o g a b d e = false by unfold mvOk; rw [K0.out, K1.out, K2.out, K3.out]; rfl)
    rw [KK.out]
    rw [show tV false V = 0 from rfl, show tC false = 1 from rfl]
    have HC := Lib.hid ((Cc.box w 38 x A n c).late (show Below (w.alloc (.cells #[.string x.nm, .int .i64 x.px, .int .i64 x.py, .int .i64 x.hg, .int .i64 x.jb, .int .i64 x.bk, .slice A n c] 38)).heap.size (w.alloc (.cells #[.string x.nm, .int .i64 x.px, .int .i64 x.py, .int .i64 x.hg, .int .i64 x.jb, .int .i64 x.bk, .slice A n c] 38)) ((((w.alloc (.cells #[.string x.nm, .int .i64 x.px, .int .i64 x.py, .int .i64 x.hg, .int .i64 x.jb, .int .i64 x.bk, .slice A n c] 38)).alloc (.cells #[.int .i64 s, .int .i64 t, .int .i64 o, .int .i64 g] 40)).alloc (.cells #[.int .i64 a, .int .i64 b] 35)).alloc (.cells #[.int .i64 d, .int .i64 e] 35)) from gr_alloc (gr_alloc (gr_alloc (gr_refl _)))))
    have HV := Lib.hid (BI.late (show BI ((w.alloc (.cells #[.string x.nm, .int .i64 x.px, .int .i64 x.py, .int .i64 x.hg, .int .i64 x.jb, .int .i64 x.bk, .slice A n c] 38)).alloc (.cells #[.int .i64 s, .int .i64 t, .int .i64 o, .int .i64 g] 40)) (w.heap.size + 1) 40 [s, t, o, g] from by have h := heap_alloc_new (w.alloc (.cells #[.string x.nm, .int .i64 x.px, .int .i64 x.py, .int .i64 x.hg, .int .i64 x.jb, .int .i64 x.bk, .slice A n c] 38)) (.cells #[.int .i64 s, .int .i64 t, .int .i64 o, .int .i64 g] 40); simp only [World.size_alloc] at h; exact h) (show Below ((w.alloc (.cells #[.string x.nm, .int .i64 x.px, .int .i64 x.py, .int .i64 x.hg, .int .i64 x.jb, .int .i64 x.bk, .slice A n c] 38)).alloc (.cells #[.int .i64 s, .int .i64 t, .int .i64 o, .int .i64 g] 40)).heap.size ((w.alloc (.cells #[.string x.nm, .int .i64 x.px, .int .i64 x.py, .int .i64 x.hg, .int .i64 x.jb, .int .i64 x.bk, .slice A n c] 38)).alloc (.cells #[.int .i64 s, .int .i64 t, .int .i64 o, .int .i64 g] 40)) ((((w.alloc (.cells #[.string x.nm, .int .i64 x.px, .int .i64 x.py, .int .i64 x.hg, .int .i64 x.jb, .int .i64 x.bk, .slice A n c] 38)).alloc (.cells #[.int .i64 s, .int .i64 t, .int .i64 o, .int .i64 g] 40)).alloc (.cells #[.int .i64 a, .int .i64 b] 35)).alloc (.cells #[.int .i64 d, .int .i64 e] 35)) from gr_alloc (gr_alloc (gr_refl _))))
    have HP := Lib.hid (BI.late (show BI (((w.alloc (.cells #[.string x.nm, .int .i64 x.px, .int .i64 x.py, .int .i64 x.hg, .int .i64 x.jb, .int .i64 x.bk, .slice A n c] 38)).alloc (.cells #[.int .i64 s, .int .i64 t, .int .i64 o, .int .i64 g] 40)).alloc (.cells #[.int .i64 a, .int .i64 b] 35)) (w.heap.size + 1 + 1) 35 [a, b] from by have h := heap_alloc_new ((w.alloc (.cells #[.string x.nm, .int .i64 x.px, .int .i64 x.py, .int .i64 x.hg, .int .i64 x.jb, .int .i64 x.bk, .slice A n c] 38)).alloc (.cells #[.int .i64 s, .int .i64 t, .int .i64 o, .int .i64 g] 40)) (.cells #[.int .i64 a, .int .i64 b] 35); simp only [World.size_alloc] at h; exact h) (show Below (((w.alloc (.cells #[.string x.nm, .int .i64 x.px, .int .i64 x.py, .int .i64 x.hg, .int .i64 x.jb, .int .i64 x.bk, .slice A n c] 38)).alloc (.cells #[.int .i64 s, .int .i64 t, .int .i64 o, .int .i64 g] 40)).alloc (.cells #[.int .i64 a, .int .i64 b] 35)).heap.size (((w.alloc (.cells #[.string x.nm, .int .i64 x.px, .int .i64 x.py, .int .i64 x.hg, .int .i64 x.jb, .int .i64 x.bk, .slice A n c] 38)).alloc (.cells #[.int .i64 s, .int .i64 t, .int .i64 o, .int .i64 g] 40)).alloc (.cells #[.int .i64 a, .int .i64 b] 35)) ((((w.alloc (.cells #[.string x.nm, .int .i64 x.px, .int .i64 x.py, .int .i64 x.hg, .int .i64 x.jb, .int .i64 x.bk, .slice A n c] 38)).alloc (.cells #[.int .i64 s, .int .i64 t, .int .i64 o, .int .i64 g] 40)).alloc (.cells #[.int .i64 a, .int .i64 b] 35)).alloc (.cells #[.int .i64 d, .int .i64 e] 35)) from gr_alloc (gr_refl _)))
    have HQ := Lib.hid (BI.late (show BI ((((w.alloc (.cells #[.string x.nm, .int .i64 x.px, .int .i64 x.py, .int .i64 x.hg, .int .i64 x.jb, .int .i64 x.bk, .slice A n c] 38)).alloc (.cells #[.int .i64 s, .int .i64 t, .int .i64 o, .int .i64 g] 40)).alloc (.cells #[.int .i64 a, .int .i64 b] 35)).alloc (.cells #[.int .i64 d, .int .i64 e] 35)) (w.heap.size + 1 + 1 + 1) 35 [d, e] from by have h := heap_alloc_new (((w.alloc (.cells #[.string x.nm, .int .i64 x.px, .int .i64 x.py, .int .i64 x.hg, .int .i64 x.jb, .int .i64 x.bk, .slice A n c] 38)).alloc (.cells #[.int .i64 s, .int .i64 t, .int .i64 o, .int .i64 g] 40)).alloc (.cells #[.int .i64 a, .int .i64 b] 35)) (.cells #[.int .i64 d, .int .i64 e] 35); simp only [World.size_alloc] at h; exact h) (show Below ((((w.alloc (.cells #[.string x.nm, .int .i64 x.px, .int .i64 x.py, .int .i64 x.hg, .int .i64 x.jb, .int .i64 x.bk, .slice A n c] 38)).alloc (.cells #[.int .i64 s, .int .i64 t, .int .i64 o, .int .i64 g] 40)).alloc (.cells #[.int .i64 a, .int .i64 b] 35)).alloc (.cells #[.int .i64 d, .int .i64 e] 35)).heap.size ((((w.alloc (.cells #[.string x.nm, .int .i64 x.px, .int .i64 x.py, .int .i64 x.hg, .int .i64 x.jb, .int .i64 x.bk, .slice A n c] 38)).alloc (.cells #[.int .i64 s, .int .i64 t, .int .i64 o, .int .i64 g] 40)).alloc (.cells #[.int .i64 a, .int .i64 b] 35)).alloc (.cells #[.int .i64 d, .int .i64 e] 35)) ((((w.alloc (.cells #[.string x.nm, .int .i64 x.px, .int .i64 x.py, .int .i64 x.hg, .int .i64 x.jb, .int .i64 x.bk, .slice A n c] 38)).alloc (.cells #[.int .i64 s, .int .i64 t, .int .i64 o, .int .i64 g] 40)).alloc (.cells #[.int .i64 a, .int .i64 b] 35)).alloc (.cells #[.int .i64 d, .int .i64 e] 35)) from gr_refl _))
    have HB := Lib.hid (show Below w.heap.size w ((((w.alloc (.cells #[.string x.nm, .int .i64 x.px, .int .i64 x.py, .int .i64 x.hg, .int .i64 x.jb, .int .i64 x.bk, .slice A n c] 38)).alloc (.cells #[.int .i64 s, .int .i64 t, .int .i64 o, .int .i64 g] 40)).alloc (.cells #[.int .i64 a, .int .i64 b] 35)).alloc (.cells #[.int .i64 d, .int .i64 e] 35)) from gr_alloc (gr_alloc (gr_alloc (gr_alloc (gr_refl _)))))
    have HS := Lib.hid (h.later HB.out)
    have HT := Lib.hid (hT.late HB.out)
    have hz4 : w.heap.size + 4 ≤ ((((w.alloc (.cells #[.string x.nm, .int .i64 x.px, .int .i64 x.py, .int .i64 x.hg, .int .i64 x.jb, .int .i64 x.bk, .slice A n c] 38)).alloc (.cells #[.int .i64 s, .int .i64 t, .int .i64 o, .int .i64 g] 40)).alloc (.cells #[.int .i64 a, .int .i64 b] 35)).alloc (.cells #[.int .i64 d, .int .i64 e] 35)).heap.size := by simp
    clear h hT
    obtain ⟨c0, c1, c2, c3, c4, c5, c6⟩ := HC.out
    have HV_0 := HV.out.cell 0 (by simp)
    have HV_1 := HV.out.cell 1 (by simp)
    have HV_2 := HV.out.cell 2 (by simp)
    have HV_3 := HV.out.cell 3 (by simp)
    simp only [List.getD_cons_zero, List.getD_cons_succ] at HV_0 HV_1 HV_2 HV_3
    have HP_0 := HP.out.cell 0 (by simp)
    have HP_1 := HP.out.cell 1 (by simp)
    simp only [List.getD_cons_zero, List.getD_cons_succ] at HP_0 HP_1
    have HQ_0 := HQ.out.cell 0 (by simp)
    have HQ_1 := HQ.out.cell 1 (by simp)
    simp only [List.getD_cons_zero, List.getD_cons_succ] at HQ_0 HQ_1
    go_enter Tryd.func13, Tryd.ntmps13
    go_wp2_with fail
    generalize (((w.alloc (.cells #[.string x.nm, .int .i64 x.px, .int .i64 x.py, .int .i64 x.hg, .int .i64 x.jb, .int .i64 x.bk, .slice A n c] 38)).alloc (.cells #[.int .i64 s, .int .i64 t, .int .i64 o, .int .i64 g] 40)).alloc (.cells #[.int .i64 a, .int .i64 b] 35)).alloc (.cells #[.int .i64 d, .int .i64 e] 35) = v0 at *
    clear c0 c1 c2 c3 c4 c5 c6 HV_0 HV_1 HV_2 HV_3 HP_0 HP_1 HQ_0 HQ_1
    go_at_call 37
    (with_reducible refine (validSpeeds_is K0.out _).mono ?_)
    rintro r w1 ⟨rfl, hb⟩
    replace HC := Lib.hid (HC.out.late hb)
    replace HV := Lib.hid (HV.out.late hb)
    replace HP := Lib.hid (HP.out.late hb)
    replace HQ := Lib.hid (HQ.out.late hb)
    replace HT := Lib.hid (HT.out.late hb)
    replace HS := Lib.hid (HS.out.later hb)
    replace HB := Lib.hid (gr_then hb HB.out)
    clear hb
    obtain ⟨c0, c1, c2, c3, c4, c5, c6⟩ := HC.out
    have HV_0 := HV.out.cell 0 (by simp)
    have HV_1 := HV.out.cell 1 (by simp)
    have HV_2 := HV.out.cell 2 (by simp)
    have HV_3 := HV.out.cell 3 (by simp)
    simp only [List.getD_cons_zero, List.getD_cons_succ] at HV_0 HV_1 HV_2 HV_3
    have HP_0 := HP.out.cell 0 (by simp)
    have HP_1 := HP.out.cell 1 (by simp)
    simp only [List.getD_cons_zero, List.getD_cons_succ] at HP_0 HP_1
    have HQ_0 := HQ.out.cell 0 (by simp)
    have HQ_1 := HQ.out.cell 1 (by simp)
    simp only [List.getD_cons_zero, List.getD_cons_succ] at HQ_0 HQ_1
    go_wp2_with fail
    clear c0 c1 c2 c3 c4 c5 c6 HV_0 HV_1 HV_2 HV_3 HP_0 HP_1 HQ_0 HQ_1
    go_at_call 38
    (with_reducible refine (validCr_is K1.out hn hz hk HS.out).mono ?_)
    rintro r w2 ⟨rfl, hb⟩
    replace HC := Lib.hid (HC.out.late hb)
    replace HV := Lib.hid (HV.out.late hb)
    replace HP := Lib.hid (HP.out.late hb)
    replace HQ := Lib.hid (HQ.out.late hb)
    replace HT := Lib.hid (HT.out.late hb)
    replace HS := Lib.hid (HS.out.later hb)
    replace HB := Lib.hid (gr_then hb HB.out)
    clear hb
    obtain ⟨c0, c1, c2, c3, c4, c5, c6⟩ := HC.out
    have HV_0 := HV.out.cell 0 (by simp)
    have HV_1 := HV.out.cell 1 (by simp)
    have HV_2 := HV.out.cell 2 (by simp)
    have HV_3 := HV.out.cell 3 (by simp)
    simp only [List.getD_cons_zero, List.getD_cons_succ] at HV_0 HV_1 HV_2 HV_3
    have HP_0 := HP.out.cell 0 (by simp)
    have HP_1 := HP.out.cell 1 (by simp)
    simp only [List.getD_cons_zero, List.getD_cons_succ] at HP_0 HP_1
    have HQ_0 := HQ.out.cell 0 (by simp)
    have HQ_1 := HQ.out.cell 1 (by simp)
    simp only [List.getD_cons_zero, List.getD_cons_succ] at HQ_0 HQ_1
    go_wp2_with fail
    clear c0 c1 c2 c3 c4 c5 c6 HV_0 HV_1 HV_2 HV_3 HP_0 HP_1 HQ_0 HQ_1
    go_at_call 39
    (with_reducible refine (validPl_is K2.out _).mono ?_)
    rintro r w3 ⟨rfl, hb⟩
    replace HC := Lib.hid (HC.out.late hb)
    replace HV := Lib.hid (HV.out.late hb)
    replace HP := Lib.hid (HP.out.late hb)
    replace HQ := Lib.hid (HQ.out.late hb)
    replace HT := Lib.hid (HT.out.late hb)
    replace HS := Lib.hid (HS.out.later hb)
    replace HB := Lib.hid (gr_then hb HB.out)
    clear hb
    obtain ⟨c0, c1, c2, c3, c4, c5, c6⟩ := HC.out
    have HV_0 := HV.out.cell 0 (by simp)
    have HV_1 := HV.out.cell 1 (by simp)
    have HV_2 := HV.out.cell 2 (by simp)
    have HV_3 := HV.out.cell 3 (by simp)
    simp only [List.getD_cons_zero, List.getD_cons_succ] at HV_0 HV_1 HV_2 HV_3
    have HP_0 := HP.out.cell 0 (by simp)
    have HP_1 := HP.out.cell 1 (by simp)
    simp only [List.getD_cons_zero, List.getD_cons_succ] at HP_0 HP_1
    have HQ_0 := HQ.out.cell 0 (by simp)
    have HQ_1 := HQ.out.cell 1 (by simp)
    simp only [List.getD_cons_zero, List.getD_cons_succ] at HQ_0 HQ_1
    go_wp2_with fail
    clear c0 c1 c2 c3 c4 c5 c6 HV_0 HV_1 HV_2 HV_3 HP_0 HP_1 HQ_0 HQ_1
    go_at_call 39
    (with_reducible refine (validPl_is K3.out _).mono ?_)
    rintro r w4 ⟨rfl, hb⟩
    replace HC := Lib.hid (HC.out.late hb)
    replace HV := Lib.hid (HV.out.late hb)
    replace HP := Lib.hid (HP.out.late hb)
    replace HQ := Lib.hid (HQ.out.late hb)
    replace HT := Lib.hid (HT.out.late hb)
    replace HS := Lib.hid (HS.out.later hb)
    replace HB := Lib.hid (gr_then hb HB.out)
    clear hb
    obtain ⟨c0, c1, c2, c3, c4, c5, c6⟩ := HC.out
    have HV_0 := HV.out.cell 0 (by simp)
    have HV_1 := HV.out.cell 1 (by simp)
    have HV_2 := HV.out.cell 2 (by simp)
    have HV_3 := HV.out.cell 3 (by simp)
    simp only [List.getD_cons_zero, List.getD_cons_succ] at HV_0 HV_1 HV_2 HV_3
    have HP_0 := HP.out.cell 0 (by simp)
    have HP_1 := HP.out.cell 1 (by simp)
    simp only [List.getD_cons_zero, List.getD_cons_succ] at HP_0 HP_1
    have HQ_0 := HQ.out.cell 0 (by simp)
    have HQ_1 := HQ.out.cell 1 (by simp)
    simp only [List.getD_cons_zero, List.getD_cons_succ] at HQ_0 HQ_1
    go_wp2_with fail
    clear c0 c1 c2 c3 c4 c5 c6 HV_0 HV_1 HV_2 HV_3 HP_0 HP_1 HQ_0 HQ_1
    go_returns
    exact ⟨rfl, HB.out⟩
  have KK := Lib.hid (show mvOk x n s t o g a b d e = true by unfold mvOk; rw [K0.out, K1.out, K2.out, K3.out]; rfl)
  rw [KK.out]
  rw [show tV true V = V from rfl, show tC true = 0 from rfl]
  have hsp := okSp_t K0.out
  have KPX := Lib.hid (show okPl x.px x.py = true by have h9 := (okCr_t K1.out).1; unfold okPl; rw [inI_y h9.1, inI_y h9.2]; rfl)
  have HC := Lib.hid ((Cc.box w 38 x A n c).late (show Below (w.alloc (.cells #[.string x.nm, .int .i64 x.px, .int .i64 x.py, .int .i64 x.hg, .int .i64 x.jb, .int .i64 x.bk, .slice A n c] 38)).heap.size (w.alloc (.cells #[.string x.nm, .int .i64 x.px, .int .i64 x.py, .int .i64 x.hg, .int .i64 x.jb, .int .i64 x.bk, .slice A n c] 38)) ((((w.alloc (.cells #[.string x.nm, .int .i64 x.px, .int .i64 x.py, .int .i64 x.hg, .int .i64 x.jb, .int .i64 x.bk, .slice A n c] 38)).alloc (.cells #[.int .i64 s, .int .i64 t, .int .i64 o, .int .i64 g] 40)).alloc (.cells #[.int .i64 a, .int .i64 b] 35)).alloc (.cells #[.int .i64 d, .int .i64 e] 35)) from gr_alloc (gr_alloc (gr_alloc (gr_refl _)))))
  have HV := Lib.hid (BI.late (show BI ((w.alloc (.cells #[.string x.nm, .int .i64 x.px, .int .i64 x.py, .int .i64 x.hg, .int .i64 x.jb, .int .i64 x.bk, .slice A n c] 38)).alloc (.cells #[.int .i64 s, .int .i64 t, .int .i64 o, .int .i64 g] 40)) (w.heap.size + 1) 40 [s, t, o, g] from by have h := heap_alloc_new (w.alloc (.cells #[.string x.nm, .int .i64 x.px, .int .i64 x.py, .int .i64 x.hg, .int .i64 x.jb, .int .i64 x.bk, .slice A n c] 38)) (.cells #[.int .i64 s, .int .i64 t, .int .i64 o, .int .i64 g] 40); simp only [World.size_alloc] at h; exact h) (show Below ((w.alloc (.cells #[.string x.nm, .int .i64 x.px, .int .i64 x.py, .int .i64 x.hg, .int .i64 x.jb, .int .i64 x.bk, .slice A n c] 38)).alloc (.cells #[.int .i64 s, .int .i64 t, .int .i64 o, .int .i64 g] 40)).heap.size ((w.alloc (.cells #[.string x.nm, .int .i64 x.px, .int .i64 x.py, .int .i64 x.hg, .int .i64 x.jb, .int .i64 x.bk, .slice A n c] 38)).alloc (.cells #[.int .i64 s, .int .i64 t, .int .i64 o, .int .i64 g] 40)) ((((w.alloc (.cells #[.string x.nm, .int .i64 x.px, .int .i64 x.py, .int .i64 x.hg, .int .i64 x.jb, .int .i64 x.bk, .slice A n c] 38)).alloc (.cells #[.int .i64 s, .int .i64 t, .int .i64 o, .int .i64 g] 40)).alloc (.cells #[.int .i64 a, .int .i64 b] 35)).alloc (.cells #[.int .i64 d, .int .i64 e] 35)) from gr_alloc (gr_alloc (gr_refl _))))
  have HP := Lib.hid (BI.late (show BI (((w.alloc (.cells #[.string x.nm, .int .i64 x.px, .int .i64 x.py, .int .i64 x.hg, .int .i64 x.jb, .int .i64 x.bk, .slice A n c] 38)).alloc (.cells #[.int .i64 s, .int .i64 t, .int .i64 o, .int .i64 g] 40)).alloc (.cells #[.int .i64 a, .int .i64 b] 35)) (w.heap.size + 1 + 1) 35 [a, b] from by have h := heap_alloc_new ((w.alloc (.cells #[.string x.nm, .int .i64 x.px, .int .i64 x.py, .int .i64 x.hg, .int .i64 x.jb, .int .i64 x.bk, .slice A n c] 38)).alloc (.cells #[.int .i64 s, .int .i64 t, .int .i64 o, .int .i64 g] 40)) (.cells #[.int .i64 a, .int .i64 b] 35); simp only [World.size_alloc] at h; exact h) (show Below (((w.alloc (.cells #[.string x.nm, .int .i64 x.px, .int .i64 x.py, .int .i64 x.hg, .int .i64 x.jb, .int .i64 x.bk, .slice A n c] 38)).alloc (.cells #[.int .i64 s, .int .i64 t, .int .i64 o, .int .i64 g] 40)).alloc (.cells #[.int .i64 a, .int .i64 b] 35)).heap.size (((w.alloc (.cells #[.string x.nm, .int .i64 x.px, .int .i64 x.py, .int .i64 x.hg, .int .i64 x.jb, .int .i64 x.bk, .slice A n c] 38)).alloc (.cells #[.int .i64 s, .int .i64 t, .int .i64 o, .int .i64 g] 40)).alloc (.cells #[.int .i64 a, .int .i64 b] 35)) ((((w.alloc (.cells #[.string x.nm, .int .i64 x.px, .int .i64 x.py, .int .i64 x.hg, .int .i64 x.jb, .int .i64 x.bk, .slice A n c] 38)).alloc (.cells #[.int .i64 s, .int .i64 t, .int .i64 o, .int .i64 g] 40)).alloc (.cells #[.int .i64 a, .int .i64 b] 35)).alloc (.cells #[.int .i64 d, .int .i64 e] 35)) from gr_alloc (gr_refl _)))
  have HQ := Lib.hid (BI.late (show BI ((((w.alloc (.cells #[.string x.nm, .int .i64 x.px, .int .i64 x.py, .int .i64 x.hg, .int .i64 x.jb, .int .i64 x.bk, .slice A n c] 38)).alloc (.cells #[.int .i64 s, .int .i64 t, .int .i64 o, .int .i64 g] 40)).alloc (.cells #[.int .i64 a, .int .i64 b] 35)).alloc (.cells #[.int .i64 d, .int .i64 e] 35)) (w.heap.size + 1 + 1 + 1) 35 [d, e] from by have h := heap_alloc_new (((w.alloc (.cells #[.string x.nm, .int .i64 x.px, .int .i64 x.py, .int .i64 x.hg, .int .i64 x.jb, .int .i64 x.bk, .slice A n c] 38)).alloc (.cells #[.int .i64 s, .int .i64 t, .int .i64 o, .int .i64 g] 40)).alloc (.cells #[.int .i64 a, .int .i64 b] 35)) (.cells #[.int .i64 d, .int .i64 e] 35); simp only [World.size_alloc] at h; exact h) (show Below ((((w.alloc (.cells #[.string x.nm, .int .i64 x.px, .int .i64 x.py, .int .i64 x.hg, .int .i64 x.jb, .int .i64 x.bk, .slice A n c] 38)).alloc (.cells #[.int .i64 s, .int .i64 t, .int .i64 o, .int .i64 g] 40)).alloc (.cells #[.int .i64 a, .int .i64 b] 35)).alloc (.cells #[.int .i64 d, .int .i64 e] 35)).heap.size ((((w.alloc (.cells #[.string x.nm, .int .i64 x.px, .int .i64 x.py, .int .i64 x.hg, .int .i64 x.jb, .int .i64 x.bk, .slice A n c] 38)).alloc (.cells #[.int .i64 s, .int .i64 t, .int .i64 o, .int .i64 g] 40)).alloc (.cells #[.int .i64 a, .int .i64 b] 35)).alloc (.cells #[.int .i64 d, .int .i64 e] 35)) ((((w.alloc (.cells #[.string x.nm, .int .i64 x.px, .int .i64 x.py, .int .i64 x.hg, .int .i64 x.jb, .int .i64 x.bk, .slice A n c] 38)).alloc (.cells #[.int .i64 s, .int .i64 t, .int .i64 o, .int .i64 g] 40)).alloc (.cells #[.int .i64 a, .int .i64 b] 35)).alloc (.cells #[.int .i64 d, .int .i64 e] 35)) from gr_refl _))
  have HB := Lib.hid (show Below w.heap.size w ((((w.alloc (.cells #[.string x.nm, .int .i64 x.px, .int .i64 x.py, .int .i64 x.hg, .int .i64 x.jb, .int .i64 x.bk, .slice A n c] 38)).alloc (.cells #[.int .i64 s, .int .i64 t, .int .i64 o, .int .i64 g] 40)).alloc (.cells #[.int .i64 a, .int .i64 b] 35)).alloc (.cells #[.int .i64 d, .int .i64 e] 35)) from gr_alloc (gr_alloc (gr_alloc (gr_alloc (gr_refl _)))))
  have HS := Lib.hid (h.later HB.out)
  have HT := Lib.hid (hT.late HB.out)
  have hz4 : w.heap.size + 4 ≤ ((((w.alloc (.cells #[.string x.nm, .int .i64 x.px, .int .i64 x.py, .int .i64 x.hg, .int .i64 x.jb, .int .i64 x.bk, .slice A n c] 38)).alloc (.cells #[.int .i64 s, .int .i64 t, .int .i64 o, .int .i64 g] 40)).alloc (.cells #[.int .i64 a, .int .i64 b] 35)).alloc (.cells #[.int .i64 d, .int .i64 e] 35)).heap.size := by simp
  clear h hT
  obtain ⟨c0, c1, c2, c3, c4, c5, c6⟩ := HC.out
  have HV_0 := HV.out.cell 0 (by simp)
  have HV_1 := HV.out.cell 1 (by simp)
  have HV_2 := HV.out.cell 2 (by simp)
  have HV_3 := HV.out.cell 3 (by simp)
  simp only [List.getD_cons_zero, List.getD_cons_succ] at HV_0 HV_1 HV_2 HV_3
  have HP_0 := HP.out.cell 0 (by simp)
  have HP_1 := HP.out.cell 1 (by simp)
  simp only [List.getD_cons_zero, List.getD_cons_succ] at HP_0 HP_1
  have HQ_0 := HQ.out.cell 0 (by simp)
  have HQ_1 := HQ.out.cell 1 (by simp)
  simp only [List.getD_cons_zero, List.getD_cons_succ] at HQ_0 HQ_1
  go_enter Tryd.func13, Tryd.ntmps13
  go_wp2_with fail
  generalize (((w.alloc (.cells #[.string x.nm, .int .i64 x.px, .int .i64 x.py, .int .i64 x.hg, .int .i64 x.jb, .int .i64 x.bk, .slice A n c] 38)).alloc (.cells #[.int .i64 s, .int .i64 t, .int .i64 o, .int .i64 g] 40)).alloc (.cells #[.int .i64 a, .int .i64 b] 35)).alloc (.cells #[.int .i64 d, .int .i64 e] 35) = v0 at *
  clear c0 c1 c2 c3 c4 c5 c6 HV_0 HV_1 HV_2 HV_3 HP_0 HP_1 HQ_0 HQ_1
  go_at_call 37
  (with_reducible refine (validSpeeds_is K0.out _).mono ?_)
  rintro r w1 ⟨rfl, hb⟩
  replace HC := Lib.hid (HC.out.late hb)
  replace HV := Lib.hid (HV.out.late hb)
  replace HP := Lib.hid (HP.out.late hb)
  replace HQ := Lib.hid (HQ.out.late hb)
  replace HT := Lib.hid (HT.out.late hb)
  replace HS := Lib.hid (HS.out.later hb)
  replace HB := Lib.hid (gr_then hb HB.out)
  clear hb
  obtain ⟨c0, c1, c2, c3, c4, c5, c6⟩ := HC.out
  have HV_0 := HV.out.cell 0 (by simp)
  have HV_1 := HV.out.cell 1 (by simp)
  have HV_2 := HV.out.cell 2 (by simp)
  have HV_3 := HV.out.cell 3 (by simp)
  simp only [List.getD_cons_zero, List.getD_cons_succ] at HV_0 HV_1 HV_2 HV_3
  have HP_0 := HP.out.cell 0 (by simp)
  have HP_1 := HP.out.cell 1 (by simp)
  simp only [List.getD_cons_zero, List.getD_cons_succ] at HP_0 HP_1
  have HQ_0 := HQ.out.cell 0 (by simp)
  have HQ_1 := HQ.out.cell 1 (by simp)
  simp only [List.getD_cons_zero, List.getD_cons_succ] at HQ_0 HQ_1
  go_wp2_with fail
  clear c0 c1 c2 c3 c4 c5 c6 HV_0 HV_1 HV_2 HV_3 HP_0 HP_1 HQ_0 HQ_1
  go_at_call 38
  (with_reducible refine (validCr_is K1.out hn hz hk HS.out).mono ?_)
  rintro r w2 ⟨rfl, hb⟩
  replace HC := Lib.hid (HC.out.late hb)
  replace HV := Lib.hid (HV.out.late hb)
  replace HP := Lib.hid (HP.out.late hb)
  replace HQ := Lib.hid (HQ.out.late hb)
  replace HT := Lib.hid (HT.out.late hb)
  replace HS := Lib.hid (HS.out.later hb)
  replace HB := Lib.hid (gr_then hb HB.out)
  clear hb
  obtain ⟨c0, c1, c2, c3, c4, c5, c6⟩ := HC.out
  have HV_0 := HV.out.cell 0 (by simp)
  have HV_1 := HV.out.cell 1 (by simp)
  have HV_2 := HV.out.cell 2 (by simp)
  have HV_3 := HV.out.cell 3 (by simp)
  simp only [List.getD_cons_zero, List.getD_cons_succ] at HV_0 HV_1 HV_2 HV_3
  have HP_0 := HP.out.cell 0 (by simp)
  have HP_1 := HP.out.cell 1 (by simp)
  simp only [List.getD_cons_zero, List.getD_cons_succ] at HP_0 HP_1
  have HQ_0 := HQ.out.cell 0 (by simp)
  have HQ_1 := HQ.out.cell 1 (by simp)
  simp only [List.getD_cons_zero, List.getD_cons_succ] at HQ_0 HQ_1
  go_wp2_with fail
  clear c0 c1 c2 c3 c4 c5 c6 HV_0 HV_1 HV_2 HV_3 HP_0 HP_1 HQ_0 HQ_1
  go_at_call 39
  (with_reducible refine (validPl_is K2.out _).mono ?_)
  rintro r w3 ⟨rfl, hb⟩
  replace HC := Lib.hid (HC.out.late hb)
  replace HV := Lib.hid (HV.out.late hb)
  replace HP := Lib.hid (HP.out.late hb)
  replace HQ := Lib.hid (HQ.out.late hb)
  replace HT := Lib.hid (HT.out.late hb)
  replace HS := Lib.hid (HS.out.later hb)
  replace HB := Lib.hid (gr_then hb HB.out)
  clear hb
  obtain ⟨c0, c1, c2, c3, c4, c5, c6⟩ := HC.out
  have HV_0 := HV.out.cell 0 (by simp)
  have HV_1 := HV.out.cell 1 (by simp)
  have HV_2 := HV.out.cell 2 (by simp)
  have HV_3 := HV.out.cell 3 (by simp)
  simp only [List.getD_cons_zero, List.getD_cons_succ] at HV_0 HV_1 HV_2 HV_3
  have HP_0 := HP.out.cell 0 (by simp)
  have HP_1 := HP.out.cell 1 (by simp)
  simp only [List.getD_cons_zero, List.getD_cons_succ] at HP_0 HP_1
  have HQ_0 := HQ.out.cell 0 (by simp)
  have HQ_1 := HQ.out.cell 1 (by simp)
  simp only [List.getD_cons_zero, List.getD_cons_succ] at HQ_0 HQ_1
  go_wp2_with fail
  clear c0 c1 c2 c3 c4 c5 c6 HV_0 HV_1 HV_2 HV_3 HP_0 HP_1 HQ_0 HQ_1
  go_at_call 39
  (with_reducible refine (validPl_is K3.out _).mono ?_)
  rintro r w4 ⟨rfl, hb⟩
  replace HC := Lib.hid (HC.out.late hb)
  replace HV := Lib.hid (HV.out.late hb)
  replace HP := Lib.hid (HP.out.late hb)
  replace HQ := Lib.hid (HQ.out.late hb)
  replace HT := Lib.hid (HT.out.late hb)
  replace HS := Lib.hid (HS.out.later hb)
  replace HB := Lib.hid (gr_then hb HB.out)
  clear hb
  obtain ⟨c0, c1, c2, c3, c4, c5, c6⟩ := HC.out
  have HV_0 := HV.out.cell 0 (by simp)
  have HV_1 := HV.out.cell 1 (by simp)
  have HV_2 := HV.out.cell 2 (by simp)
  have HV_3 := HV.out.cell 3 (by simp)
  simp only [List.getD_cons_zero, List.getD_cons_succ] at HV_0 HV_1 HV_2 HV_3
  have HP_0 := HP.out.cell 0 (by simp)
  have HP_1 := HP.out.cell 1 (by simp)
  simp only [List.getD_cons_zero, List.getD_cons_succ] at HP_0 HP_1
  have HQ_0 := HQ.out.cell 0 (by simp)
  have HQ_1 := HQ.out.cell 1 (by simp)
  simp only [List.getD_cons_zero, List.getD_cons_succ] at HQ_0 HQ_1
  go_wp2_with fail
  clear c0 c1 c2 c3 c4 c5 c6 HV_0 HV_1 HV_2 HV_3 HP_0 HP_1 HQ_0 HQ_1
  go_at_call 40
  (with_reducible refine (move_is x A n c s t o g a b d e _ KPX.out K2.out K3.out (by omega) (by omega) HT.out KV.out).mono ?_)
  rintro r w5 ⟨rfl, hb⟩
  replace HC := Lib.hid (HC.out.late hb)
  replace HV := Lib.hid (HV.out.late hb)
  replace HP := Lib.hid (HP.out.late hb)
  replace HQ := Lib.hid (HQ.out.late hb)
  replace HT := Lib.hid (HT.out.late hb)
  replace HS := Lib.hid (HS.out.later hb)
  replace HB := Lib.hid (gr_then hb HB.out)
  clear hb
  obtain ⟨c0, c1, c2, c3, c4, c5, c6⟩ := HC.out
  have HV_0 := HV.out.cell 0 (by simp)
  have HV_1 := HV.out.cell 1 (by simp)
  have HV_2 := HV.out.cell 2 (by simp)
  have HV_3 := HV.out.cell 3 (by simp)
  simp only [List.getD_cons_zero, List.getD_cons_succ] at HV_0 HV_1 HV_2 HV_3
  have HP_0 := HP.out.cell 0 (by simp)
  have HP_1 := HP.out.cell 1 (by simp)
  simp only [List.getD_cons_zero, List.getD_cons_succ] at HP_0 HP_1
  have HQ_0 := HQ.out.cell 0 (by simp)
  have HQ_1 := HQ.out.cell 1 (by simp)
  simp only [List.getD_cons_zero, List.getD_cons_succ] at HQ_0 HQ_1
  go_wp2_with fail
  clear c0 c1 c2 c3 c4 c5 c6 HV_0 HV_1 HV_2 HV_3 HP_0 HP_1 HQ_0 HQ_1
  go_returns
  exact ⟨rfl, HB.out⟩
set_option maxHeartbeats 8000000 in
set_option maxRecDepth 20000 in
theorem specMv_any (x : Cr) (A : Option Addr) (n c : Nat) (s t o g a b d e : Int) (w : World) (hn : n ≤ 1048576) (hz : x.zs.length = n * 2) (hk : x.nm.size ≤ 9223372036854775806) (h : SI w w.heap.size A x.zs) : Calls Tryd.prog 9 #[.agg #[.string x.nm, .int .i64 x.px, .int .i64 x.py, .int .i64 x.hg, .int .i64 x.jb, .int .i64 x.bk, .slice A n c], .agg #[.int .i64 s, .int .i64 t, .int .i64 o, .int .i64 g], .agg #[.int .i64 a, .int .i64 b], .agg #[.int .i64 d, .int .i64 e]] w fun r w' => r = .returned (.tuple #[.int .i64 (tV (mvOk x n s t o g a b d e) (mvI s t (a - x.px) (b - x.py) (d - x.px) (e - x.py))), .int .i64 (tC (mvOk x n s t o g a b d e))]) ∧ Below w.heap.size w w' := by
  obtain ⟨q0, h0⟩ : ∃ q, okSp s t o g = q := ⟨_, rfl⟩
  have K0 := Lib.hid h0
  clear h0
  obtain ⟨q1, h1⟩ : ∃ q, okCr x n = q := ⟨_, rfl⟩
  have K1 := Lib.hid h1
  clear h1
  obtain ⟨q2, h2⟩ : ∃ q, okPl a b = q := ⟨_, rfl⟩
  have K2 := Lib.hid h2
  clear h2
  obtain ⟨q3, h3⟩ : ∃ q, okPl d e = q := ⟨_, rfl⟩
  have K3 := Lib.hid h3
  clear h3
  obtain ⟨V, hV⟩ : ∃ q, mvI s t (a - x.px) (b - x.py) (d - x.px) (e - x.py) = q := ⟨_, rfl⟩
  rw [hV]
  have KV := Lib.hid hV
  clear hV
  cases q0
  case false =>
    have KK := Lib.hid (show mvOk x n s t o g a b d e = false by unfold mvOk; rw [K0.out]; rfl)
    rw [KK.out]
    rw [show tV false V = 0 from rfl, show tC false = 1 from rfl]
    have HC := Lib.hid ((Cc.box w 38 x A n c).late (show Below (w.alloc (.cells #[.string x.nm, .int .i64 x.px, .int .i64 x.py, .int .i64 x.hg, .int .i64 x.jb, .int .i64 x.bk, .slice A n c] 38)).heap.size (w.alloc (.cells #[.string x.nm, .int .i64 x.px, .int .i64 x.py, .int .i64 x.hg, .int .i64 x.jb, .int .i64 x.bk, .slice A n c] 38)) ((((w.alloc (.cells #[.string x.nm, .int .i64 x.px, .int .i64 x.py, .int .i64 x.hg, .int .i64 x.jb, .int .i64 x.bk, .slice A n c] 38)).alloc (.cells #[.int .i64 s, .int .i64 t, .int .i64 o, .int .i64 g] 40)).alloc (.cells #[.int .i64 a, .int .i64 b] 35)).alloc (.cells #[.int .i64 d, .int .i64 e] 35)) from gr_alloc (gr_alloc (gr_alloc (gr_refl _)))))
    have HV := Lib.hid (BI.late (show BI ((w.alloc (.cells #[.string x.nm, .int .i64 x.px, .int .i64 x.py, .int .i64 x.hg, .int .i64 x.jb, .int .i64 x.bk, .slice A n c] 38)).alloc (.cells #[.int .i64 s, .int .i64 t, .int .i64 o, .int .i64 g] 40)) (w.heap.size + 1) 40 [s, t, o, g] from by have h := heap_alloc_new (w.alloc (.cells #[.string x.nm, .int .i64 x.px, .int .i64 x.py, .int .i64 x.hg, .int .i64 x.jb, .int .i64 x.bk, .slice A n c] 38)) (.cells #[.int .i64 s, .int .i64 t, .int .i64 o, .int .i64 g] 40); simp only [World.size_alloc] at h; exact h) (show Below ((w.alloc (.cells #[.string x.nm, .int .i64 x.px, .int .i64 x.py, .int .i64 x.hg, .int .i64 x.jb, .int .i64 x.bk, .slice A n c] 38)).alloc (.cells #[.int .i64 s, .int .i64 t, .int .i64 o, .int .i64 g] 40)).heap.size ((w.alloc (.cells #[.string x.nm, .int .i64 x.px, .int .i64 x.py, .int .i64 x.hg, .int .i64 x.jb, .int .i64 x.bk, .slice A n c] 38)).alloc (.cells #[.int .i64 s, .int .i64 t, .int .i64 o, .int .i64 g] 40)) ((((w.alloc (.cells #[.string x.nm, .int .i64 x.px, .int .i64 x.py, .int .i64 x.hg, .int .i64 x.jb, .int .i64 x.bk, .slice A n c] 38)).alloc (.cells #[.int .i64 s, .int .i64 t, .int .i64 o, .int .i64 g] 40)).alloc (.cells #[.int .i64 a, .int .i64 b] 35)).alloc (.cells #[.int .i64 d, .int .i64 e] 35)) from gr_alloc (gr_alloc (gr_refl _))))
    have HP := Lib.hid (BI.late (show BI (((w.alloc (.cells #[.string x.nm, .int .i64 x.px, .int .i64 x.py, .int .i64 x.hg, .int .i64 x.jb, .int .i64 x.bk, .slice A n c] 38)).alloc (.cells #[.int .i64 s, .int .i64 t, .int .i64 o, .int .i64 g] 40)).alloc (.cells #[.int .i64 a, .int .i64 b] 35)) (w.heap.size + 1 + 1) 35 [a, b] from by have h := heap_alloc_new ((w.alloc (.cells #[.string x.nm, .int .i64 x.px, .int .i64 x.py, .int .i64 x.hg, .int .i64 x.jb, .int .i64 x.bk, .slice A n c] 38)).alloc (.cells #[.int .i64 s, .int .i64 t, .int .i64 o, .int .i64 g] 40)) (.cells #[.int .i64 a, .int .i64 b] 35); simp only [World.size_alloc] at h; exact h) (show Below (((w.alloc (.cells #[.string x.nm, .int .i64 x.px, .int .i64 x.py, .int .i64 x.hg, .int .i64 x.jb, .int .i64 x.bk, .slice A n c] 38)).alloc (.cells #[.int .i64 s, .int .i64 t, .int .i64 o, .int .i64 g] 40)).alloc (.cells #[.int .i64 a, .int .i64 b] 35)).heap.size (((w.alloc (.cells #[.string x.nm, .int .i64 x.px, .int .i64 x.py, .int .i64 x.hg, .int .i64 x.jb, .int .i64 x.bk, .slice A n c] 38)).alloc (.cells #[.int .i64 s, .int .i64 t, .int .i64 o, .int .i64 g] 40)).alloc (.cells #[.int .i64 a, .int .i64 b] 35)) ((((w.alloc (.cells #[.string x.nm, .int .i64 x.px, .int .i64 x.py, .int .i64 x.hg, .int .i64 x.jb, .int .i64 x.bk, .slice A n c] 38)).alloc (.cells #[.int .i64 s, .int .i64 t, .int .i64 o, .int .i64 g] 40)).alloc (.cells #[.int .i64 a, .int .i64 b] 35)).alloc (.cells #[.int .i64 d, .int .i64 e] 35)) from gr_alloc (gr_refl _)))
    have HQ := Lib.hid (BI.late (show BI ((((w.alloc (.cells #[.string x.nm, .int .i64 x.px, .int .i64 x.py, .int .i64 x.hg, .int .i64 x.jb, .int .i64 x.bk, .slice A n c] 38)).alloc (.cells #[.int .i64 s, .int .i64 t, .int .i64 o, .int .i64 g] 40)).alloc (.cells #[.int .i64 a, .int .i64 b] 35)).alloc (.cells #[.int .i64 d, .int .i64 e] 35)) (w.heap.size + 1 + 1 + 1) 35 [d, e] from by have h := heap_alloc_new (((w.alloc (.cells #[.string x.nm, .int .i64 x.px, .int .i64 x.py, .int .i64 x.hg, .int .i64 x.jb, .int .i64 x.bk, .slice A n c] 38)).alloc (.cells #[.int .i64 s, .int .i64 t, .int .i64 o, .int .i64 g] 40)).alloc (.cells #[.int .i64 a, .int .i64 b] 35)) (.cells #[.int .i64 d, .int .i64 e] 35); simp only [World.size_alloc] at h; exact h) (show Below ((((w.alloc (.cells #[.string x.nm, .int .i64 x.px, .int .i64 x.py, .int .i64 x.hg, .int .i64 x.jb, .int .i64 x.bk, .slice A n c] 38)).alloc (.cells #[.int .i64 s, .int .i64 t, .int .i64 o, .int .i64 g] 40)).alloc (.cells #[.int .i64 a, .int .i64 b] 35)).alloc (.cells #[.int .i64 d, .int .i64 e] 35)).heap.size ((((w.alloc (.cells #[.string x.nm, .int .i64 x.px, .int .i64 x.py, .int .i64 x.hg, .int .i64 x.jb, .int .i64 x.bk, .slice A n c] 38)).alloc (.cells #[.int .i64 s, .int .i64 t, .int .i64 o, .int .i64 g] 40)).alloc (.cells #[.int .i64 a, .int .i64 b] 35)).alloc (.cells #[.int .i64 d, .int .i64 e] 35)) ((((w.alloc (.cells #[.string x.nm, .int .i64 x.px, .int .i64 x.py, .int .i64 x.hg, .int .i64 x.jb, .int .i64 x.bk, .slice A n c] 38)).alloc (.cells #[.int .i64 s, .int .i64 t, .int .i64 o, .int .i64 g] 40)).alloc (.cells #[.int .i64 a, .int .i64 b] 35)).alloc (.cells #[.int .i64 d, .int .i64 e] 35)) from gr_refl _))
    have HB := Lib.hid (show Below w.heap.size w ((((w.alloc (.cells #[.string x.nm, .int .i64 x.px, .int .i64 x.py, .int .i64 x.hg, .int .i64 x.jb, .int .i64 x.bk, .slice A n c] 38)).alloc (.cells #[.int .i64 s, .int .i64 t, .int .i64 o, .int .i64 g] 40)).alloc (.cells #[.int .i64 a, .int .i64 b] 35)).alloc (.cells #[.int .i64 d, .int .i64 e] 35)) from gr_alloc (gr_alloc (gr_alloc (gr_alloc (gr_refl _)))))
    have HS := Lib.hid (h.later HB.out)
    have hz4 : w.heap.size + 4 ≤ ((((w.alloc (.cells #[.string x.nm, .int .i64 x.px, .int .i64 x.py, .int .i64 x.hg, .int .i64 x.jb, .int .i64 x.bk, .slice A n c] 38)).alloc (.cells #[.int .i64 s, .int .i64 t, .int .i64 o, .int .i64 g] 40)).alloc (.cells #[.int .i64 a, .int .i64 b] 35)).alloc (.cells #[.int .i64 d, .int .i64 e] 35)).heap.size := by simp
    clear h
    obtain ⟨c0, c1, c2, c3, c4, c5, c6⟩ := HC.out
    have HV_0 := HV.out.cell 0 (by simp)
    have HV_1 := HV.out.cell 1 (by simp)
    have HV_2 := HV.out.cell 2 (by simp)
    have HV_3 := HV.out.cell 3 (by simp)
    simp only [List.getD_cons_zero, List.getD_cons_succ] at HV_0 HV_1 HV_2 HV_3
    have HP_0 := HP.out.cell 0 (by simp)
    have HP_1 := HP.out.cell 1 (by simp)
    simp only [List.getD_cons_zero, List.getD_cons_succ] at HP_0 HP_1
    have HQ_0 := HQ.out.cell 0 (by simp)
    have HQ_1 := HQ.out.cell 1 (by simp)
    simp only [List.getD_cons_zero, List.getD_cons_succ] at HQ_0 HQ_1
    go_enter Tryd.func9, Tryd.ntmps9
    go_wp2_with fail
    generalize (((w.alloc (.cells #[.string x.nm, .int .i64 x.px, .int .i64 x.py, .int .i64 x.hg, .int .i64 x.jb, .int .i64 x.bk, .slice A n c] 38)).alloc (.cells #[.int .i64 s, .int .i64 t, .int .i64 o, .int .i64 g] 40)).alloc (.cells #[.int .i64 a, .int .i64 b] 35)).alloc (.cells #[.int .i64 d, .int .i64 e] 35) = v0 at *
    clear c0 c1 c2 c3 c4 c5 c6 HV_0 HV_1 HV_2 HV_3 HP_0 HP_1 HQ_0 HQ_1
    go_at_call 32
    (with_reducible refine (l10Ok_is K0.out _).mono ?_)
    rintro r w1 ⟨rfl, hb⟩
    replace HC := Lib.hid (HC.out.late hb)
    replace HV := Lib.hid (HV.out.late hb)
    replace HP := Lib.hid (HP.out.late hb)
    replace HQ := Lib.hid (HQ.out.late hb)
    replace HS := Lib.hid (HS.out.later hb)
    replace HB := Lib.hid (gr_then hb HB.out)
    clear hb
    obtain ⟨c0, c1, c2, c3, c4, c5, c6⟩ := HC.out
    have HV_0 := HV.out.cell 0 (by simp)
    have HV_1 := HV.out.cell 1 (by simp)
    have HV_2 := HV.out.cell 2 (by simp)
    have HV_3 := HV.out.cell 3 (by simp)
    simp only [List.getD_cons_zero, List.getD_cons_succ] at HV_0 HV_1 HV_2 HV_3
    have HP_0 := HP.out.cell 0 (by simp)
    have HP_1 := HP.out.cell 1 (by simp)
    simp only [List.getD_cons_zero, List.getD_cons_succ] at HP_0 HP_1
    have HQ_0 := HQ.out.cell 0 (by simp)
    have HQ_1 := HQ.out.cell 1 (by simp)
    simp only [List.getD_cons_zero, List.getD_cons_succ] at HQ_0 HQ_1
    go_wp2_with fail
    clear c0 c1 c2 c3 c4 c5 c6 HV_0 HV_1 HV_2 HV_3 HP_0 HP_1 HQ_0 HQ_1
    go_returns
    exact ⟨rfl, HB.out⟩
  cases q1
  case false =>
    have KK := Lib.hid (show mvOk x n s t o g a b d e = false by unfold mvOk; rw [K0.out, K1.out]; rfl)
    rw [KK.out]
    rw [show tV false V = 0 from rfl, show tC false = 1 from rfl]
    have HC := Lib.hid ((Cc.box w 38 x A n c).late (show Below (w.alloc (.cells #[.string x.nm, .int .i64 x.px, .int .i64 x.py, .int .i64 x.hg, .int .i64 x.jb, .int .i64 x.bk, .slice A n c] 38)).heap.size (w.alloc (.cells #[.string x.nm, .int .i64 x.px, .int .i64 x.py, .int .i64 x.hg, .int .i64 x.jb, .int .i64 x.bk, .slice A n c] 38)) ((((w.alloc (.cells #[.string x.nm, .int .i64 x.px, .int .i64 x.py, .int .i64 x.hg, .int .i64 x.jb, .int .i64 x.bk, .slice A n c] 38)).alloc (.cells #[.int .i64 s, .int .i64 t, .int .i64 o, .int .i64 g] 40)).alloc (.cells #[.int .i64 a, .int .i64 b] 35)).alloc (.cells #[.int .i64 d, .int .i64 e] 35)) from gr_alloc (gr_alloc (gr_alloc (gr_refl _)))))
    have HV := Lib.hid (BI.late (show BI ((w.alloc (.cells #[.string x.nm, .int .i64 x.px, .int .i64 x.py, .int .i64 x.hg, .int .i64 x.jb, .int .i64 x.bk, .slice A n c] 38)).alloc (.cells #[.int .i64 s, .int .i64 t, .int .i64 o, .int .i64 g] 40)) (w.heap.size + 1) 40 [s, t, o, g] from by have h := heap_alloc_new (w.alloc (.cells #[.string x.nm, .int .i64 x.px, .int .i64 x.py, .int .i64 x.hg, .int .i64 x.jb, .int .i64 x.bk, .slice A n c] 38)) (.cells #[.int .i64 s, .int .i64 t, .int .i64 o, .int .i64 g] 40); simp only [World.size_alloc] at h; exact h) (show Below ((w.alloc (.cells #[.string x.nm, .int .i64 x.px, .int .i64 x.py, .int .i64 x.hg, .int .i64 x.jb, .int .i64 x.bk, .slice A n c] 38)).alloc (.cells #[.int .i64 s, .int .i64 t, .int .i64 o, .int .i64 g] 40)).heap.size ((w.alloc (.cells #[.string x.nm, .int .i64 x.px, .int .i64 x.py, .int .i64 x.hg, .int .i64 x.jb, .int .i64 x.bk, .slice A n c] 38)).alloc (.cells #[.int .i64 s, .int .i64 t, .int .i64 o, .int .i64 g] 40)) ((((w.alloc (.cells #[.string x.nm, .int .i64 x.px, .int .i64 x.py, .int .i64 x.hg, .int .i64 x.jb, .int .i64 x.bk, .slice A n c] 38)).alloc (.cells #[.int .i64 s, .int .i64 t, .int .i64 o, .int .i64 g] 40)).alloc (.cells #[.int .i64 a, .int .i64 b] 35)).alloc (.cells #[.int .i64 d, .int .i64 e] 35)) from gr_alloc (gr_alloc (gr_refl _))))
    have HP := Lib.hid (BI.late (show BI (((w.alloc (.cells #[.string x.nm, .int .i64 x.px, .int .i64 x.py, .int .i64 x.hg, .int .i64 x.jb, .int .i64 x.bk, .slice A n c] 38)).alloc (.cells #[.int .i64 s, .int .i64 t, .int .i64 o, .int .i64 g] 40)).alloc (.cells #[.int .i64 a, .int .i64 b] 35)) (w.heap.size + 1 + 1) 35 [a, b] from by have h := heap_alloc_new ((w.alloc (.cells #[.string x.nm, .int .i64 x.px, .int .i64 x.py, .int .i64 x.hg, .int .i64 x.jb, .int .i64 x.bk, .slice A n c] 38)).alloc (.cells #[.int .i64 s, .int .i64 t, .int .i64 o, .int .i64 g] 40)) (.cells #[.int .i64 a, .int .i64 b] 35); simp only [World.size_alloc] at h; exact h) (show Below (((w.alloc (.cells #[.string x.nm, .int .i64 x.px, .int .i64 x.py, .int .i64 x.hg, .int .i64 x.jb, .int .i64 x.bk, .slice A n c] 38)).alloc (.cells #[.int .i64 s, .int .i64 t, .int .i64 o, .int .i64 g] 40)).alloc (.cells #[.int .i64 a, .int .i64 b] 35)).heap.size (((w.alloc (.cells #[.string x.nm, .int .i64 x.px, .int .i64 x.py, .int .i64 x.hg, .int .i64 x.jb, .int .i64 x.bk, .slice A n c] 38)).alloc (.cells #[.int .i64 s, .int .i64 t, .int .i64 o, .int .i64 g] 40)).alloc (.cells #[.int .i64 a, .int .i64 b] 35)) ((((w.alloc (.cells #[.string x.nm, .int .i64 x.px, .int .i64 x.py, .int .i64 x.hg, .int .i64 x.jb, .int .i64 x.bk, .slice A n c] 38)).alloc (.cells #[.int .i64 s, .int .i64 t, .int .i64 o, .int .i64 g] 40)).alloc (.cells #[.int .i64 a, .int .i64 b] 35)).alloc (.cells #[.int .i64 d, .int .i64 e] 35)) from gr_alloc (gr_refl _)))
    have HQ := Lib.hid (BI.late (show BI ((((w.alloc (.cells #[.string x.nm, .int .i64 x.px, .int .i64 x.py, .int .i64 x.hg, .int .i64 x.jb, .int .i64 x.bk, .slice A n c] 38)).alloc (.cells #[.int .i64 s, .int .i64 t, .int .i64 o, .int .i64 g] 40)).alloc (.cells #[.int .i64 a, .int .i64 b] 35)).alloc (.cells #[.int .i64 d, .int .i64 e] 35)) (w.heap.size + 1 + 1 + 1) 35 [d, e] from by have h := heap_alloc_new (((w.alloc (.cells #[.string x.nm, .int .i64 x.px, .int .i64 x.py, .int .i64 x.hg, .int .i64 x.jb, .int .i64 x.bk, .slice A n c] 38)).alloc (.cells #[.int .i64 s, .int .i64 t, .int .i64 o, .int .i64 g] 40)).alloc (.cells #[.int .i64 a, .int .i64 b] 35)) (.cells #[.int .i64 d, .int .i64 e] 35); simp only [World.size_alloc] at h; exact h) (show Below ((((w.alloc (.cells #[.string x.nm, .int .i64 x.px, .int .i64 x.py, .int .i64 x.hg, .int .i64 x.jb, .int .i64 x.bk, .slice A n c] 38)).alloc (.cells #[.int .i64 s, .int .i64 t, .int .i64 o, .int .i64 g] 40)).alloc (.cells #[.int .i64 a, .int .i64 b] 35)).alloc (.cells #[.int .i64 d, .int .i64 e] 35)).heap.size ((((w.alloc (.cells #[.string x.nm, .int .i64 x.px, .int .i64 x.py, .int .i64 x.hg, .int .i64 x.jb, .int .i64 x.bk, .slice A n c] 38)).alloc (.cells #[.int .i64 s, .int .i64 t, .int .i64 o, .int .i64 g] 40)).alloc (.cells #[.int .i64 a, .int .i64 b] 35)).alloc (.cells #[.int .i64 d, .int .i64 e] 35)) ((((w.alloc (.cells #[.string x.nm, .int .i64 x.px, .int .i64 x.py, .int .i64 x.hg, .int .i64 x.jb, .int .i64 x.bk, .slice A n c] 38)).alloc (.cells #[.int .i64 s, .int .i64 t, .int .i64 o, .int .i64 g] 40)).alloc (.cells #[.int .i64 a, .int .i64 b] 35)).alloc (.cells #[.int .i64 d, .int .i64 e] 35)) from gr_refl _))
    have HB := Lib.hid (show Below w.heap.size w ((((w.alloc (.cells #[.string x.nm, .int .i64 x.px, .int .i64 x.py, .int .i64 x.hg, .int .i64 x.jb, .int .i64 x.bk, .slice A n c] 38)).alloc (.cells #[.int .i64 s, .int .i64 t, .int .i64 o, .int .i64 g] 40)).alloc (.cells #[.int .i64 a, .int .i64 b] 35)).alloc (.cells #[.int .i64 d, .int .i64 e] 35)) from gr_alloc (gr_alloc (gr_alloc (gr_alloc (gr_refl _)))))
    have HS := Lib.hid (h.later HB.out)
    have hz4 : w.heap.size + 4 ≤ ((((w.alloc (.cells #[.string x.nm, .int .i64 x.px, .int .i64 x.py, .int .i64 x.hg, .int .i64 x.jb, .int .i64 x.bk, .slice A n c] 38)).alloc (.cells #[.int .i64 s, .int .i64 t, .int .i64 o, .int .i64 g] 40)).alloc (.cells #[.int .i64 a, .int .i64 b] 35)).alloc (.cells #[.int .i64 d, .int .i64 e] 35)).heap.size := by simp
    clear h
    obtain ⟨c0, c1, c2, c3, c4, c5, c6⟩ := HC.out
    have HV_0 := HV.out.cell 0 (by simp)
    have HV_1 := HV.out.cell 1 (by simp)
    have HV_2 := HV.out.cell 2 (by simp)
    have HV_3 := HV.out.cell 3 (by simp)
    simp only [List.getD_cons_zero, List.getD_cons_succ] at HV_0 HV_1 HV_2 HV_3
    have HP_0 := HP.out.cell 0 (by simp)
    have HP_1 := HP.out.cell 1 (by simp)
    simp only [List.getD_cons_zero, List.getD_cons_succ] at HP_0 HP_1
    have HQ_0 := HQ.out.cell 0 (by simp)
    have HQ_1 := HQ.out.cell 1 (by simp)
    simp only [List.getD_cons_zero, List.getD_cons_succ] at HQ_0 HQ_1
    go_enter Tryd.func9, Tryd.ntmps9
    go_wp2_with fail
    generalize (((w.alloc (.cells #[.string x.nm, .int .i64 x.px, .int .i64 x.py, .int .i64 x.hg, .int .i64 x.jb, .int .i64 x.bk, .slice A n c] 38)).alloc (.cells #[.int .i64 s, .int .i64 t, .int .i64 o, .int .i64 g] 40)).alloc (.cells #[.int .i64 a, .int .i64 b] 35)).alloc (.cells #[.int .i64 d, .int .i64 e] 35) = v0 at *
    clear c0 c1 c2 c3 c4 c5 c6 HV_0 HV_1 HV_2 HV_3 HP_0 HP_1 HQ_0 HQ_1
    go_at_call 32
    (with_reducible refine (l10Ok_is K0.out _).mono ?_)
    rintro r w1 ⟨rfl, hb⟩
    replace HC := Lib.hid (HC.out.late hb)
    replace HV := Lib.hid (HV.out.late hb)
    replace HP := Lib.hid (HP.out.late hb)
    replace HQ := Lib.hid (HQ.out.late hb)
    replace HS := Lib.hid (HS.out.later hb)
    replace HB := Lib.hid (gr_then hb HB.out)
    clear hb
    obtain ⟨c0, c1, c2, c3, c4, c5, c6⟩ := HC.out
    have HV_0 := HV.out.cell 0 (by simp)
    have HV_1 := HV.out.cell 1 (by simp)
    have HV_2 := HV.out.cell 2 (by simp)
    have HV_3 := HV.out.cell 3 (by simp)
    simp only [List.getD_cons_zero, List.getD_cons_succ] at HV_0 HV_1 HV_2 HV_3
    have HP_0 := HP.out.cell 0 (by simp)
    have HP_1 := HP.out.cell 1 (by simp)
    simp only [List.getD_cons_zero, List.getD_cons_succ] at HP_0 HP_1
    have HQ_0 := HQ.out.cell 0 (by simp)
    have HQ_1 := HQ.out.cell 1 (by simp)
    simp only [List.getD_cons_zero, List.getD_cons_succ] at HQ_0 HQ_1
    go_wp2_with fail
    clear c0 c1 c2 c3 c4 c5 c6 HV_0 HV_1 HV_2 HV_3 HP_0 HP_1 HQ_0 HQ_1
    go_at_call 33
    (with_reducible refine (okCr04_is K1.out HC.out hn hz hk HS.out).mono ?_)
    rintro r w2 ⟨rfl, hb⟩
    replace HC := Lib.hid (HC.out.late hb)
    replace HV := Lib.hid (HV.out.late hb)
    replace HP := Lib.hid (HP.out.late hb)
    replace HQ := Lib.hid (HQ.out.late hb)
    replace HS := Lib.hid (HS.out.later hb)
    replace HB := Lib.hid (gr_then hb HB.out)
    clear hb
    obtain ⟨c0, c1, c2, c3, c4, c5, c6⟩ := HC.out
    have HV_0 := HV.out.cell 0 (by simp)
    have HV_1 := HV.out.cell 1 (by simp)
    have HV_2 := HV.out.cell 2 (by simp)
    have HV_3 := HV.out.cell 3 (by simp)
    simp only [List.getD_cons_zero, List.getD_cons_succ] at HV_0 HV_1 HV_2 HV_3
    have HP_0 := HP.out.cell 0 (by simp)
    have HP_1 := HP.out.cell 1 (by simp)
    simp only [List.getD_cons_zero, List.getD_cons_succ] at HP_0 HP_1
    have HQ_0 := HQ.out.cell 0 (by simp)
    have HQ_1 := HQ.out.cell 1 (by simp)
    simp only [List.getD_cons_zero, List.getD_cons_succ] at HQ_0 HQ_1
    go_wp2_with fail
    clear c0 c1 c2 c3 c4 c5 c6 HV_0 HV_1 HV_2 HV_3 HP_0 HP_1 HQ_0 HQ_1
    go_returns
    exact ⟨rfl, HB.out⟩
  cases q2
  case false =>
    have KK := Lib.hid (show mvOk x n s t o g a b d e = false by unfold mvOk; rw [K0.out, K1.out, K2.out]; rfl)
    rw [KK.out]
    rw [show tV false V = 0 from rfl, show tC false = 1 from rfl]
    have HC := Lib.hid ((Cc.box w 38 x A n c).late (show Below (w.alloc (.cells #[.string x.nm, .int .i64 x.px, .int .i64 x.py, .int .i64 x.hg, .int .i64 x.jb, .int .i64 x.bk, .slice A n c] 38)).heap.size (w.alloc (.cells #[.string x.nm, .int .i64 x.px, .int .i64 x.py, .int .i64 x.hg, .int .i64 x.jb, .int .i64 x.bk, .slice A n c] 38)) ((((w.alloc (.cells #[.string x.nm, .int .i64 x.px, .int .i64 x.py, .int .i64 x.hg, .int .i64 x.jb, .int .i64 x.bk, .slice A n c] 38)).alloc (.cells #[.int .i64 s, .int .i64 t, .int .i64 o, .int .i64 g] 40)).alloc (.cells #[.int .i64 a, .int .i64 b] 35)).alloc (.cells #[.int .i64 d, .int .i64 e] 35)) from gr_alloc (gr_alloc (gr_alloc (gr_refl _)))))
    have HV := Lib.hid (BI.late (show BI ((w.alloc (.cells #[.string x.nm, .int .i64 x.px, .int .i64 x.py, .int .i64 x.hg, .int .i64 x.jb, .int .i64 x.bk, .slice A n c] 38)).alloc (.cells #[.int .i64 s, .int .i64 t, .int .i64 o, .int .i64 g] 40)) (w.heap.size + 1) 40 [s, t, o, g] from by have h := heap_alloc_new (w.alloc (.cells #[.string x.nm, .int .i64 x.px, .int .i64 x.py, .int .i64 x.hg, .int .i64 x.jb, .int .i64 x.bk, .slice A n c] 38)) (.cells #[.int .i64 s, .int .i64 t, .int .i64 o, .int .i64 g] 40); simp only [World.size_alloc] at h; exact h) (show Below ((w.alloc (.cells #[.string x.nm, .int .i64 x.px, .int .i64 x.py, .int .i64 x.hg, .int .i64 x.jb, .int .i64 x.bk, .slice A n c] 38)).alloc (.cells #[.int .i64 s, .int .i64 t, .int .i64 o, .int .i64 g] 40)).heap.size ((w.alloc (.cells #[.string x.nm, .int .i64 x.px, .int .i64 x.py, .int .i64 x.hg, .int .i64 x.jb, .int .i64 x.bk, .slice A n c] 38)).alloc (.cells #[.int .i64 s, .int .i64 t, .int .i64 o, .int .i64 g] 40)) ((((w.alloc (.cells #[.string x.nm, .int .i64 x.px, .int .i64 x.py, .int .i64 x.hg, .int .i64 x.jb, .int .i64 x.bk, .slice A n c] 38)).alloc (.cells #[.int .i64 s, .int .i64 t, .int .i64 o, .int .i64 g] 40)).alloc (.cells #[.int .i64 a, .int .i64 b] 35)).alloc (.cells #[.int .i64 d, .int .i64 e] 35)) from gr_alloc (gr_alloc (gr_refl _))))
    have HP := Lib.hid (BI.late (show BI (((w.alloc (.cells #[.string x.nm, .int .i64 x.px, .int .i64 x.py, .int .i64 x.hg, .int .i64 x.jb, .int .i64 x.bk, .slice A n c] 38)).alloc (.cells #[.int .i64 s, .int .i64 t, .int .i64 o, .int .i64 g] 40)).alloc (.cells #[.int .i64 a, .int .i64 b] 35)) (w.heap.size + 1 + 1) 35 [a, b] from by have h := heap_alloc_new ((w.alloc (.cells #[.string x.nm, .int .i64 x.px, .int .i64 x.py, .int .i64 x.hg, .int .i64 x.jb, .int .i64 x.bk, .slice A n c] 38)).alloc (.cells #[.int .i64 s, .int .i64 t, .int .i64 o, .int .i64 g] 40)) (.cells #[.int .i64 a, .int .i64 b] 35); simp only [World.size_alloc] at h; exact h) (show Below (((w.alloc (.cells #[.string x.nm, .int .i64 x.px, .int .i64 x.py, .int .i64 x.hg, .int .i64 x.jb, .int .i64 x.bk, .slice A n c] 38)).alloc (.cells #[.int .i64 s, .int .i64 t, .int .i64 o, .int .i64 g] 40)).alloc (.cells #[.int .i64 a, .int .i64 b] 35)).heap.size (((w.alloc (.cells #[.string x.nm, .int .i64 x.px, .int .i64 x.py, .int .i64 x.hg, .int .i64 x.jb, .int .i64 x.bk, .slice A n c] 38)).alloc (.cells #[.int .i64 s, .int .i64 t, .int .i64 o, .int .i64 g] 40)).alloc (.cells #[.int .i64 a, .int .i64 b] 35)) ((((w.alloc (.cells #[.string x.nm, .int .i64 x.px, .int .i64 x.py, .int .i64 x.hg, .int .i64 x.jb, .int .i64 x.bk, .slice A n c] 38)).alloc (.cells #[.int .i64 s, .int .i64 t, .int .i64 o, .int .i64 g] 40)).alloc (.cells #[.int .i64 a, .int .i64 b] 35)).alloc (.cells #[.int .i64 d, .int .i64 e] 35)) from gr_alloc (gr_refl _)))
    have HQ := Lib.hid (BI.late (show BI ((((w.alloc (.cells #[.string x.nm, .int .i64 x.px, .int .i64 x.py, .int .i64 x.hg, .int .i64 x.jb, .int .i64 x.bk, .slice A n c] 38)).alloc (.cells #[.int .i64 s, .int .i64 t, .int .i64 o, .int .i64 g] 40)).alloc (.cells #[.int .i64 a, .int .i64 b] 35)).alloc (.cells #[.int .i64 d, .int .i64 e] 35)) (w.heap.size + 1 + 1 + 1) 35 [d, e] from by have h := heap_alloc_new (((w.alloc (.cells #[.string x.nm, .int .i64 x.px, .int .i64 x.py, .int .i64 x.hg, .int .i64 x.jb, .int .i64 x.bk, .slice A n c] 38)).alloc (.cells #[.int .i64 s, .int .i64 t, .int .i64 o, .int .i64 g] 40)).alloc (.cells #[.int .i64 a, .int .i64 b] 35)) (.cells #[.int .i64 d, .int .i64 e] 35); simp only [World.size_alloc] at h; exact h) (show Below ((((w.alloc (.cells #[.string x.nm, .int .i64 x.px, .int .i64 x.py, .int .i64 x.hg, .int .i64 x.jb, .int .i64 x.bk, .slice A n c] 38)).alloc (.cells #[.int .i64 s, .int .i64 t, .int .i64 o, .int .i64 g] 40)).alloc (.cells #[.int .i64 a, .int .i64 b] 35)).alloc (.cells #[.int .i64 d, .int .i64 e] 35)).heap.size ((((w.alloc (.cells #[.string x.nm, .int .i64 x.px, .int .i64 x.py, .int .i64 x.hg, .int .i64 x.jb, .int .i64 x.bk, .slice A n c] 38)).alloc (.cells #[.int .i64 s, .int .i64 t, .int .i64 o, .int .i64 g] 40)).alloc (.cells #[.int .i64 a, .int .i64 b] 35)).alloc (.cells #[.int .i64 d, .int .i64 e] 35)) ((((w.alloc (.cells #[.string x.nm, .int .i64 x.px, .int .i64 x.py, .int .i64 x.hg, .int .i64 x.jb, .int .i64 x.bk, .slice A n c] 38)).alloc (.cells #[.int .i64 s, .int .i64 t, .int .i64 o, .int .i64 g] 40)).alloc (.cells #[.int .i64 a, .int .i64 b] 35)).alloc (.cells #[.int .i64 d, .int .i64 e] 35)) from gr_refl _))
    have HB := Lib.hid (show Below w.heap.size w ((((w.alloc (.cells #[.string x.nm, .int .i64 x.px, .int .i64 x.py, .int .i64 x.hg, .int .i64 x.jb, .int .i64 x.bk, .slice A n c] 38)).alloc (.cells #[.int .i64 s, .int .i64 t, .int .i64 o, .int .i64 g] 40)).alloc (.cells #[.int .i64 a, .int .i64 b] 35)).alloc (.cells #[.int .i64 d, .int .i64 e] 35)) from gr_alloc (gr_alloc (gr_alloc (gr_alloc (gr_refl _)))))
    have HS := Lib.hid (h.later HB.out)
    have hz4 : w.heap.size + 4 ≤ ((((w.alloc (.cells #[.string x.nm, .int .i64 x.px, .int .i64 x.py, .int .i64 x.hg, .int .i64 x.jb, .int .i64 x.bk, .slice A n c] 38)).alloc (.cells #[.int .i64 s, .int .i64 t, .int .i64 o, .int .i64 g] 40)).alloc (.cells #[.int .i64 a, .int .i64 b] 35)).alloc (.cells #[.int .i64 d, .int .i64 e] 35)).heap.size := by simp
    clear h
    obtain ⟨c0, c1, c2, c3, c4, c5, c6⟩ := HC.out
    have HV_0 := HV.out.cell 0 (by simp)
    have HV_1 := HV.out.cell 1 (by simp)
    have HV_2 := HV.out.cell 2 (by simp)
    have HV_3 := HV.out.cell 3 (by simp)
    simp only [List.getD_cons_zero, List.getD_cons_succ] at HV_0 HV_1 HV_2 HV_3
    have HP_0 := HP.out.cell 0 (by simp)
    have HP_1 := HP.out.cell 1 (by simp)
    simp only [List.getD_cons_zero, List.getD_cons_succ] at HP_0 HP_1
    have HQ_0 := HQ.out.cell 0 (by simp)
    have HQ_1 := HQ.out.cell 1 (by simp)
    simp only [List.getD_cons_zero, List.getD_cons_succ] at HQ_0 HQ_1
    go_enter Tryd.func9, Tryd.ntmps9
    go_wp2_with fail
    generalize (((w.alloc (.cells #[.string x.nm, .int .i64 x.px, .int .i64 x.py, .int .i64 x.hg, .int .i64 x.jb, .int .i64 x.bk, .slice A n c] 38)).alloc (.cells #[.int .i64 s, .int .i64 t, .int .i64 o, .int .i64 g] 40)).alloc (.cells #[.int .i64 a, .int .i64 b] 35)).alloc (.cells #[.int .i64 d, .int .i64 e] 35) = v0 at *
    clear c0 c1 c2 c3 c4 c5 c6 HV_0 HV_1 HV_2 HV_3 HP_0 HP_1 HQ_0 HQ_1
    go_at_call 32
    (with_reducible refine (l10Ok_is K0.out _).mono ?_)
    rintro r w1 ⟨rfl, hb⟩
    replace HC := Lib.hid (HC.out.late hb)
    replace HV := Lib.hid (HV.out.late hb)
    replace HP := Lib.hid (HP.out.late hb)
    replace HQ := Lib.hid (HQ.out.late hb)
    replace HS := Lib.hid (HS.out.later hb)
    replace HB := Lib.hid (gr_then hb HB.out)
    clear hb
    obtain ⟨c0, c1, c2, c3, c4, c5, c6⟩ := HC.out
    have HV_0 := HV.out.cell 0 (by simp)
    have HV_1 := HV.out.cell 1 (by simp)
    have HV_2 := HV.out.cell 2 (by simp)
    have HV_3 := HV.out.cell 3 (by simp)
    simp only [List.getD_cons_zero, List.getD_cons_succ] at HV_0 HV_1 HV_2 HV_3
    have HP_0 := HP.out.cell 0 (by simp)
    have HP_1 := HP.out.cell 1 (by simp)
    simp only [List.getD_cons_zero, List.getD_cons_succ] at HP_0 HP_1
    have HQ_0 := HQ.out.cell 0 (by simp)
    have HQ_1 := HQ.out.cell 1 (by simp)
    simp only [List.getD_cons_zero, List.getD_cons_succ] at HQ_0 HQ_1
    go_wp2_with fail
    clear c0 c1 c2 c3 c4 c5 c6 HV_0 HV_1 HV_2 HV_3 HP_0 HP_1 HQ_0 HQ_1
    go_at_call 33
    (with_reducible refine (okCr04_is K1.out HC.out hn hz hk HS.out).mono ?_)
    rintro r w2 ⟨rfl, hb⟩
    replace HC := Lib.hid (HC.out.late hb)
    replace HV := Lib.hid (HV.out.late hb)
    replace HP := Lib.hid (HP.out.late hb)
    replace HQ := Lib.hid (HQ.out.late hb)
    replace HS := Lib.hid (HS.out.later hb)
    replace HB := Lib.hid (gr_then hb HB.out)
    clear hb
    obtain ⟨c0, c1, c2, c3, c4, c5, c6⟩ := HC.out
    have HV_0 := HV.out.cell 0 (by simp)
    have HV_1 := HV.out.cell 1 (by simp)
    have HV_2 := HV.out.cell 2 (by simp)
    have HV_3 := HV.out.cell 3 (by simp)
    simp only [List.getD_cons_zero, List.getD_cons_succ] at HV_0 HV_1 HV_2 HV_3
    have HP_0 := HP.out.cell 0 (by simp)
    have HP_1 := HP.out.cell 1 (by simp)
    simp only [List.getD_cons_zero, List.getD_cons_succ] at HP_0 HP_1
    have HQ_0 := HQ.out.cell 0 (by simp)
    have HQ_1 := HQ.out.cell 1 (by simp)
    simp only [List.getD_cons_zero, List.getD_cons_succ] at HQ_0 HQ_1
    go_wp2_with fail
    clear c0 c1 c2 c3 c4 c5 c6 HV_0 HV_1 HV_2 HV_3 HP_0 HP_1 HQ_0 HQ_1
    go_at_call 34
    (with_reducible refine (pl02_is K2.out _).mono ?_)
    rintro r w3 ⟨rfl, hb⟩
    replace HC := Lib.hid (HC.out.late hb)
    replace HV := Lib.hid (HV.out.late hb)
    replace HP := Lib.hid (HP.out.late hb)
    replace HQ := Lib.hid (HQ.out.late hb)
    replace HS := Lib.hid (HS.out.later hb)
    replace HB := Lib.hid (gr_then hb HB.out)
    clear hb
    obtain ⟨c0, c1, c2, c3, c4, c5, c6⟩ := HC.out
    have HV_0 := HV.out.cell 0 (by simp)
    have HV_1 := HV.out.cell 1 (by simp)
    have HV_2 := HV.out.cell 2 (by simp)
    have HV_3 := HV.out.cell 3 (by simp)
    simp only [List.getD_cons_zero, List.getD_cons_succ] at HV_0 HV_1 HV_2 HV_3
    have HP_0 := HP.out.cell 0 (by simp)
    have HP_1 := HP.out.cell 1 (by simp)
    simp only [List.getD_cons_zero, List.getD_cons_succ] at HP_0 HP_1
    have HQ_0 := HQ.out.cell 0 (by simp)
    have HQ_1 := HQ.out.cell 1 (by simp)
    simp only [List.getD_cons_zero, List.getD_cons_succ] at HQ_0 HQ_1
    go_wp2_with fail
    clear c0 c1 c2 c3 c4 c5 c6 HV_0 HV_1 HV_2 HV_3 HP_0 HP_1 HQ_0 HQ_1
    go_returns
    exact ⟨rfl, HB.out⟩
  cases q3
  case false =>
    have KK := Lib.hid (show mvOk x n s t o g a b d e = false by unfold mvOk; rw [K0.out, K1.out, K2.out, K3.out]; rfl)
    rw [KK.out]
    rw [show tV false V = 0 from rfl, show tC false = 1 from rfl]
    have HC := Lib.hid ((Cc.box w 38 x A n c).late (show Below (w.alloc (.cells #[.string x.nm, .int .i64 x.px, .int .i64 x.py, .int .i64 x.hg, .int .i64 x.jb, .int .i64 x.bk, .slice A n c] 38)).heap.size (w.alloc (.cells #[.string x.nm, .int .i64 x.px, .int .i64 x.py, .int .i64 x.hg, .int .i64 x.jb, .int .i64 x.bk, .slice A n c] 38)) ((((w.alloc (.cells #[.string x.nm, .int .i64 x.px, .int .i64 x.py, .int .i64 x.hg, .int .i64 x.jb, .int .i64 x.bk, .slice A n c] 38)).alloc (.cells #[.int .i64 s, .int .i64 t, .int .i64 o, .int .i64 g] 40)).alloc (.cells #[.int .i64 a, .int .i64 b] 35)).alloc (.cells #[.int .i64 d, .int .i64 e] 35)) from gr_alloc (gr_alloc (gr_alloc (gr_refl _)))))
    have HV := Lib.hid (BI.late (show BI ((w.alloc (.cells #[.string x.nm, .int .i64 x.px, .int .i64 x.py, .int .i64 x.hg, .int .i64 x.jb, .int .i64 x.bk, .slice A n c] 38)).alloc (.cells #[.int .i64 s, .int .i64 t, .int .i64 o, .int .i64 g] 40)) (w.heap.size + 1) 40 [s, t, o, g] from by have h := heap_alloc_new (w.alloc (.cells #[.string x.nm, .int .i64 x.px, .int .i64 x.py, .int .i64 x.hg, .int .i64 x.jb, .int .i64 x.bk, .slice A n c] 38)) (.cells #[.int .i64 s, .int .i64 t, .int .i64 o, .int .i64 g] 40); simp only [World.size_alloc] at h; exact h) (show Below ((w.alloc (.cells #[.string x.nm, .int .i64 x.px, .int .i64 x.py, .int .i64 x.hg, .int .i64 x.jb, .int .i64 x.bk, .slice A n c] 38)).alloc (.cells #[.int .i64 s, .int .i64 t, .int .i64 o, .int .i64 g] 40)).heap.size ((w.alloc (.cells #[.string x.nm, .int .i64 x.px, .int .i64 x.py, .int .i64 x.hg, .int .i64 x.jb, .int .i64 x.bk, .slice A n c] 38)).alloc (.cells #[.int .i64 s, .int .i64 t, .int .i64 o, .int .i64 g] 40)) ((((w.alloc (.cells #[.string x.nm, .int .i64 x.px, .int .i64 x.py, .int .i64 x.hg, .int .i64 x.jb, .int .i64 x.bk, .slice A n c] 38)).alloc (.cells #[.int .i64 s, .int .i64 t, .int .i64 o, .int .i64 g] 40)).alloc (.cells #[.int .i64 a, .int .i64 b] 35)).alloc (.cells #[.int .i64 d, .int .i64 e] 35)) from gr_alloc (gr_alloc (gr_refl _))))
    have HP := Lib.hid (BI.late (show BI (((w.alloc (.cells #[.string x.nm, .int .i64 x.px, .int .i64 x.py, .int .i64 x.hg, .int .i64 x.jb, .int .i64 x.bk, .slice A n c] 38)).alloc (.cells #[.int .i64 s, .int .i64 t, .int .i64 o, .int .i64 g] 40)).alloc (.cells #[.int .i64 a, .int .i64 b] 35)) (w.heap.size + 1 + 1) 35 [a, b] from by have h := heap_alloc_new ((w.alloc (.cells #[.string x.nm, .int .i64 x.px, .int .i64 x.py, .int .i64 x.hg, .int .i64 x.jb, .int .i64 x.bk, .slice A n c] 38)).alloc (.cells #[.int .i64 s, .int .i64 t, .int .i64 o, .int .i64 g] 40)) (.cells #[.int .i64 a, .int .i64 b] 35); simp only [World.size_alloc] at h; exact h) (show Below (((w.alloc (.cells #[.string x.nm, .int .i64 x.px, .int .i64 x.py, .int .i64 x.hg, .int .i64 x.jb, .int .i64 x.bk, .slice A n c] 38)).alloc (.cells #[.int .i64 s, .int .i64 t, .int .i64 o, .int .i64 g] 40)).alloc (.cells #[.int .i64 a, .int .i64 b] 35)).heap.size (((w.alloc (.cells #[.string x.nm, .int .i64 x.px, .int .i64 x.py, .int .i64 x.hg, .int .i64 x.jb, .int .i64 x.bk, .slice A n c] 38)).alloc (.cells #[.int .i64 s, .int .i64 t, .int .i64 o, .int .i64 g] 40)).alloc (.cells #[.int .i64 a, .int .i64 b] 35)) ((((w.alloc (.cells #[.string x.nm, .int .i64 x.px, .int .i64 x.py, .int .i64 x.hg, .int .i64 x.jb, .int .i64 x.bk, .slice A n c] 38)).alloc (.cells #[.int .i64 s, .int .i64 t, .int .i64 o, .int .i64 g] 40)).alloc (.cells #[.int .i64 a, .int .i64 b] 35)).alloc (.cells #[.int .i64 d, .int .i64 e] 35)) from gr_alloc (gr_refl _)))
    have HQ := Lib.hid (BI.late (show BI ((((w.alloc (.cells #[.string x.nm, .int .i64 x.px, .int .i64 x.py, .int .i64 x.hg, .int .i64 x.jb, .int .i64 x.bk, .slice A n c] 38)).alloc (.cells #[.int .i64 s, .int .i64 t, .int .i64 o, .int .i64 g] 40)).alloc (.cells #[.int .i64 a, .int .i64 b] 35)).alloc (.cells #[.int .i64 d, .int .i64 e] 35)) (w.heap.size + 1 + 1 + 1) 35 [d, e] from by have h := heap_alloc_new (((w.alloc (.cells #[.string x.nm, .int .i64 x.px, .int .i64 x.py, .int .i64 x.hg, .int .i64 x.jb, .int .i64 x.bk, .slice A n c] 38)).alloc (.cells #[.int .i64 s, .int .i64 t, .int .i64 o, .int .i64 g] 40)).alloc (.cells #[.int .i64 a, .int .i64 b] 35)) (.cells #[.int .i64 d, .int .i64 e] 35); simp only [World.size_alloc] at h; exact h) (show Below ((((w.alloc (.cells #[.string x.nm, .int .i64 x.px, .int .i64 x.py, .int .i64 x.hg, .int .i64 x.jb, .int .i64 x.bk, .slice A n c] 38)).alloc (.cells #[.int .i64 s, .int .i64 t, .int .i64 o, .int .i64 g] 40)).alloc (.cells #[.int .i64 a, .int .i64 b] 35)).alloc (.cells #[.int .i64 d, .int .i64 e] 35)).heap.size ((((w.alloc (.cells #[.string x.nm, .int .i64 x.px, .int .i64 x.py, .int .i64 x.hg, .int .i64 x.jb, .int .i64 x.bk, .slice A n c] 38)).alloc (.cells #[.int .i64 s, .int .i64 t, .int .i64 o, .int .i64 g] 40)).alloc (.cells #[.int .i64 a, .int .i64 b] 35)).alloc (.cells #[.int .i64 d, .int .i64 e] 35)) ((((w.alloc (.cells #[.string x.nm, .int .i64 x.px, .int .i64 x.py, .int .i64 x.hg, .int .i64 x.jb, .int .i64 x.bk, .slice A n c] 38)).alloc (.cells #[.int .i64 s, .int .i64 t, .int .i64 o, .int .i64 g] 40)).alloc (.cells #[.int .i64 a, .int .i64 b] 35)).alloc (.cells #[.int .i64 d, .int .i64 e] 35)) from gr_refl _))
    have HB := Lib.hid (show Below w.heap.size w ((((w.alloc (.cells #[.string x.nm, .int .i64 x.px, .int .i64 x.py, .int .i64 x.hg, .int .i64 x.jb, .int .i64 x.bk, .slice A n c] 38)).alloc (.cells #[.int .i64 s, .int .i64 t, .int .i64 o, .int .i64 g] 40)).alloc (.cells #[.int .i64 a, .int .i64 b] 35)).alloc (.cells #[.int .i64 d, .int .i64 e] 35)) from gr_alloc (gr_alloc (gr_alloc (gr_alloc (gr_refl _)))))
    have HS := Lib.hid (h.later HB.out)
    have hz4 : w.heap.size + 4 ≤ ((((w.alloc (.cells #[.string x.nm, .int .i64 x.px, .int .i64 x.py, .int .i64 x.hg, .int .i64 x.jb, .int .i64 x.bk, .slice A n c] 38)).alloc (.cells #[.int .i64 s, .int .i64 t, .int .i64 o, .int .i64 g] 40)).alloc (.cells #[.int .i64 a, .int .i64 b] 35)).alloc (.cells #[.int .i64 d, .int .i64 e] 35)).heap.size := by simp
    clear h
    obtain ⟨c0, c1, c2, c3, c4, c5, c6⟩ := HC.out
    have HV_0 := HV.out.cell 0 (by simp)
    have HV_1 := HV.out.cell 1 (by simp)
    have HV_2 := HV.out.cell 2 (by simp)
    have HV_3 := HV.out.cell 3 (by simp)
    simp only [List.getD_cons_zero, List.getD_cons_succ] at HV_0 HV_1 HV_2 HV_3
    have HP_0 := HP.out.cell 0 (by simp)
    have HP_1 := HP.out.cell 1 (by simp)
    simp only [List.getD_cons_zero, List.getD_cons_succ] at HP_0 HP_1
    have HQ_0 := HQ.out.cell 0 (by simp)
    have HQ_1 := HQ.out.cell 1 (by simp)
    simp only [List.getD_cons_zero, List.getD_cons_succ] at HQ_0 HQ_1
    go_enter Tryd.func9, Tryd.ntmps9
    go_wp2_with fail
    generalize (((w.alloc (.cells #[.string x.nm, .int .i64 x.px, .int .i64 x.py, .int .i64 x.hg, .int .i64 x.jb, .int .i64 x.bk, .slice A n c] 38)).alloc (.cells #[.int .i64 s, .int .i64 t, .int .i64 o, .int .i64 g] 40)).alloc (.cells #[.int .i64 a, .int .i64 b] 35)).alloc (.cells #[.int .i64 d, .int .i64 e] 35) = v0 at *
    clear c0 c1 c2 c3 c4 c5 c6 HV_0 HV_1 HV_2 HV_3 HP_0 HP_1 HQ_0 HQ_1
    go_at_call 32
    (with_reducible refine (l10Ok_is K0.out _).mono ?_)
    rintro r w1 ⟨rfl, hb⟩
    replace HC := Lib.hid (HC.out.late hb)
    replace HV := Lib.hid (HV.out.late hb)
    replace HP := Lib.hid (HP.out.late hb)
    replace HQ := Lib.hid (HQ.out.late hb)
    replace HS := Lib.hid (HS.out.later hb)
    replace HB := Lib.hid (gr_then hb HB.out)
    clear hb
    obtain ⟨c0, c1, c2, c3, c4, c5, c6⟩ := HC.out
    have HV_0 := HV.out.cell 0 (by simp)
    have HV_1 := HV.out.cell 1 (by simp)
    have HV_2 := HV.out.cell 2 (by simp)
    have HV_3 := HV.out.cell 3 (by simp)
    simp only [List.getD_cons_zero, List.getD_cons_succ] at HV_0 HV_1 HV_2 HV_3
    have HP_0 := HP.out.cell 0 (by simp)
    have HP_1 := HP.out.cell 1 (by simp)
    simp only [List.getD_cons_zero, List.getD_cons_succ] at HP_0 HP_1
    have HQ_0 := HQ.out.cell 0 (by simp)
    have HQ_1 := HQ.out.cell 1 (by simp)
    simp only [List.getD_cons_zero, List.getD_cons_succ] at HQ_0 HQ_1
    go_wp2_with fail
    clear c0 c1 c2 c3 c4 c5 c6 HV_0 HV_1 HV_2 HV_3 HP_0 HP_1 HQ_0 HQ_1
    go_at_call 33
    (with_reducible refine (okCr04_is K1.out HC.out hn hz hk HS.out).mono ?_)
    rintro r w2 ⟨rfl, hb⟩
    replace HC := Lib.hid (HC.out.late hb)
    replace HV := Lib.hid (HV.out.late hb)
    replace HP := Lib.hid (HP.out.late hb)
    replace HQ := Lib.hid (HQ.out.late hb)
    replace HS := Lib.hid (HS.out.later hb)
    replace HB := Lib.hid (gr_then hb HB.out)
    clear hb
    obtain ⟨c0, c1, c2, c3, c4, c5, c6⟩ := HC.out
    have HV_0 := HV.out.cell 0 (by simp)
    have HV_1 := HV.out.cell 1 (by simp)
    have HV_2 := HV.out.cell 2 (by simp)
    have HV_3 := HV.out.cell 3 (by simp)
    simp only [List.getD_cons_zero, List.getD_cons_succ] at HV_0 HV_1 HV_2 HV_3
    have HP_0 := HP.out.cell 0 (by simp)
    have HP_1 := HP.out.cell 1 (by simp)
    simp only [List.getD_cons_zero, List.getD_cons_succ] at HP_0 HP_1
    have HQ_0 := HQ.out.cell 0 (by simp)
    have HQ_1 := HQ.out.cell 1 (by simp)
    simp only [List.getD_cons_zero, List.getD_cons_succ] at HQ_0 HQ_1
    go_wp2_with fail
    clear c0 c1 c2 c3 c4 c5 c6 HV_0 HV_1 HV_2 HV_3 HP_0 HP_1 HQ_0 HQ_1
    go_at_call 34
    (with_reducible refine (pl02_is K2.out _).mono ?_)
    rintro r w3 ⟨rfl, hb⟩
    replace HC := Lib.hid (HC.out.late hb)
    replace HV := Lib.hid (HV.out.late hb)
    replace HP := Lib.hid (HP.out.late hb)
    replace HQ := Lib.hid (HQ.out.late hb)
    replace HS := Lib.hid (HS.out.later hb)
    replace HB := Lib.hid (gr_then hb HB.out)
    clear hb
    obtain ⟨c0, c1, c2, c3, c4, c5, c6⟩ := HC.out
    have HV_0 := HV.out.cell 0 (by simp)
    have HV_1 := HV.out.cell 1 (by simp)
    have HV_2 := HV.out.cell 2 (by simp)
    have HV_3 := HV.out.cell 3 (by simp)
    simp only [List.getD_cons_zero, List.getD_cons_succ] at HV_0 HV_1 HV_2 HV_3
    have HP_0 := HP.out.cell 0 (by simp)
    have HP_1 := HP.out.cell 1 (by simp)
    simp only [List.getD_cons_zero, List.getD_cons_succ] at HP_0 HP_1
    have HQ_0 := HQ.out.cell 0 (by simp)
    have HQ_1 := HQ.out.cell 1 (by simp)
    simp only [List.getD_cons_zero, List.getD_cons_succ] at HQ_0 HQ_1
    go_wp2_with fail
    clear c0 c1 c2 c3 c4 c5 c6 HV_0 HV_1 HV_2 HV_3 HP_0 HP_1 HQ_0 HQ_1
    go_at_call 34
    (with_reducible refine (pl02_is K3.out _).mono ?_)
    rintro r w4 ⟨rfl, hb⟩
    replace HC := Lib.hid (HC.out.late hb)
    replace HV := Lib.hid (HV.out.late hb)
    replace HP := Lib.hid (HP.out.late hb)
    replace HQ := Lib.hid (HQ.out.late hb)
    replace HS := Lib.hid (HS.out.later hb)
    replace HB := Lib.hid (gr_then hb HB.out)
    clear hb
    obtain ⟨c0, c1, c2, c3, c4, c5, c6⟩ := HC.out
    have HV_0 := HV.out.cell 0 (by simp)
    have HV_1 := HV.out.cell 1 (by simp)
    have HV_2 := HV.out.cell 2 (by simp)
    have HV_3 := HV.out.cell 3 (by simp)
    simp only [List.getD_cons_zero, List.getD_cons_succ] at HV_0 HV_1 HV_2 HV_3
    have HP_0 := HP.out.cell 0 (by simp)
    have HP_1 := HP.out.cell 1 (by simp)
    simp only [List.getD_cons_zero, List.getD_cons_succ] at HP_0 HP_1
    have HQ_0 := HQ.out.cell 0 (by simp)
    have HQ_1 := HQ.out.cell 1 (by simp)
    simp only [List.getD_cons_zero, List.getD_cons_succ] at HQ_0 HQ_1
    go_wp2_with fail
    clear c0 c1 c2 c3 c4 c5 c6 HV_0 HV_1 HV_2 HV_3 HP_0 HP_1 HQ_0 HQ_1
    go_returns
    exact ⟨rfl, HB.out⟩
  have KK := Lib.hid (show mvOk x n s t o g a b d e = true by unfold mvOk; rw [K0.out, K1.out, K2.out, K3.out]; rfl)
  rw [KK.out]
  rw [show tV true V = V from rfl, show tC true = 0 from rfl]
  have hsp := okSp_t K0.out
  have KPX := Lib.hid (show okPl x.px x.py = true by have h9 := (okCr_t K1.out).1; unfold okPl; rw [inI_y h9.1, inI_y h9.2]; rfl)
  have HC := Lib.hid ((Cc.box w 38 x A n c).late (show Below (w.alloc (.cells #[.string x.nm, .int .i64 x.px, .int .i64 x.py, .int .i64 x.hg, .int .i64 x.jb, .int .i64 x.bk, .slice A n c] 38)).heap.size (w.alloc (.cells #[.string x.nm, .int .i64 x.px, .int .i64 x.py, .int .i64 x.hg, .int .i64 x.jb, .int .i64 x.bk, .slice A n c] 38)) ((((w.alloc (.cells #[.string x.nm, .int .i64 x.px, .int .i64 x.py, .int .i64 x.hg, .int .i64 x.jb, .int .i64 x.bk, .slice A n c] 38)).alloc (.cells #[.int .i64 s, .int .i64 t, .int .i64 o, .int .i64 g] 40)).alloc (.cells #[.int .i64 a, .int .i64 b] 35)).alloc (.cells #[.int .i64 d, .int .i64 e] 35)) from gr_alloc (gr_alloc (gr_alloc (gr_refl _)))))
  have HV := Lib.hid (BI.late (show BI ((w.alloc (.cells #[.string x.nm, .int .i64 x.px, .int .i64 x.py, .int .i64 x.hg, .int .i64 x.jb, .int .i64 x.bk, .slice A n c] 38)).alloc (.cells #[.int .i64 s, .int .i64 t, .int .i64 o, .int .i64 g] 40)) (w.heap.size + 1) 40 [s, t, o, g] from by have h := heap_alloc_new (w.alloc (.cells #[.string x.nm, .int .i64 x.px, .int .i64 x.py, .int .i64 x.hg, .int .i64 x.jb, .int .i64 x.bk, .slice A n c] 38)) (.cells #[.int .i64 s, .int .i64 t, .int .i64 o, .int .i64 g] 40); simp only [World.size_alloc] at h; exact h) (show Below ((w.alloc (.cells #[.string x.nm, .int .i64 x.px, .int .i64 x.py, .int .i64 x.hg, .int .i64 x.jb, .int .i64 x.bk, .slice A n c] 38)).alloc (.cells #[.int .i64 s, .int .i64 t, .int .i64 o, .int .i64 g] 40)).heap.size ((w.alloc (.cells #[.string x.nm, .int .i64 x.px, .int .i64 x.py, .int .i64 x.hg, .int .i64 x.jb, .int .i64 x.bk, .slice A n c] 38)).alloc (.cells #[.int .i64 s, .int .i64 t, .int .i64 o, .int .i64 g] 40)) ((((w.alloc (.cells #[.string x.nm, .int .i64 x.px, .int .i64 x.py, .int .i64 x.hg, .int .i64 x.jb, .int .i64 x.bk, .slice A n c] 38)).alloc (.cells #[.int .i64 s, .int .i64 t, .int .i64 o, .int .i64 g] 40)).alloc (.cells #[.int .i64 a, .int .i64 b] 35)).alloc (.cells #[.int .i64 d, .int .i64 e] 35)) from gr_alloc (gr_alloc (gr_refl _))))
  have HP := Lib.hid (BI.late (show BI (((w.alloc (.cells #[.string x.nm, .int .i64 x.px, .int .i64 x.py, .int .i64 x.hg, .int .i64 x.jb, .int .i64 x.bk, .slice A n c] 38)).alloc (.cells #[.int .i64 s, .int .i64 t, .int .i64 o, .int .i64 g] 40)).alloc (.cells #[.int .i64 a, .int .i64 b] 35)) (w.heap.size + 1 + 1) 35 [a, b] from by have h := heap_alloc_new ((w.alloc (.cells #[.string x.nm, .int .i64 x.px, .int .i64 x.py, .int .i64 x.hg, .int .i64 x.jb, .int .i64 x.bk, .slice A n c] 38)).alloc (.cells #[.int .i64 s, .int .i64 t, .int .i64 o, .int .i64 g] 40)) (.cells #[.int .i64 a, .int .i64 b] 35); simp only [World.size_alloc] at h; exact h) (show Below (((w.alloc (.cells #[.string x.nm, .int .i64 x.px, .int .i64 x.py, .int .i64 x.hg, .int .i64 x.jb, .int .i64 x.bk, .slice A n c] 38)).alloc (.cells #[.int .i64 s, .int .i64 t, .int .i64 o, .int .i64 g] 40)).alloc (.cells #[.int .i64 a, .int .i64 b] 35)).heap.size (((w.alloc (.cells #[.string x.nm, .int .i64 x.px, .int .i64 x.py, .int .i64 x.hg, .int .i64 x.jb, .int .i64 x.bk, .slice A n c] 38)).alloc (.cells #[.int .i64 s, .int .i64 t, .int .i64 o, .int .i64 g] 40)).alloc (.cells #[.int .i64 a, .int .i64 b] 35)) ((((w.alloc (.cells #[.string x.nm, .int .i64 x.px, .int .i64 x.py, .int .i64 x.hg, .int .i64 x.jb, .int .i64 x.bk, .slice A n c] 38)).alloc (.cells #[.int .i64 s, .int .i64 t, .int .i64 o, .int .i64 g] 40)).alloc (.cells #[.int .i64 a, .int .i64 b] 35)).alloc (.cells #[.int .i64 d, .int .i64 e] 35)) from gr_alloc (gr_refl _)))
  have HQ := Lib.hid (BI.late (show BI ((((w.alloc (.cells #[.string x.nm, .int .i64 x.px, .int .i64 x.py, .int .i64 x.hg, .int .i64 x.jb, .int .i64 x.bk, .slice A n c] 38)).alloc (.cells #[.int .i64 s, .int .i64 t, .int .i64 o, .int .i64 g] 40)).alloc (.cells #[.int .i64 a, .int .i64 b] 35)).alloc (.cells #[.int .i64 d, .int .i64 e] 35)) (w.heap.size + 1 + 1 + 1) 35 [d, e] from by have h := heap_alloc_new (((w.alloc (.cells #[.string x.nm, .int .i64 x.px, .int .i64 x.py, .int .i64 x.hg, .int .i64 x.jb, .int .i64 x.bk, .slice A n c] 38)).alloc (.cells #[.int .i64 s, .int .i64 t, .int .i64 o, .int .i64 g] 40)).alloc (.cells #[.int .i64 a, .int .i64 b] 35)) (.cells #[.int .i64 d, .int .i64 e] 35); simp only [World.size_alloc] at h; exact h) (show Below ((((w.alloc (.cells #[.string x.nm, .int .i64 x.px, .int .i64 x.py, .int .i64 x.hg, .int .i64 x.jb, .int .i64 x.bk, .slice A n c] 38)).alloc (.cells #[.int .i64 s, .int .i64 t, .int .i64 o, .int .i64 g] 40)).alloc (.cells #[.int .i64 a, .int .i64 b] 35)).alloc (.cells #[.int .i64 d, .int .i64 e] 35)).heap.size ((((w.alloc (.cells #[.string x.nm, .int .i64 x.px, .int .i64 x.py, .int .i64 x.hg, .int .i64 x.jb, .int .i64 x.bk, .slice A n c] 38)).alloc (.cells #[.int .i64 s, .int .i64 t, .int .i64 o, .int .i64 g] 40)).alloc (.cells #[.int .i64 a, .int .i64 b] 35)).alloc (.cells #[.int .i64 d, .int .i64 e] 35)) ((((w.alloc (.cells #[.string x.nm, .int .i64 x.px, .int .i64 x.py, .int .i64 x.hg, .int .i64 x.jb, .int .i64 x.bk, .slice A n c] 38)).alloc (.cells #[.int .i64 s, .int .i64 t, .int .i64 o, .int .i64 g] 40)).alloc (.cells #[.int .i64 a, .int .i64 b] 35)).alloc (.cells #[.int .i64 d, .int .i64 e] 35)) from gr_refl _))
  have HB := Lib.hid (show Below w.heap.size w ((((w.alloc (.cells #[.string x.nm, .int .i64 x.px, .int .i64 x.py, .int .i64 x.hg, .int .i64 x.jb, .int .i64 x.bk, .slice A n c] 38)).alloc (.cells #[.int .i64 s, .int .i64 t, .int .i64 o, .int .i64 g] 40)).alloc (.cells #[.int .i64 a, .int .i64 b] 35)).alloc (.cells #[.int .i64 d, .int .i64 e] 35)) from gr_alloc (gr_alloc (gr_alloc (gr_alloc (gr_refl _)))))
  have HS := Lib.hid (h.later HB.out)
  have hz4 : w.heap.size + 4 ≤ ((((w.alloc (.cells #[.string x.nm, .int .i64 x.px, .int .i64 x.py, .int .i64 x.hg, .int .i64 x.jb, .int .i64 x.bk, .slice A n c] 38)).alloc (.cells #[.int .i64 s, .int .i64 t, .int .i64 o, .int .i64 g] 40)).alloc (.cells #[.int .i64 a, .int .i64 b] 35)).alloc (.cells #[.int .i64 d, .int .i64 e] 35)).heap.size := by simp
  clear h
  obtain ⟨c0, c1, c2, c3, c4, c5, c6⟩ := HC.out
  have HV_0 := HV.out.cell 0 (by simp)
  have HV_1 := HV.out.cell 1 (by simp)
  have HV_2 := HV.out.cell 2 (by simp)
  have HV_3 := HV.out.cell 3 (by simp)
  simp only [List.getD_cons_zero, List.getD_cons_succ] at HV_0 HV_1 HV_2 HV_3
  have HP_0 := HP.out.cell 0 (by simp)
  have HP_1 := HP.out.cell 1 (by simp)
  simp only [List.getD_cons_zero, List.getD_cons_succ] at HP_0 HP_1
  have HQ_0 := HQ.out.cell 0 (by simp)
  have HQ_1 := HQ.out.cell 1 (by simp)
  simp only [List.getD_cons_zero, List.getD_cons_succ] at HQ_0 HQ_1
  go_enter Tryd.func9, Tryd.ntmps9
  go_wp2_with fail
  generalize (((w.alloc (.cells #[.string x.nm, .int .i64 x.px, .int .i64 x.py, .int .i64 x.hg, .int .i64 x.jb, .int .i64 x.bk, .slice A n c] 38)).alloc (.cells #[.int .i64 s, .int .i64 t, .int .i64 o, .int .i64 g] 40)).alloc (.cells #[.int .i64 a, .int .i64 b] 35)).alloc (.cells #[.int .i64 d, .int .i64 e] 35) = v0 at *
  clear c0 c1 c2 c3 c4 c5 c6 HV_0 HV_1 HV_2 HV_3 HP_0 HP_1 HQ_0 HQ_1
  go_at_call 32
  (with_reducible refine (l10Ok_is K0.out _).mono ?_)
  rintro r w1 ⟨rfl, hb⟩
  replace HC := Lib.hid (HC.out.late hb)
  replace HV := Lib.hid (HV.out.late hb)
  replace HP := Lib.hid (HP.out.late hb)
  replace HQ := Lib.hid (HQ.out.late hb)
  replace HS := Lib.hid (HS.out.later hb)
  replace HB := Lib.hid (gr_then hb HB.out)
  clear hb
  obtain ⟨c0, c1, c2, c3, c4, c5, c6⟩ := HC.out
  have HV_0 := HV.out.cell 0 (by simp)
  have HV_1 := HV.out.cell 1 (by simp)
  have HV_2 := HV.out.cell 2 (by simp)
  have HV_3 := HV.out.cell 3 (by simp)
  simp only [List.getD_cons_zero, List.getD_cons_succ] at HV_0 HV_1 HV_2 HV_3
  have HP_0 := HP.out.cell 0 (by simp)
  have HP_1 := HP.out.cell 1 (by simp)
  simp only [List.getD_cons_zero, List.getD_cons_succ] at HP_0 HP_1
  have HQ_0 := HQ.out.cell 0 (by simp)
  have HQ_1 := HQ.out.cell 1 (by simp)
  simp only [List.getD_cons_zero, List.getD_cons_succ] at HQ_0 HQ_1
  go_wp2_with fail
  clear c0 c1 c2 c3 c4 c5 c6 HV_0 HV_1 HV_2 HV_3 HP_0 HP_1 HQ_0 HQ_1
  go_at_call 33
  (with_reducible refine (okCr04_is K1.out HC.out hn hz hk HS.out).mono ?_)
  rintro r w2 ⟨rfl, hb⟩
  replace HC := Lib.hid (HC.out.late hb)
  replace HV := Lib.hid (HV.out.late hb)
  replace HP := Lib.hid (HP.out.late hb)
  replace HQ := Lib.hid (HQ.out.late hb)
  replace HS := Lib.hid (HS.out.later hb)
  replace HB := Lib.hid (gr_then hb HB.out)
  clear hb
  obtain ⟨c0, c1, c2, c3, c4, c5, c6⟩ := HC.out
  have HV_0 := HV.out.cell 0 (by simp)
  have HV_1 := HV.out.cell 1 (by simp)
  have HV_2 := HV.out.cell 2 (by simp)
  have HV_3 := HV.out.cell 3 (by simp)
  simp only [List.getD_cons_zero, List.getD_cons_succ] at HV_0 HV_1 HV_2 HV_3
  have HP_0 := HP.out.cell 0 (by simp)
  have HP_1 := HP.out.cell 1 (by simp)
  simp only [List.getD_cons_zero, List.getD_cons_succ] at HP_0 HP_1
  have HQ_0 := HQ.out.cell 0 (by simp)
  have HQ_1 := HQ.out.cell 1 (by simp)
  simp only [List.getD_cons_zero, List.getD_cons_succ] at HQ_0 HQ_1
  go_wp2_with fail
  clear c0 c1 c2 c3 c4 c5 c6 HV_0 HV_1 HV_2 HV_3 HP_0 HP_1 HQ_0 HQ_1
  go_at_call 34
  (with_reducible refine (pl02_is K2.out _).mono ?_)
  rintro r w3 ⟨rfl, hb⟩
  replace HC := Lib.hid (HC.out.late hb)
  replace HV := Lib.hid (HV.out.late hb)
  replace HP := Lib.hid (HP.out.late hb)
  replace HQ := Lib.hid (HQ.out.late hb)
  replace HS := Lib.hid (HS.out.later hb)
  replace HB := Lib.hid (gr_then hb HB.out)
  clear hb
  obtain ⟨c0, c1, c2, c3, c4, c5, c6⟩ := HC.out
  have HV_0 := HV.out.cell 0 (by simp)
  have HV_1 := HV.out.cell 1 (by simp)
  have HV_2 := HV.out.cell 2 (by simp)
  have HV_3 := HV.out.cell 3 (by simp)
  simp only [List.getD_cons_zero, List.getD_cons_succ] at HV_0 HV_1 HV_2 HV_3
  have HP_0 := HP.out.cell 0 (by simp)
  have HP_1 := HP.out.cell 1 (by simp)
  simp only [List.getD_cons_zero, List.getD_cons_succ] at HP_0 HP_1
  have HQ_0 := HQ.out.cell 0 (by simp)
  have HQ_1 := HQ.out.cell 1 (by simp)
  simp only [List.getD_cons_zero, List.getD_cons_succ] at HQ_0 HQ_1
  go_wp2_with fail
  clear c0 c1 c2 c3 c4 c5 c6 HV_0 HV_1 HV_2 HV_3 HP_0 HP_1 HQ_0 HQ_1
  go_at_call 34
  (with_reducible refine (pl02_is K3.out _).mono ?_)
  rintro r w4 ⟨rfl, hb⟩
  replace HC := Lib.hid (HC.out.late hb)
  replace HV := Lib.hid (HV.out.late hb)
  replace HP := Lib.hid (HP.out.late hb)
  replace HQ := Lib.hid (HQ.out.late hb)
  replace HS := Lib.hid (HS.out.later hb)
  replace HB := Lib.hid (gr_then hb HB.out)
  clear hb
  obtain ⟨c0, c1, c2, c3, c4, c5, c6⟩ := HC.out
  have HV_0 := HV.out.cell 0 (by simp)
  have HV_1 := HV.out.cell 1 (by simp)
  have HV_2 := HV.out.cell 2 (by simp)
  have HV_3 := HV.out.cell 3 (by simp)
  simp only [List.getD_cons_zero, List.getD_cons_succ] at HV_0 HV_1 HV_2 HV_3
  have HP_0 := HP.out.cell 0 (by simp)
  have HP_1 := HP.out.cell 1 (by simp)
  simp only [List.getD_cons_zero, List.getD_cons_succ] at HP_0 HP_1
  have HQ_0 := HQ.out.cell 0 (by simp)
  have HQ_1 := HQ.out.cell 1 (by simp)
  simp only [List.getD_cons_zero, List.getD_cons_succ] at HQ_0 HQ_1
  go_wp2_with fail
  clear c0 c1 c2 c3 c4 c5 c6 HV_0 HV_1 HV_2 HV_3 HP_0 HP_1 HQ_0 HQ_1
  go_at_call 35
  (with_reducible refine (move10_is x A n c w.heap.size s t o g a b d e _ KPX.out K2.out K3.out (by omega) (by omega) HC.out KV.out).mono ?_)
  rintro r w5 ⟨rfl, hb⟩
  replace HC := Lib.hid (HC.out.late hb)
  replace HV := Lib.hid (HV.out.late hb)
  replace HP := Lib.hid (HP.out.late hb)
  replace HQ := Lib.hid (HQ.out.late hb)
  replace HS := Lib.hid (HS.out.later hb)
  replace HB := Lib.hid (gr_then hb HB.out)
  clear hb
  obtain ⟨c0, c1, c2, c3, c4, c5, c6⟩ := HC.out
  have HV_0 := HV.out.cell 0 (by simp)
  have HV_1 := HV.out.cell 1 (by simp)
  have HV_2 := HV.out.cell 2 (by simp)
  have HV_3 := HV.out.cell 3 (by simp)
  simp only [List.getD_cons_zero, List.getD_cons_succ] at HV_0 HV_1 HV_2 HV_3
  have HP_0 := HP.out.cell 0 (by simp)
  have HP_1 := HP.out.cell 1 (by simp)
  simp only [List.getD_cons_zero, List.getD_cons_succ] at HP_0 HP_1
  have HQ_0 := HQ.out.cell 0 (by simp)
  have HQ_1 := HQ.out.cell 1 (by simp)
  simp only [List.getD_cons_zero, List.getD_cons_succ] at HQ_0 HQ_1
  go_wp2_with fail
  clear c0 c1 c2 c3 c4 c5 c6 HV_0 HV_1 HV_2 HV_3 HP_0 HP_1 HQ_0 HQ_1
  go_returns
  exact ⟨rfl, HB.out⟩
end Go.Proofs.YtoglmeiffidcbaaDoor
