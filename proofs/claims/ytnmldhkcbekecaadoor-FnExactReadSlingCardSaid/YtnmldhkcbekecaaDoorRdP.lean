/- What both readers of slings hand back: the plain part. -/
import Derived.Test.YtnmldhkcbekecaaDoorRdI
import Derived.Test.YtnmldhkcbekecaaDoorSlT
namespace Go.Proofs.YtnmldhkcbekecaaDoor
open Go.RowKit Go.Deep
theorem nbS (n : Int) (b : UInt8) (h1 : ¬ b = 45) (h2 : ¬ (48 ≤ b.toNat ∧ b.toNat ≤ 57)) : b ∉ dS n := fun h => by rcases dS_bytes h with h | h; exact h1 h; exact h2 h
theorem nb120 (n : Int) : (120 : UInt8) ∉ dS n := nbS n 120 (by decide) (by decide)
theorem nb47 (n : Int) : (47 : UInt8) ∉ dS n := nbS n 47 (by decide) (by decide)
theorem nb32 (n : Int) : (32 : UInt8) ∉ dS n := nbS n 32 (by decide) (by decide)
theorem slT_list (l s r m : Int) : slT l s r m = strB (dS l ++ 120 :: (dS s ++ 47 :: (dS r ++ 32 :: dS m))) := by
  have h : (slT l s r m).data.toList = dS l ++ 120 :: (dS s ++ 47 :: (dS r ++ 32 :: dS m)) := by unfold slT; simp [strB]
  rw [← h, strB_of]
theorem strB_inj {a b : List UInt8} (h : strB a = strB b) : a = b := (strB_list a).symm.trans ((congrArg (fun s => s.data.toList) h).trans (strB_list b))
theorem cut_eq {b : UInt8} {A B A' B' : List UInt8} (hA : b ∉ A) (hA' : b ∉ A') (h : A ++ b :: B = A' ++ b :: B') : A = A' ∧ B = B' := by
  have h9 := (cut_hit (r := B) hA).symm.trans ((congrArg (fun l => Lib.cut l [b]) h).trans (cut_hit (r := B') hA'))
  simp only [Prod.mk.injEq, and_true] at h9
  exact h9
theorem slT_inj {a b c d a' b' c' d' : Int} (h : slT a b c d = slT a' b' c' d') : a = a' ∧ b = b' ∧ c = c' ∧ d = d' := by
  rw [slT_list, slT_list] at h
  obtain ⟨e1, h1⟩ := cut_eq (nb120 _) (nb120 _) (strB_inj h)
  obtain ⟨e2, h2⟩ := cut_eq (nb47 _) (nb47 _) h1
  obtain ⟨e3, h3⟩ := cut_eq (nb32 _) (nb32 _) h2
  exact ⟨dS_inj e1, dS_inj e2, dS_inj e3, dS_inj h3⟩
/-- what is read of a text -/
def RdRel (t : ByteArray) (l p r m : Int) (ok : Bool) : Prop := (ok = true → okSl l p r m = true ∧ slT l p r m = t) ∧ (ok = false → l = 0 ∧ p = 0 ∧ r = 0 ∧ m = 0 ∧ ∀ a b c d, okSl a b c d = true → slT a b c d ≠ t)
theorem RdRel.same {t : ByteArray} {l p r m l' p' r' m' : Int} {ok ok' : Bool} (h : RdRel t l p r m ok) (h' : RdRel t l' p' r' m' ok') : l' = l ∧ p' = p ∧ r' = r ∧ m' = m ∧ ok' = ok := by
  cases ok with
  | true =>
    obtain ⟨k1, k2⟩ := h.1 rfl
    cases ok' with
    | true =>
      obtain ⟨_, j2⟩ := h'.1 rfl
      obtain ⟨e1, e2, e3, e4⟩ := slT_inj (j2.trans k2.symm)
      exact ⟨e1, e2, e3, e4, rfl⟩
    | false => exact absurd k2 ((h'.2 rfl).2.2.2.2 _ _ _ _ k1)
  | false =>
    obtain ⟨k1, k2, k3, k4, k5⟩ := h.2 rfl
    cases ok' with
    | true =>
      obtain ⟨j1, j2⟩ := h'.1 rfl
      exact absurd j2 (k5 _ _ _ _ j1)
    | false =>
      obtain ⟨j1, j2, j3, j4, _⟩ := h'.2 rfl
      exact ⟨j1.trans k1.symm, j2.trans k2.symm, j3.trans k3.symm, j4.trans k4.symm, rfl⟩
theorem rel_no {t : ByteArray} (h : ∀ a b c d, okSl a b c d = true → slT a b c d ≠ t) : RdRel t 0 0 0 0 false := ⟨(fun h => by cases h), fun _ => ⟨rfl, rfl, rfl, rfl, h⟩⟩
theorem rel_yes {t : ByteArray} {l p r m : Int} (h : okSl l p r m = true) (h2 : slT l p r m = t) : RdRel t l p r m true := ⟨fun _ => ⟨h, h2⟩, fun h => by cases h⟩
theorem okSl_sm {a b c d : Int} (h : okSl a b c d = true) : a.natAbs < 10 ^ 18 ∧ b.natAbs < 10 ^ 18 ∧ c.natAbs < 10 ^ 18 ∧ d.natAbs < 10 ^ 18 := by
  have := okSl_t h
  omega
theorem okS_of {n : Int} (h : n.natAbs < 10 ^ 18) : okS (strB (dS n)) = true ∧ numS (strB (dS n)) = n := by unfold okS numS; rw [strB_list]; exact okN_dS h
theorem okS_dS {l : List UInt8} (h : okS (strB l) = true) : dS (numS (strB l)) = l := by unfold okS at h; unfold numS; rw [strB_list] at *; exact (okN_t h).1
theorem spl_a {a b c d : Int} {t : ByteArray} (h : slT a b c d = t) : splB t 32 = [strB (dS a ++ 120 :: (dS b ++ 47 :: dS c)), strB (dS d)] := by
  rw [← h, slT_list, show dS a ++ 120 :: (dS b ++ 47 :: (dS c ++ 32 :: dS d)) = (dS a ++ 120 :: (dS b ++ 47 :: dS c)) ++ 32 :: dS d by simp]
  exact splB_of (by simp [nb32]) (nb32 _)
theorem spl_b (a b c : Int) : splB (strB (dS a ++ 120 :: (dS b ++ 47 :: dS c))) 120 = [strB (dS a), strB (dS b ++ 47 :: dS c)] := splB_of (nb120 _) (by simp [nb120])
theorem spl_c (b c : Int) : splB (strB (dS b ++ 47 :: dS c)) 47 = [strB (dS b), strB (dS c)] := splB_of (nb47 _) (nb47 _)
theorem two_of {α : Type} {L : List α} (h : L.length = 2) : ∃ x y, L = [x, y] := by
  match L, h with
  | [x, y], _ => exact ⟨x, y, rfl⟩
theorem two_size {s x y : ByteArray} {b : UInt8} (h : splB s b = [x, y]) : x.size ≤ s.size ∧ y.size ≤ s.size := by
  have h9 := spl_size (s := s) (b := b) (by rw [h]; rfl)
  rw [h] at h9
  exact h9
theorem two_inj {α : Type} {a b c d : α} (h : [a, b] = [c, d]) : a = c ∧ b = d := by
  injection h with h1 h2
  injection h2 with h2 _
  exact ⟨h1, h2⟩
theorem rel_n1 {t : ByteArray} (h : ¬ (splB t 32).length = 2) : RdRel t 0 0 0 0 false := rel_no fun a b c d _ e => h (by rw [spl_a e]; rfl)
theorem rel_n2 {t x0 x1 : ByteArray} (h1 : splB t 32 = [x0, x1]) (h : ¬ (splB x0 120).length = 2) : RdRel t 0 0 0 0 false := rel_no fun a b c d _ e => h (by
  obtain ⟨rfl, rfl⟩ := two_inj (h1.symm.trans (spl_a e))
  rw [spl_b]; rfl)
theorem pr_c {b c : Int} (hb : b.natAbs < 10 ^ 18) (hc : c.natAbs < 10 ^ 18) : prA (strB (dS b ++ 47 :: dS c)) 47 = b ∧ prB (strB (dS b ++ 47 :: dS c)) 47 = c ∧ prK (strB (dS b ++ 47 :: dS c)) 47 = true := by
  have e := spl_c b c
  have e2 : (splB (strB (dS b ++ 47 :: dS c)) 47).length = 2 := by rw [e]; rfl
  refine ⟨?_, ?_, ?_⟩
  · unfold prA; rw [if_pos e2, e]; exact (okS_of hb).2
  · unfold prB; rw [if_pos e2, e]; exact (okS_of hc).2
  · unfold prK; rw [decide_eq_true e2, e]
    show (true && (okS (strB (dS b)) && okS (strB (dS c)))) = true
    rw [(okS_of hb).1, (okS_of hc).1]; rfl
theorem rel_n3 {t x0 x1 v0 v1 : ByteArray} (h1 : splB t 32 = [x0, x1]) (h2 : splB x0 120 = [v0, v1]) (h : ¬ (okS v0 = true ∧ prK v1 47 = true ∧ okS x1 = true ∧ okSl (numS v0) (prA v1 47) (prB v1 47) (numS x1) = true)) : RdRel t 0 0 0 0 false := rel_no fun a b c d k e => h (by
  obtain ⟨ka, kb, kc, kd⟩ := okSl_sm k
  obtain ⟨rfl, rfl⟩ := two_inj (h1.symm.trans (spl_a e))
  obtain ⟨rfl, rfl⟩ := two_inj (h2.symm.trans (spl_b a b c))
  obtain ⟨p1, p2, p3⟩ := pr_c kb kc
  rw [p1, p2, p3, (okS_of ka).1, (okS_of ka).2, (okS_of kd).1, (okS_of kd).2]
  exact ⟨rfl, rfl, rfl, k⟩)
theorem rel_t {t x0 x1 v0 v1 : ByteArray} (h1 : splB t 32 = [x0, x1]) (h2 : splB x0 120 = [v0, v1]) (k0 : okS v0 = true) (k1 : prK v1 47 = true) (k2 : okS x1 = true) (k3 : okSl (numS v0) (prA v1 47) (prB v1 47) (numS x1) = true) : RdRel t (numS v0) (prA v1 47) (prB v1 47) (numS x1) true := by
  refine rel_yes k3 ?_
  obtain ⟨A, B, e0, hA, hB, e⟩ := splB_two (s := t) (b := 32) (by rw [h1]; rfl)
  rw [h1] at e
  obtain ⟨rfl, rfl⟩ := two_inj e
  obtain ⟨C, D, e2, hC, hD, e3⟩ := splB_two (s := strB A) (b := 120) (by rw [h2]; rfl)
  rw [h2] at e3
  obtain ⟨rfl, rfl⟩ := two_inj e3
  have e4 := strB_inj e2
  unfold prK at k1
  simp only [Bool.and_eq_true, decide_eq_true_eq] at k1
  obtain ⟨p2, p3, p4⟩ := k1
  obtain ⟨E, F, e5, _, _, e6⟩ := splB_two p2
  have e7 := strB_inj e5
  rw [e6] at p3 p4
  have q1 : prA (strB D) 47 = numS (strB E) := by unfold prA; rw [if_pos p2, e6]; rfl
  have q2 : prB (strB D) 47 = numS (strB F) := by unfold prB; rw [if_pos p2, e6]; rfl
  rw [slT_list, q1, q2, okS_dS k0, okS_dS k2, okS_dS (l := E) p3, okS_dS (l := F) p4, e0, e4, e7]
  congr 1
  simp
/-- a text cut at a byte -/
def ctA (s : ByteArray) (b : UInt8) : ByteArray := strB (Lib.cut s.data.toList [b]).1
def ctB (s : ByteArray) (b : UInt8) : ByteArray := strB (Lib.cut s.data.toList [b]).2.1
def ctK (s : ByteArray) (b : UInt8) : Bool := (Lib.cut s.data.toList [b]).2.2
theorem ct_size (s : ByteArray) (b : UInt8) : (ctA s b).size ≤ s.size ∧ (ctB s b).size ≤ s.size := by
  unfold ctA ctB
  rw [strB_size, strB_size]
  have hs : s.data.toList.length = s.size := rfl
  unfold Lib.cut
  split
  · simp only [List.length_take, List.length_drop]; omega
  · exact ⟨by rw [hs]; exact Nat.le_refl _, Nat.zero_le _⟩
theorem ct_hit {b : UInt8} {A B : List UInt8} (h : b ∉ A) : ctA (strB (A ++ b :: B)) b = strB A ∧ ctB (strB (A ++ b :: B)) b = strB B := by unfold ctA ctB; rw [strB_list, cut_hit h]; exact ⟨rfl, rfl⟩
theorem imp_hit {a b c d : Int} {t r1 r2 c1 c2 c3 c4 : ByteArray} (h : slT a b c d = t) (e1 : ctA t 120 = c1) (e2 : ctB t 120 = r1) (e3 : ctA r1 47 = c2) (e4 : ctB r1 47 = r2) (e5 : ctA r2 32 = c3) (e6 : ctB r2 32 = c4) : c1 = strB (dS a) ∧ c2 = strB (dS b) ∧ c3 = strB (dS c) ∧ c4 = strB (dS d) := by
  rw [slT_list] at h
  subst h
  obtain ⟨f1, f2⟩ := ct_hit (B := dS b ++ 47 :: (dS c ++ 32 :: dS d)) (nb120 a)
  rw [f1] at e1
  rw [f2] at e2
  subst e1
  subst e2
  obtain ⟨f3, f4⟩ := ct_hit (B := dS c ++ 32 :: dS d) (nb47 b)
  rw [f3] at e3
  rw [f4] at e4
  subst e3
  subst e4
  obtain ⟨f5, f6⟩ := ct_hit (B := dS d) (nb32 c)
  rw [f5] at e5
  rw [f6] at e6
  exact ⟨rfl, rfl, e5.symm, e6.symm⟩
theorem rel_i {t r1 r2 c1 c2 c3 c4 : ByteArray} (e1 : ctA t 120 = c1) (e2 : ctB t 120 = r1) (e3 : ctA r1 47 = c2) (e4 : ctB r1 47 = r2) (e5 : ctA r2 32 = c3) (e6 : ctB r2 32 = c4)
    (h : ¬ ([c1, c2, c3, c4].all okS = true ∧ okSl (numS c1) (numS c2) (numS c3) (numS c4) = true ∧ slT (numS c1) (numS c2) (numS c3) (numS c4) = t)) : RdRel t 0 0 0 0 false := rel_no fun a b c d k e => h (by
  obtain ⟨ka, kb, kc, kd⟩ := okSl_sm k
  obtain ⟨rfl, rfl, rfl, rfl⟩ := imp_hit e e1 e2 e3 e4 e5 e6
  simp only [List.all_cons, List.all_nil]
  rw [(okS_of ka).1, (okS_of ka).2, (okS_of kb).1, (okS_of kb).2, (okS_of kc).1, (okS_of kc).2, (okS_of kd).1, (okS_of kd).2]
  exact ⟨rfl, k, e⟩)
/-- a struct of four integers is handed back, and whether -/
def RetRd (t : ByteArray) (w : World) (e : Ending) (w' : World) : Prop := ∃ (l p r m : Int) (ok : Bool), e = .returned (.tuple #[.agg #[.int .i64 l, .int .i64 p, .int .i64 r, .int .i64 m], .bool ok]) ∧ RdRel t l p r m ok ∧ Below w.heap.size w w'
theorem cut_is (s : ByteArray) (b : UInt8) (w : World) (hs : s.size ≤ 1048576) (hV : RVars w) {p q : ByteArray} {k : Bool} (hp : ctA s b = p) (hq : ctB s b = q) (hk : ctK s b = k) : Calls Tryd.prog 18 #[.string s, .string ⟨#[b]⟩] w fun e w' => e = .returned (.tuple #[.string p, .string q, .bool k]) ∧ Below w.heap.size w w' := by
  obtain ⟨⟨m, h1⟩, _⟩ := hV
  refine (strings_Cut s ⟨#[b]⟩ m w (by omega) h1).mono fun e w' ⟨he, n, hw⟩ => ⟨?_, by rw [hw]; exact gr_drewN (gr_refl w)⟩
  rw [he, ← hp, ← hq, ← hk]
  rfl
/-- block b is a struct of four integers -/
def Box4 (w : World) (b t : Nat) (x y z u : Int) : Prop := w.heap[b]? = some (.cells #[.int .i64 x, .int .i64 y, .int .i64 z, .int .i64 u] t (0, 0))
theorem Box4.lt {w : World} {b t : Nat} {x y z u : Int} (h : Box4 w b t x y z u) : b < w.heap.size := by
  rcases Nat.lt_or_ge b w.heap.size with hl | hg
  · exact hl
  · unfold Box4 at h; rw [Array.getElem?_eq_none hg] at h; cases h
theorem Box4.cs {w : World} {b t : Nat} {x y z u : Int} (h : Box4 w b t x y z u) : w.cell? ⟨b, 0, none⟩ = some (.int .i64 x) ∧ w.cell? ⟨b, 1, none⟩ = some (.int .i64 y) ∧ w.cell? ⟨b, 2, none⟩ = some (.int .i64 z) ∧ w.cell? ⟨b, 3, none⟩ = some (.int .i64 u) := by
  refine ⟨?_, ?_, ?_, ?_⟩ <;> (rw [cell_of_row _ _ _ _ _ _ h]; rfl)
theorem Box4.fr {w : World} {b t : Nat} {x y z u : Int} (h : Box4 w b t x y z u) (j : Nat) : w.frozen? ⟨b, j, none⟩ = false := by
  unfold Box4 at h
  simp [World.frozen?, h]
theorem Box4.late {w w' : World} {b t : Nat} {x y z u : Int} (h : Box4 w b t x y z u) (hb : Below w.heap.size w w') : Box4 w' b t x y z u := (hb.block b h.lt).trans h
theorem Box4.new (w : World) (t : Nat) (x y z u : Int) : Box4 (w.alloc (.cells #[.int .i64 x, .int .i64 y, .int .i64 z, .int .i64 u] t)) w.heap.size t x y z u := heap_alloc_new w _
theorem SV.of_four {y0 y1 y2 y3 : ByteArray} {t : Nat} (w : World) : SV .string (w.alloc (.cells #[.string y0, .string y1, .string y2, .string y3] t)) (w.heap.size + 1) (some ⟨w.heap.size, 0, none⟩) [y0, y1, y2, y3] := fun _ =>
  ⟨w.heap.size, 0, rfl, Nat.lt_succ_self _, fun j x hj => by
    have h9 := heap_alloc_new w (.cells #[.string y0, .string y1, .string y2, .string y3] t)
    have hj4 : j < 4 := by
      rcases Nat.lt_or_ge j 4 with h1 | h1
      · exact h1
      · rw [List.getElem?_eq_none (by simpa using h1)] at hj; cases hj
    match j, hj4, hj with
    | 0, _, hj => simp at hj; subst hj; rw [cell_of_row _ _ _ _ _ _ h9]; rfl
    | 1, _, hj => simp at hj; subst hj; rw [cell_of_row _ _ _ _ _ _ h9]; rfl
    | 2, _, hj => simp at hj; subst hj; rw [cell_of_row _ _ _ _ _ _ h9]; rfl
    | 3, _, hj => simp at hj; subst hj; rw [cell_of_row _ _ _ _ _ _ h9]; rfl⟩
end Go.Proofs.YtnmldhkcbekecaaDoor
