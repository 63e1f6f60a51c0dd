/- What both readers of motions hand back: the plain part. -/
import Derived.Test.YtoojnfdphjdocaaDoorRdI
import Derived.Test.YtoojnfdphjdocaaDoorMtT
namespace Go.Proofs.YtoojnfdphjdocaaDoor
open Go.RowKit Go.Deep
theorem nbS (n : Int) (b : UInt8) (h1 : ¬ b = 45) (h2 : ¬ (48 ≤ b.toNat ∧ b.toNat ≤ 57)) : b ∉ dS n := fun h => by rcases dS_bytes h with h | h; exact h1 h; exact h2 h
theorem nb58 (n : Int) : (58 : UInt8) ∉ dS n := nbS n 58 (by decide) (by decide)
theorem strB_inj {a b : List UInt8} (h : strB a = strB b) : a = b := (strB_list a).symm.trans ((congrArg (fun s => s.data.toList) h).trans (strB_list b))
theorem cut_eq {b : UInt8} {A B A' B' : List UInt8} (hA : b ∉ A) (hA' : b ∉ A') (h : A ++ b :: B = A' ++ b :: B') : A = A' ∧ B = B' := by
  have h9 := (cut_hit (r := B) hA).symm.trans ((congrArg (fun l => Lib.cut l [b]) h).trans (cut_hit (r := B') hA'))
  simp only [Prod.mk.injEq, and_true] at h9
  exact h9
theorem okS_of {n : Int} (h : n.natAbs < 10 ^ 18) : okS (strB (dS n)) = true ∧ numS (strB (dS n)) = n := by unfold okS numS; rw [strB_list]; exact okN_dS h
theorem okS_dS {l : List UInt8} (h : okS (strB l) = true) : dS (numS (strB l)) = l := by unfold okS at h; unfold numS; rw [strB_list] at *; exact (okN_t h).1
theorem two_of {α : Type} {L : List α} (h : L.length = 2) : ∃ x y, L = [x, y] := by
  match L, h with
  | [x, y], _ => exact ⟨x, y, rfl⟩
theorem two_inj {α : Type} {a b c d : α} (h : [a, b] = [c, d]) : a = c ∧ b = d := by
  injection h with h1 h2
  injection h2 with h2 _
  exact ⟨h1, h2⟩
theorem two_size {s x y : ByteArray} {b : UInt8} (h : splB s b = [x, y]) : x.size ≤ s.size ∧ y.size ≤ s.size := by
  obtain ⟨A, B, e, _, _, e2⟩ := splB_two (s := s) (b := b) (by rw [h]; rfl)
  obtain ⟨rfl, rfl⟩ := two_inj (h.symm.trans e2)
  subst e
  simp only [strB_size, List.length_append, List.length_cons]
  omega
/-- the step of a sign -/
def dec1 (c : UInt8) : Int := if c = 45 then -1 else if c = 48 then 0 else if c = 43 then 1 else -2
theorem dec_sgn {x : Int} (h : x = -1 ∨ x = 0 ∨ x = 1) : dec1 (sgn x) = x := by rcases h with rfl | rfl | rfl <;> decide
theorem sgn_dec {c : UInt8} (h : dec1 c ≠ -2) : sgn (dec1 c) = c := by
  unfold dec1 at h ⊢
  by_cases h1 : c = 45
  · subst h1; decide
  by_cases h2 : c = 48
  · subst h2; decide
  by_cases h3 : c = 43
  · subst h3; decide
  · simp [h1, h2, h3] at h
theorem dec_list {xs : List Int} (h : ∀ (j : Nat) x, xs[j]? = some x → x = -1 ∨ x = 0 ∨ x = 1) : (xs.map sgn).map dec1 = xs := by
  rw [List.map_map]
  refine (List.map_congr_left (g := id) fun x hx => ?_).trans (List.map_id xs)
  obtain ⟨j, hj⟩ := List.getElem?_of_mem hx
  exact dec_sgn (h j x hj)
theorem sgn_list {l : List UInt8} (h : ∀ c ∈ l, dec1 c ≠ -2) : (l.map dec1).map sgn = l := by
  rw [List.map_map]
  exact (List.map_congr_left (g := id) fun c hc => sgn_dec (h c hc)).trans (List.map_id l)
theorem sgn_58 (xs : List Int) : (58 : UInt8) ∉ xs.map sgn := fun h => by
  obtain ⟨x, _, hx⟩ := List.mem_map.1 h
  unfold sgn at hx
  split at hx
  · exact absurd hx (by decide)
  · split at hx <;> exact absurd hx (by decide)
/-- the steps of a text of signs -/
def stps (s : ByteArray) : List Int := s.data.toList.map dec1
theorem stps_len (s : ByteArray) : (stps s).length = s.size := by unfold stps; rw [List.length_map]; rfl
theorem stp_take {s : ByteArray} {k : Nat} (h : k < s.size) : (stps s).take (k + 1) = (stps s).take k ++ [dec1 (s[k]'h)] := by
  unfold stps
  rw [← List.map_take, take_at h, List.map_append, List.map_take]
  rfl
theorem dec_of {u : UInt8} {x : Int} (h : (u.toNat : Int) = x) : (x = 43 → dec1 u = 1) ∧ (x = 45 → dec1 u = -1) ∧ (x = 48 → dec1 u = 0) ∧ (¬ x = 43 → ¬ x = 45 → ¬ x = 48 → dec1 u = -2) := by
  have key : ∀ v : UInt8, u = v ↔ x = (v.toNat : Int) := fun v => ⟨fun e => by rw [← h, e], fun e => UInt8.toNat_inj.1 (by omega)⟩
  have k1 := key 43
  have k2 := key 45
  have k3 := key 48
  have e1 : ((43 : UInt8).toNat : Int) = 43 := by decide
  have e2 : ((45 : UInt8).toNat : Int) = 45 := by decide
  have e3 : ((48 : UInt8).toNat : Int) = 48 := by decide
  rw [e1] at k1
  rw [e2] at k2
  rw [e3] at k3
  refine ⟨fun e => ?_, fun e => ?_, fun e => ?_, fun a b c => ?_⟩
  · rw [k1.2 e]; decide
  · rw [k2.2 e]; decide
  · rw [k3.2 e]; decide
  · unfold dec1
    rw [if_neg (fun e => b (k2.1 e)), if_neg (fun e => c (k3.1 e)), if_neg (fun e => a (k1.1 e))]
theorem dec_bd (u : UInt8) : -2 ≤ dec1 u ∧ dec1 u ≤ 1 := by
  unfold dec1
  split
  · omega
  split
  · omega
  split <;> omega
theorem ib_dec (c : UInt8) : Lib.indexByte [45, 48, 43] c = dec1 c + 1 := by
  unfold dec1
  by_cases h1 : c = 45
  · subst h1; decide
  by_cases h2 : c = 48
  · subst h2; decide
  by_cases h3 : c = 43
  · subst h3; decide
  · simp [Lib.indexByte, h1, h2, h3, Ne.symm h1, Ne.symm h2, Ne.symm h3]
theorem at_mem {s : ByteArray} {k : Nat} (h : k < s.size) : (s[k]'h) ∈ s.data.toList := by
  have h9 := take_at h
  exact List.mem_of_mem_take (i := k + 1) (by rw [h9]; simp)
theorem stps_sgn {xs : List Int} (h : ∀ (j : Nat) x, xs[j]? = some x → x = -1 ∨ x = 0 ∨ x = 1) : stps (strB (xs.map sgn)) = xs := by unfold stps; rw [strB_list]; exact dec_list h
theorem mt_list (s : Int) (xs : List Int) : mtT s xs = dS s ++ 58 :: xs.map sgn := by unfold mtT; simp
theorem okM_sm {s : Int} {xs : List Int} (h : okM s xs = true) : s.natAbs < 10 ^ 18 := by have := (okM_t h).1; omega
theorem okM_bad {s : Int} {l : List UInt8} {c : UInt8} (hc : c ∈ l) (h : dec1 c = -2) : okM s (l.map dec1) = false := by
  rw [Bool.eq_false_iff]
  intro h9
  obtain ⟨j, hj⟩ := List.getElem?_of_mem (List.mem_map.2 ⟨c, hc, rfl⟩ : dec1 c ∈ l.map dec1)
  have := (okM_t h9).2.2 j _ hj
  omega
/-- what is read of a text -/
def RelM (t : ByteArray) (s : Int) (xs : List Int) (ok : Bool) : Prop := (ok = true → okM s xs = true ∧ strB (mtT s xs) = t) ∧ (ok = false → s = 0 ∧ xs = [] ∧ ∀ a ys, okM a ys = true → strB (mtT a ys) ≠ t)
theorem mt_inj {s s' : Int} {xs xs' : List Int} (h1 : okM s xs = true) (h2 : okM s' xs' = true) (h : strB (mtT s xs) = strB (mtT s' xs')) : s = s' ∧ xs = xs' := by
  rw [mt_list, mt_list] at h
  obtain ⟨e1, e2⟩ := cut_eq (nb58 _) (nb58 _) (strB_inj h)
  exact ⟨dS_inj e1, (dec_list (okM_t h1).2.2).symm.trans ((congrArg (List.map dec1) e2).trans (dec_list (okM_t h2).2.2))⟩
theorem RelM.same {t : ByteArray} {s s' : Int} {xs xs' : List Int} {ok ok' : Bool} (h : RelM t s xs ok) (h' : RelM t s' xs' ok') : s' = s ∧ xs' = xs ∧ ok' = ok := by
  cases ok with
  | true =>
    obtain ⟨k1, k2⟩ := h.1 rfl
    cases ok' with
    | true =>
      obtain ⟨j1, j2⟩ := h'.1 rfl
      obtain ⟨e1, e2⟩ := mt_inj j1 k1 (j2.trans k2.symm)
      exact ⟨e1, e2, rfl⟩
    | false => exact absurd k2 ((h'.2 rfl).2.2 _ _ k1)
  | false =>
    obtain ⟨k1, k2, k3⟩ := h.2 rfl
    cases ok' with
    | true =>
      obtain ⟨j1, j2⟩ := h'.1 rfl
      exact absurd j2 (k3 _ _ j1)
    | false =>
      obtain ⟨j1, j2, _⟩ := h'.2 rfl
      exact ⟨j1.trans k1.symm, j2.trans k2.symm, rfl⟩
theorem rel_no {t : ByteArray} (h : ∀ a ys, okM a ys = true → strB (mtT a ys) ≠ t) : RelM t 0 [] false := ⟨(fun h => by cases h), fun _ => ⟨rfl, rfl, h⟩⟩
theorem rel_yes {t : ByteArray} {s : Int} {xs : List Int} (h : okM s xs = true) (h2 : strB (mtT s xs) = t) : RelM t s xs true := ⟨fun _ => ⟨h, h2⟩, fun h => by cases h⟩
theorem rel_ex (t : ByteArray) : ∃ s xs ok, RelM t s xs ok := by
  by_cases h : ∃ s xs, okM s xs = true ∧ strB (mtT s xs) = t
  · obtain ⟨s, xs, h1, h2⟩ := h
    exact ⟨s, xs, true, rel_yes h1 h2⟩
  · exact ⟨0, [], false, rel_no fun a ys h1 h2 => h ⟨a, ys, h1, h2⟩⟩
theorem RelM.len {t : ByteArray} {s : Int} {xs : List Int} {ok : Bool} (h : RelM t s xs ok) : xs.length ≤ 1048576 := by
  cases ok with
  | true => have := (okM_t (h.1 rfl).1).2.1; omega
  | false => rw [(h.2 rfl).2.1]; exact Nat.zero_le _
theorem spl_m {s : Int} {xs : List Int} {t : ByteArray} (h : strB (mtT s xs) = t) : splB t 58 = [strB (dS s), strB (xs.map sgn)] := by
  rw [← h, mt_list]
  exact splB_of (nb58 _) (sgn_58 _)
theorem rm_n1 {t : ByteArray} (h : ¬ (splB t 58).length = 2) : RelM t 0 [] false := rel_no fun a ys _ e => h (by rw [spl_m e]; rfl)
theorem rm_n2 {t x0 x1 : ByteArray} (h1 : splB t 58 = [x0, x1]) (h : ¬ (okS x0 = true ∧ okM (numS x0) (stps x1) = true)) : RelM t 0 [] false := rel_no fun a ys k e => h (by
  obtain ⟨rfl, rfl⟩ := two_inj (h1.symm.trans (spl_m e))
  rw [(okS_of (okM_sm k)).1, (okS_of (okM_sm k)).2, stps_sgn (okM_t k).2.2]
  exact ⟨rfl, k⟩)
theorem rm_bad {t x0 x1 : ByteArray} (h1 : splB t 58 = [x0, x1]) {c : UInt8} (hc : c ∈ x1.data.toList) (h : dec1 c = -2) : RelM t 0 [] false := rm_n2 h1 fun h9 => by
  have := okM_bad (s := numS x0) hc h
  exact Bool.noConfusion (this.symm.trans h9.2)
theorem rm_mem {s : Int} {l : List UInt8} (h : okM s (l.map dec1) = true) (c : UInt8) (hc : c ∈ l) : dec1 c ≠ -2 := fun h9 => Bool.noConfusion ((okM_bad (s := s) hc h9).symm.trans h)
theorem rm_t {t x0 x1 : ByteArray} (h1 : splB t 58 = [x0, x1]) (k0 : okS x0 = true) (k1 : okM (numS x0) (stps x1) = true) : RelM t (numS x0) (stps x1) true := by
  refine rel_yes k1 ?_
  obtain ⟨A, B, e0, hA, hB, e⟩ := splB_two (s := t) (b := 58) (by rw [h1]; rfl)
  rw [h1] at e
  obtain ⟨rfl, rfl⟩ := two_inj e
  unfold stps at k1 ⊢
  rw [strB_list] at k1 ⊢
  rw [mt_list, okS_dS k0, sgn_list (rm_mem k1), e0]
/-- a text cut at a byte -/
def ctA (s : ByteArray) (b : UInt8) : ByteArray := strB (Lib.cut s.data.toList [b]).1
def ctB (s : ByteArray) (b : UInt8) : ByteArray := strB (Lib.cut s.data.toList [b]).2.1
def ctK (s : ByteArray) (b : UInt8) : Bool := (Lib.cut s.data.toList [b]).2.2
theorem ct_size (s : ByteArray) (b : UInt8) : (ctA s b).size ≤ s.size ∧ (ctB s b).size ≤ s.size := by
  unfold ctA ctB
  rw [strB_size, strB_size]
  have hs : s.data.toList.length = s.size := rfl
  unfold Lib.cut
  split
  · simp only [List.length_take, List.length_drop]; omega
  · exact ⟨by rw [hs]; exact Nat.le_refl _, Nat.zero_le _⟩
theorem ct_hit {b : UInt8} {A B : List UInt8} (h : b ∉ A) : ctA (strB (A ++ b :: B)) b = strB A ∧ ctB (strB (A ++ b :: B)) b = strB B := by unfold ctA ctB; rw [strB_list, cut_hit h]; exact ⟨rfl, rfl⟩
theorem rel_i {t c1 c2 : ByteArray} (e1 : ctA t 58 = c1) (e2 : ctB t 58 = c2) (h : ¬ (okS c1 = true ∧ okM (numS c1) (stps c2) = true ∧ strB (mtT (numS c1) (stps c2)) = t)) : RelM t 0 [] false := rel_no fun a ys k e => h (by
  obtain ⟨f1, f2⟩ := ct_hit (B := ys.map sgn) (nb58 a)
  rw [← e, mt_list] at e1 e2
  rw [f1] at e1
  rw [f2] at e2
  subst e1
  subst e2
  rw [(okS_of (okM_sm k)).1, (okS_of (okM_sm k)).2, stps_sgn (okM_t k).2.2]
  exact ⟨rfl, k, e⟩)
/-- a motion is handed back, and whether -/
def RetMB (s : Int) (xs : List Int) (ok : Bool) (w : World) (e : Ending) (w' : World) : Prop := ∃ (B : Option Addr) (d : Nat), e = .returned (.tuple #[.agg #[.int .i64 s, .slice B xs.length d], .bool ok]) ∧ RS (.int .i64) 2 w' w.heap.size w'.heap.size B d xs ∧ Below w.heap.size w w'
def RetRm (t : ByteArray) (w : World) (e : Ending) (w' : World) : Prop := ∃ (s : Int) (xs : List Int) (ok : Bool), RelM t s xs ok ∧ RetMB s xs ok w e w'
theorem rm_is {P : Program} {f : FuncId} {t : ByteArray} {w : World} {s : Int} {xs : List Int} {ok : Bool} (h : RelM t s xs ok) (c : Calls P f #[.string t] w (RetRm t w)) : Calls P f #[.string t] w (RetMB s xs ok w) := c.mono fun e w' ⟨s', xs', ok', hr, hm⟩ => by
  obtain ⟨rfl, rfl, rfl⟩ := h.same hr
  exact hm
theorem cut_is (s : ByteArray) (b : UInt8) (w : World) (hs : s.size ≤ 1048576) (hV : RVars w) {p q : ByteArray} {k : Bool} (hp : ctA s b = p) (hq : ctB s b = q) (hk : ctK s b = k) : Calls Tryd.prog 26 #[.string s, .string ⟨#[b]⟩] w fun e w' => e = .returned (.tuple #[.string p, .string q, .bool k]) ∧ Below w.heap.size w w' := by
  obtain ⟨⟨m, h1⟩, _⟩ := hV
  refine (strings_Cut s ⟨#[b]⟩ m w (by omega) h1).mono fun e w' ⟨he, n, hw⟩ => ⟨?_, by rw [hw]; exact gr_drewN (gr_refl w)⟩
  rw [he, ← hp, ← hq, ← hk]
  rfl
theorem number_is (s : ByteArray) (w : World) (hs : s.size ≤ 1048576) {V : Int} {R : Bool} (hV : numS s = V) (hR : okS s = R) : Calls Tryd.prog 25 #[.string s] w fun e w' => e = .returned (.tuple #[.int .i64 V, .bool R]) ∧ Below w.heap.size w w' := by rw [← hV, ← hR]; exact number_any s w hs
theorem dec_is (s : ByteArray) (w : World) (hs : s.size ≤ 1048576) (hV' : RVars w) {V : Int} {R : Bool} (hV : numS s = V) (hR : okS s = R) : Calls Tryd.prog 27 #[.string s] w fun e w' => e = .returned (.tuple #[.int .i64 V, .bool R]) ∧ Below w.heap.size w w' := by rw [← hV, ← hR]; exact readDec_any s w hs hV'
end Go.Proofs.YtoojnfdphjdocaaDoor
