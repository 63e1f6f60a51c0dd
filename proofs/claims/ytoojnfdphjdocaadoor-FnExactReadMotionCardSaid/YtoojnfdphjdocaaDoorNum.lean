/- Decimal texts read as numbers: plain Lean. -/
import Derived.Test.YtoojnfdphjdocaaDoorDec
import Derived.Lib.ParseIntB
namespace Go.Proofs.YtoojnfdphjdocaaDoor
open Go.RowKit
def digOk (l : List UInt8) : Bool := l.all fun c => decide (48 ≤ c.toNat ∧ c.toNat ≤ 57)
def valD : Nat → List UInt8 → Nat
  | acc, [] => acc
  | acc, c :: r => valD (acc * 10 + (c.toNat - 48)) r
theorem valD_app : ∀ (a b : List UInt8) (acc : Nat), valD acc (a ++ b) = valD (valD acc a) b
  | [], _, _ => rfl
  | _ :: r, b, _ => valD_app r b _
theorem digOk_app (a b : List UInt8) : digOk (a ++ b) = (digOk a && digOk b) := by unfold digOk; rw [List.all_append]
theorem dgs_dig (u : Nat) : digOk (dgs u) = true := by
  by_cases h : u = 0
  · subst h; rw [dgs_zero]; rfl
  · rw [dgs_succ h, digOk_app, dgs_dig (u / 10)]
    unfold digOk
    simp only [List.all_cons, List.all_nil, Bool.and_true, Bool.true_and, decide_eq_true_eq, dgB_nat]
    omega
termination_by u
decreasing_by omega
theorem dgs_val (u : Nat) : valD 0 (dgs u) = u := by
  by_cases h : u = 0
  · subst h; rw [dgs_zero]; rfl
  · rw [dgs_succ h, valD_app, dgs_val (u / 10)]
    show u / 10 * 10 + ((dgB u).toNat - 48) = u
    rw [dgB_nat]
    omega
termination_by u
decreasing_by omega
/-- the digits of a number -/
def magN (n : Int) : List UInt8 := if n = 0 then [48] else dgs n.natAbs
theorem dS_mag (n : Int) : dS n = if n < 0 then 45 :: magN n else magN n := by
  unfold magN
  by_cases h0 : n = 0
  · subst h0; exact dS_zero
  · rw [if_neg h0]
    by_cases h1 : n < 0
    · rw [if_pos h1]
      have h := dS_neg (u := n.natAbs) (by omega)
      rwa [show -((n.natAbs : Nat) : Int) = n by omega] at h
    · rw [if_neg h1]
      have h := dS_pos (u := n.natAbs) (by omega)
      rwa [show ((n.natAbs : Nat) : Int) = n by omega] at h
theorem magN_dig (n : Int) : digOk (magN n) = true := by
  unfold magN
  split
  · rfl
  · exact dgs_dig _
theorem magN_val (n : Int) : valD 0 (magN n) = n.natAbs := by
  unfold magN
  split
  · rename_i h; subst h; rfl
  · exact dgs_val _
theorem magN_len {n : Int} (h : n.natAbs < 10 ^ 18) : 1 ≤ (magN n).length ∧ (magN n).length ≤ 18 := by
  unfold magN
  split
  · exact ⟨Nat.le_refl _, by simp⟩
  · rename_i h0
    exact ⟨dgs_ne (by omega), dgs_len 18 _ h⟩
/-- what stands behind a sign -/
def tlN : List UInt8 → List UInt8
  | [] => []
  | c :: r => if c = 45 then r else c :: r
theorem tlN_dS (n : Int) : tlN (dS n) = magN n := by
  rw [dS_mag]
  by_cases h : n < 0
  · rw [if_pos h]; rfl
  · rw [if_neg h]
    have hd := magN_dig n
    cases hm : magN n with
    | nil => rfl
    | cons c r =>
      rw [hm] at hd
      unfold digOk at hd
      simp only [List.all_cons, Bool.and_eq_true, decide_eq_true_eq] at hd
      show (if c = 45 then r else c :: r) = c :: r
      rw [if_neg]
      intro h9
      subst h9
      have : (45 : UInt8).toNat = 45 := rfl
      omega
/-- whether a sign stands at the head -/
def sgN : List UInt8 → Bool
  | [] => false
  | c :: _ => decide (c = 45)
theorem tlN_y {l : List UInt8} (h : sgN l = true) : l = 45 :: tlN l := by
  cases l with
  | nil => cases h
  | cons c r =>
    have : c = 45 := of_decide_eq_true h
    subst this; rfl
theorem tlN_n {l : List UInt8} (h : sgN l = false) : tlN l = l := by
  cases l with
  | nil => rfl
  | cons c r => exact if_neg (of_decide_eq_false h)
/-- the number that a text spells -/
def readS (l : List UInt8) : Int := if sgN l = true then -(valD 0 (tlN l) : Int) else (valD 0 (tlN l) : Int)
theorem sgN_dS (n : Int) : sgN (dS n) = decide (n < 0) := by
  have ht := tlN_dS n
  rw [dS_mag] at ht ⊢
  by_cases h : n < 0
  · rw [if_pos h]; rw [decide_eq_true h]; rfl
  · rw [if_neg h] at ht ⊢
    rw [decide_eq_false h]
    cases hs : sgN (magN n) with
    | false => rfl
    | true =>
      have h9 := tlN_y hs
      rw [ht] at h9
      have := congrArg List.length h9
      simp at this
theorem readS_dS (n : Int) : readS (dS n) = n := by
  unfold readS
  rw [sgN_dS, tlN_dS, magN_val]
  by_cases h : n < 0
  · rw [if_pos (decide_eq_true h)]; omega
  · rw [if_neg (by simpa using h)]; omega
theorem dS_inj {a b : Int} (h : dS a = dS b) : a = b := by rw [← readS_dS a, h, readS_dS]
/-- whether a text is the decimal form of a number of at most 18 digits -/
def okN (l : List UInt8) : Bool := decide (dS (readS l) = l) && decide ((readS l).natAbs < 10 ^ 18)
def numN (l : List UInt8) : Int := if okN l = true then readS l else 0
theorem okN_t {l : List UInt8} (h : okN l = true) : dS (numN l) = l ∧ (numN l).natAbs < 10 ^ 18 ∧ numN l = readS l := by
  unfold numN
  rw [if_pos h]
  unfold okN at h
  simp only [Bool.and_eq_true, decide_eq_true_eq] at h
  exact ⟨h.1, h.2, rfl⟩
theorem okN_dS {n : Int} (h : n.natAbs < 10 ^ 18) : okN (dS n) = true ∧ numN (dS n) = n := by
  have : okN (dS n) = true := by unfold okN; rw [readS_dS]; simp [h]
  exact ⟨this, by unfold numN; rw [if_pos this, readS_dS]⟩
theorem okN_tl {l : List UInt8} (h : okN l = true) : 1 ≤ (tlN l).length ∧ (tlN l).length ≤ 18 ∧ digOk (tlN l) = true := by
  obtain ⟨h1, h2, _⟩ := okN_t h
  rw [← h1, tlN_dS]
  exact ⟨(magN_len h2).1, (magN_len h2).2, magN_dig _⟩
theorem numN_f {l : List UInt8} (h : okN l = false) : numN l = 0 := if_neg (by rw [h]; decide)
theorem numN_bd (l : List UInt8) : -999999999999999999 ≤ numN l ∧ numN l ≤ 999999999999999999 := by
  cases h : okN l with
  | false => rw [numN_f h]; decide
  | true => have := (okN_t h).2.1; omega
theorem valD_lt : ∀ (l : List UInt8) (acc k : Nat), digOk l = true → acc < 10 ^ k → valD acc l < 10 ^ (k + l.length)
  | [], acc, k, _, h => h
  | c :: r, acc, k, hd, h => by
    unfold digOk at hd
    simp only [List.all_cons, Bool.and_eq_true, decide_eq_true_eq] at hd
    have := valD_lt r (acc * 10 + (c.toNat - 48)) (k + 1) hd.2 (by rw [Nat.pow_succ]; omega)
    rw [List.length_cons, show k + (r.length + 1) = k + 1 + r.length by omega]
    exact this
theorem valD_18 {l : List UInt8} (hd : digOk l = true) (hl : l.length ≤ 18) : valD 0 l < 10 ^ 18 := by
  have h := valD_lt l 0 0 hd (by decide)
  rw [Nat.zero_add] at h
  exact Nat.lt_of_lt_of_le h (Nat.pow_le_pow_right (by omega) hl)
theorem okN_of {l : List UInt8} (hd : digOk (tlN l) = true) (hl : (tlN l).length ≤ 18) : okN l = decide (dS (readS l) = l) := by
  have h := valD_18 hd hl
  have h2 : (readS l).natAbs < 10 ^ 18 := by
    unfold readS
    split <;> omega
  unfold okN
  rw [decide_eq_true h2, Bool.and_true]
theorem valD_ge : ∀ (l : List UInt8) (acc : Nat), acc ≤ valD acc l
  | [], _ => Nat.le_refl _
  | c :: r, acc => Nat.le_trans (by omega) (valD_ge r _)
theorem parseM_ok : ∀ (l : List UInt8) (acc : Nat), digOk l = true → valD acc l < 10 ^ 18 → Lib.parseUintM (2 ^ 64 - 1) acc l = .ok (valD acc l)
  | [], _, _, _ => rfl
  | c :: r, acc, hd, hv => by
    unfold digOk at hd
    simp only [List.all_cons, Bool.and_eq_true, decide_eq_true_eq] at hd
    have h1 := valD_ge r (acc * 10 + (c.toNat - 48))
    have hv2 : valD (acc * 10 + (c.toNat - 48)) r < 10 ^ 18 := hv
    unfold Lib.parseUintM
    rw [if_pos hd.1, if_neg (by omega), if_neg (by omega)]
    exact parseM_ok r _ hd.2 hv2
/-- a text that is no decimal form: the program's reading of it fails, or its number has another text -/
theorem parse_dS {n : Int} (h : n.natAbs < 10 ^ 18) : Lib.parseIntB 64 (dS n) = .ok n := by
  have hd := magN_dig n
  have hv := magN_val n
  have hu : Lib.parseUintB 64 (magN n) = .ok n.natAbs := by
    unfold Lib.parseUintB
    rw [if_neg (by intro h9; have := (magN_len h).1; rw [h9] at this; simp at this), parseM_ok _ _ hd (by rw [hv]; exact h), hv]
  have hm := dS_mag n
  by_cases hn : n < 0
  · rw [if_pos hn] at hm
    rw [hm]
    show (match Lib.parseUintB 64 (magN n) with | Lib.NumEnd.syntax => _ | Lib.NumEnd.range => _ | Lib.NumEnd.ok u => _) = _
    rw [hu]
    show (if ¬ (45 : UInt8).toNat = 45 ∧ 2 ^ (64 - 1) ≤ n.natAbs then Lib.NumEnd.range else if (45 : UInt8).toNat = 45 ∧ 2 ^ (64 - 1) < n.natAbs then .range else .ok (if (45 : UInt8).toNat = 45 then -(n.natAbs : Int) else n.natAbs)) = _
    rw [if_neg (fun h9 => h9.1 rfl), if_neg (by omega)]
    show Lib.NumEnd.ok (-(n.natAbs : Int)) = Lib.NumEnd.ok n
    congr 1
    omega
  · rw [if_neg hn] at hm
    rw [hm]
    cases hc : magN n with
    | nil => have := (magN_len h).1; rw [hc] at this; simp at this
    | cons c r =>
      have hd1 : 48 ≤ c.toNat ∧ c.toNat ≤ 57 := by
        rw [hc] at hd
        unfold digOk at hd
        simp only [List.all_cons, Bool.and_eq_true, decide_eq_true_eq] at hd
        exact hd.1
      show (match Lib.parseUintB 64 (if c.toNat = 43 ∨ c.toNat = 45 then r else c :: r) with | Lib.NumEnd.syntax => _ | Lib.NumEnd.range => _ | Lib.NumEnd.ok u => _) = _
      rw [if_neg (by omega), ← hc, hu]
      show (if ¬ c.toNat = 45 ∧ 2 ^ (64 - 1) ≤ n.natAbs then Lib.NumEnd.range else if c.toNat = 45 ∧ 2 ^ (64 - 1) < n.natAbs then .range else .ok (if c.toNat = 45 then -(n.natAbs : Int) else n.natAbs)) = _
      rw [if_neg (by omega), if_neg (by omega), if_neg (by omega)]
      congr 1
      omega
/-- the program's reading: a text of at most 18 digits that is the text of what is read -/
theorem okN_parse {l : List UInt8} {v : Int} (hl : (tlN l).length ≤ 18) (hp : Lib.parseIntB 64 l = .ok v) : okN l = decide (dS v = l) ∧ (okN l = true → numN l = v) := by
  cases h : okN l with
  | true =>
    obtain ⟨h1, h2, h3⟩ := okN_t h
    have h4 := parse_dS h2
    rw [h1, hp] at h4
    have h5 : v = numN l := by injection h4
    exact ⟨by rw [h5]; exact (decide_eq_true h1).symm, fun _ => h5.symm⟩
  | false =>
    refine ⟨?_, fun h9 => by cases h9⟩
    rw [decide_eq_false]
    intro h9
    have h2 : v.natAbs < 10 ^ 18 := by
      rw [← h9, tlN_dS] at hl
      rw [← magN_val v]
      exact valD_18 (magN_dig v) hl
    rw [← h9, (okN_dS h2).1] at h
    cases h
theorem okN_noparse {l : List UInt8} (hp : ∀ v, Lib.parseIntB 64 l ≠ .ok v) : okN l = false := by
  cases h : okN l with
  | false => rfl
  | true =>
    obtain ⟨h1, h2, _⟩ := okN_t h
    have h4 := parse_dS h2
    rw [h1] at h4
    exact absurd h4 (hp _)
/-- no byte of a decimal text but digits and the sign -/
theorem dS_bytes {n : Int} {c : UInt8} (h : c ∈ dS n) : c = 45 ∨ (48 ≤ c.toNat ∧ c.toNat ≤ 57) := by
  have hd := magN_dig n
  unfold digOk at hd
  rw [List.all_eq_true] at hd
  rw [dS_mag] at h
  by_cases hn : n < 0
  · rw [if_pos hn] at h
    rcases List.mem_cons.1 h with h | h
    · exact .inl h
    · exact .inr (of_decide_eq_true (hd c h))
  · rw [if_neg hn] at h
    exact .inr (of_decide_eq_true (hd c h))
end Go.Proofs.YtoojnfdphjdocaaDoor
