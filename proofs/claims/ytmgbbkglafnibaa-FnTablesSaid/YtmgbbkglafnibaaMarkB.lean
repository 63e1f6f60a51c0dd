/- Marks of bools. -/
import Derived.Test.YtmgbbkglafnibaaTR
import Derived.Test.YtmgbbkglafnibaaTab
namespace Go.Proofs.Ytmgbbkglafnibaa
open Go.RowKit Go.Deep
theorem keepcM {W w1 : World} {b o : Nat} {v : Value} (hb : Below W.heap.size W w1) (h : W.cell? ⟨b, o, none⟩ = some v) : w1.cell? ⟨b, o, none⟩ = some v :=
  (hb.cell (p := ⟨b, o, none⟩) (lt_of_cell h)).trans h
theorem SV.later {α : Type} {f : α → Value} {w w' : World} {A : Option Addr} {xs : List α} (h : SV f w w.heap.size A xs) (hb : Below w.heap.size w w') : SV f w' w'.heap.size A xs := (h.below hb).more hb.size
theorem TB.laterT {α : Type} {f : α → Value} {w w' : World} {A : Option Addr} {T : List (List α)} (h : TB f w w.heap.size A T) (hb : Below w.heap.size w w') : TB f w' w'.heap.size A T := (h.below hb).more hb.size
/-- the marks of bools from k on -/
def mkB (k : Int) (n : Nat) : List Bool := (List.range n).map fun j : Nat => decide ((k + (j : Int)) % 3 = 0)
theorem mkB_len (k : Int) (n : Nat) : (mkB k n).length = n := by simp [mkB]
theorem mkB_at {k : Int} {n j : Nat} (h : j < n) : (mkB k n)[j]? = some (decide ((k + (j : Int)) % 3 = 0)) := by simp [mkB, h]
theorem mkB_succ (k : Int) (n : Nat) : mkB k (n + 1) = mkB k n ++ [decide ((k + (n : Int)) % 3 = 0)] := by simp [mkB, List.range_succ]
theorem mkB_put {k : Int} {xs : List Bool} {j : Nat} (h : j < xs.length) : (mkB k j ++ xs.drop j).set j (decide ((k + (j : Int)) % 3 = 0)) = mkB k (j + 1) ++ xs.drop (j + 1) := by
  have hl := mkB_len k j
  rw [List.set_append_right _ _ (by omega), hl, Nat.sub_self, mkB_succ, List.append_assoc, List.drop_eq_getElem_cons h]
  rfl
theorem mkB_here {k : Int} {xs : List Bool} {j : Nat} {x : Bool} (h : xs[j]? = some x) : (mkB k j ++ xs.drop j)[j]? = some x := by
  have hl := mkB_len k j
  rw [List.getElem?_append_right (by omega), hl, Nat.sub_self, List.getElem?_drop, Nat.add_zero, h]
/-- how many values the first k rows hold -/
def sumT (T : List (List Bool)) : Nat → Nat
  | 0 => 0
  | k + 1 => sumT T k + (T.getD k []).length
theorem sumT_step {T : List (List Bool)} {k : Nat} {bs : List Bool} (h : T[k]? = some bs) : sumT T (k + 1) = sumT T k + bs.length := by
  show sumT T k + (T.getD k []).length = _
  rw [List.getD_eq_getElem?_getD, h]; rfl
/-- the first i rows marked -/
def mkT (k : Int) (T : List (List Bool)) (i : Nat) : List (List Bool) := (List.range T.length).map fun j => if j < i then mkB (k + sumT T j) (T.getD j []).length else T.getD j []
theorem mkT_len (k : Int) (T : List (List Bool)) (i : Nat) : (mkT k T i).length = T.length := by simp [mkT]
theorem mkT_at {k : Int} {T : List (List Bool)} {i j : Nat} {bs : List Bool} (h : T[j]? = some bs) : (mkT k T i)[j]? = some (if j < i then mkB (k + sumT T j) bs.length else bs) := by
  have hl := lt_of_at h
  unfold mkT
  rw [List.getElem?_map, List.getElem?_range hl]
  simp [List.getD_eq_getElem?_getD, h]
theorem mkT_zero (k : Int) (T : List (List Bool)) : mkT k T 0 = T := by
  apply List.ext_getElem?
  intro j
  by_cases hj : j < T.length
  · obtain ⟨bs, hb⟩ := at_of_lt hj
    rw [mkT_at hb, if_neg (by omega), hb]
  · rw [List.getElem?_eq_none (by rw [mkT_len]; omega), List.getElem?_eq_none (by omega)]
theorem mkT_set {k : Int} {T : List (List Bool)} {i : Nat} {bs : List Bool} (h : T[i]? = some bs) : (mkT k T i).set i (mkB (k + sumT T i) bs.length) = mkT k T (i + 1) := by
  apply List.ext_getElem?
  intro j
  by_cases hj : j < T.length
  · obtain ⟨bj, hb⟩ := at_of_lt hj
    rw [List.getElem?_set, mkT_len]
    by_cases e : i = j
    · subst e
      rw [h] at hb; cases hb
      rw [if_pos rfl, if_pos hj, mkT_at h, if_pos (by omega)]
    · rw [if_neg e, mkT_at hb, mkT_at hb]
      by_cases hlt : j < i
      · rw [if_pos hlt, if_pos (by omega)]
      · rw [if_neg hlt, if_neg (by omega)]
  · rw [List.getElem?_eq_none (by simp [mkT_len]; omega), List.getElem?_eq_none (by rw [mkT_len]; omega)]
set_option maxHeartbeats 2000000 in
theorem markBoolS_any (A : Option Addr) (c : Nat) (xs : List Bool) (k : Int) (lo hi : Nat) (w : World) (hn : xs.length ≤ 1048576) (hk : 0 ≤ k ∧ k ≤ 9007199254740992) (h : RS .bool 4 w lo hi A c xs) :
    Calls Try.prog 47 #[.slice A xs.length c, .int .i64 k] w fun e w' => e = .returned (.int .i64 (k + xs.length)) ∧ RS .bool 4 w' lo hi A c (mkB k xs.length) ∧ Only lo hi w w' := by
  have H := Lib.hid h
  clear h
  obtain ⟨n, hn'⟩ : ∃ n, xs.length = n := ⟨_, rfl⟩
  have HN := Lib.hid hn'
  rw [hn'] at hn ⊢
  clear hn'
  obtain ⟨hk0, hk1⟩ := hk
  go_enter Try.func47, Try.ntmps47
  go_wp2
  go_loopw [1, 5] (fun kv i wr => ∃ j : Nat, j ≤ n ∧ i = .int .i64 j ∧ kv = .int .i64 (k + (j : Int)) ∧ RS .bool 4 wr lo hi A c (mkB k j ++ xs.drop j) ∧ Only lo hi w wr) (fun _ i _ => n - (intOf i).toNat)
  case atStart => exact ⟨0, by omega, rfl, by simp, by simpa [mkB] using H.out, Only.refl _ _ _⟩
  case round =>
    obtain ⟨j, hj, rfl, rfl, hrs, hon⟩ := hrel
    by_cases hlt : j < n
    · obtain ⟨x, hx⟩ := at_of_lt (xs := xs) (k := j) (by rw [HN.out]; exact hlt)
      have hb : ((k + (j : Int)) % 3 == 0) = decide ((k + (j : Int)) % 3 = 0) := rfl
      obtain ⟨g, rfl, hg1, hg2, hc, hf, hrs2, hon2⟩ := hrs.put (mkB_here (k := k) hx) (decide ((k + (j : Int)) % 3 = 0))
      rw [mkB_put (by rw [HN.out]; exact hlt)] at hrs2
      have HR := Lib.hid hrs2
      have HO := Lib.hid (hon.trans hon2)
      clear hrs hon hrs2 hon2 hx hb
      go_wp2
      go_roundw
      case rel => exact ⟨j + 1, by omega, by go_num, by go_num, HR.out, HO.out⟩
      case measure => simp [intOf]; omega
    · obtain rfl : j = n := by omega
      have HR := Lib.hid hrs
      have HO := Lib.hid hon
      clear hrs hon
      go_wp2
      go_ret
      exact ⟨rfl, by have h := HR.out; rw [List.drop_of_length_le (by rw [HN.out]; omega), List.append_nil] at h; exact h, HO.out⟩
set_option maxHeartbeats 2000000 in
theorem markBoolSS_any (A : Option Addr) (c : Nat) (T : List (List Bool)) (k : Int) (lo hi : Nat) (w : World) (hz : Sizes T) (hk : 0 ≤ k ∧ k ≤ 1048576000) (h : TR .bool 4 49 w lo hi A c T) :
    Calls Try.prog 20 #[.slice A T.length c, .int .i64 k] w fun e w' => e = .returned (.int .i64 (k + sumT T T.length)) ∧ TR .bool 4 49 w' lo hi A c (mkT k T T.length) ∧ Only lo hi w w' := by
  have H := Lib.hid h
  clear h
  have hsum : ∀ j, j ≤ T.length → sumT T j ≤ 1048576 * j := by
    intro j
    induction j with
    | zero => intro _; exact Nat.le_refl _
    | succ j ih =>
      intro hj
      obtain ⟨bs, hb⟩ := at_of_lt (xs := T) (k := j) (by omega)
      rw [sumT_step hb]
      have := ih (by omega)
      have := hz.2 j bs hb
      omega
  have HS := Lib.hid hsum
  have HZ := Lib.hid hz
  obtain ⟨n, hn'⟩ : ∃ n, T.length = n := ⟨_, rfl⟩
  have HN := Lib.hid hn'
  have hn : n ≤ 1048576 := hn' ▸ hz.1
  rw [hn']
  clear hn' hz hsum
  obtain ⟨hk0, hk1⟩ := hk
  go_enter Try.func20, Try.ntmps20
  go_wp2
  go_loopw [1, 5] (fun kv i wr => ∃ j : Nat, j ≤ n ∧ i = .int .i64 j ∧ kv = .int .i64 (k + (sumT T j : Int)) ∧ TR .bool 4 49 wr lo hi A c (mkT k T j) ∧ Only lo hi w wr) (fun _ i _ => n - (intOf i).toNat)
  case atStart => exact ⟨0, by omega, rfl, by simp [sumT], by rw [mkT_zero]; exact H.out, Only.refl _ _ _⟩
  case round =>
    obtain ⟨j, hj, rfl, rfl, hrs, hon⟩ := hrel
    by_cases hlt : j < n
    · obtain ⟨bs, hbs⟩ := at_of_lt (xs := T) (k := j) (by rw [HN.out]; exact hlt)
      have hat : (mkT k T j)[j]? = some bs := by rw [mkT_at hbs, if_neg (by omega)]
      have hsj := HS.out j (by rw [HN.out]; exact hj)
      have hbl := HZ.out.2 j bs hbs
      obtain ⟨g, gk, ck, rfl, hc, hr, hl1, hl2, hset⟩ := hrs.row hat
      have HR := Lib.hid hr
      have HT := Lib.hid hset
      have HO := Lib.hid hon
      have HST := Lib.hid (sumT_step hbs)
      have HSET := Lib.hid (mkT_set (k := k) hbs)
      clear hrs hr hset hon hat hbs
      obtain ⟨S, hS⟩ : ∃ S, sumT T j = S := ⟨_, rfl⟩
      have HSS := Lib.hid hS
      rw [hS] at hsj ⊢
      clear hS
      go_wp2_with (go_at_call 47; (with_reducible refine (markBoolS_any _ _ bs (k + (S : Int)) gk (gk + 1) _ hbl (by constructor <;> omega) HR.out).mono ?_); rintro e w1 ⟨rfl, hr, ho⟩; have HR2 := Lib.hid hr; have HO2 := Lib.hid ho; clear hr ho)
      go_roundw
      case rel => exact ⟨j + 1, by omega, by go_num, by rw [HST.out, HSS.out]; go_num, by have h := HT.out w1 _ HO2.out HR2.out (mkB_len _ _); rw [← HSS.out, HSET.out] at h; exact h, HO.out.trans (HO2.out.wide hl1 (by omega))⟩
      case measure => simp [intOf]; omega
    · obtain rfl : j = n := by omega
      have HR := Lib.hid hrs
      have HO := Lib.hid hon
      clear hrs hon
      go_wp2
      go_ret
      exact ⟨rfl, HR.out, HO.out⟩
end Go.Proofs.Ytmgbbkglafnibaa
