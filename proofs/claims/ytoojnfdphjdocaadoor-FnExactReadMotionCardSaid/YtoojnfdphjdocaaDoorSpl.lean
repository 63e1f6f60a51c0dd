/- Texts split at a byte: plain Lean. -/
import Derived.Test.YtoojnfdphjdocaaDoorNum
import Derived.Lib.CutLaws
namespace Go.Proofs.YtoojnfdphjdocaaDoor
open Go.RowKit
def splGo (b : UInt8) : List UInt8 → List UInt8 → List (List UInt8)
  | cur, [] => [cur]
  | cur, c :: r => if c = b then cur :: splGo b [] r else splGo b (cur ++ [c]) r
theorem splGo_none {b : UInt8} : ∀ (l cur : List UInt8), b ∉ l → splGo b cur l = [cur ++ l]
  | [], cur, _ => by rw [List.append_nil]; rfl
  | c :: r, cur, h => by
    have h1 : ¬ c = b := fun h9 => h (by rw [h9]; exact List.mem_cons_self)
    have h2 : b ∉ r := fun h9 => h (List.mem_cons_of_mem _ h9)
    show (if c = b then _ else splGo b (cur ++ [c]) r) = _
    rw [if_neg h1, splGo_none r _ h2, List.append_assoc]
    rfl
theorem splGo_hit {b : UInt8} (r : List UInt8) : ∀ (l cur : List UInt8), b ∉ l → splGo b cur (l ++ b :: r) = (cur ++ l) :: splGo b [] r
  | [], cur, _ => by
    show (if b = b then _ else _) = _
    rw [if_pos rfl, List.append_nil]
  | c :: l, cur, h => by
    have h1 : ¬ c = b := fun h9 => h (by rw [h9]; exact List.mem_cons_self)
    have h2 : b ∉ l := fun h9 => h (List.mem_cons_of_mem _ h9)
    show (if c = b then _ else splGo b (cur ++ [c]) (l ++ b :: r)) = _
    rw [if_neg h1, splGo_hit r l _ h2, List.append_assoc]
    rfl
/-- just two parts -/
theorem splGo_two {b : UInt8} {l : List UInt8} (h : (splGo b [] l).length = 2) : ∃ A B, l = A ++ b :: B ∧ b ∉ A ∧ b ∉ B ∧ splGo b [] l = [A, B] := by
  by_cases hb : b ∈ l
  · obtain ⟨A, r, e, hA⟩ := List.eq_append_cons_of_mem hb
    subst e
    rw [splGo_hit r A [] hA, List.nil_append] at h
    by_cases hr : b ∈ r
    · obtain ⟨A', r', e, hA'⟩ := List.eq_append_cons_of_mem hr
      subst e
      rw [splGo_hit r' A' [] hA'] at h
      have : 1 ≤ (splGo b [] r').length := by
        by_cases h9 : b ∈ r'
        · obtain ⟨A2, r2, e, hA2⟩ := List.eq_append_cons_of_mem h9
          subst e
          rw [splGo_hit r2 A2 [] hA2]
          simp
        · rw [splGo_none r' [] h9]; simp
      simp only [List.length_cons] at h
      omega
    · exact ⟨A, r, rfl, hA, hr, by rw [splGo_hit r A [] hA, splGo_none r [] hr]; rfl⟩
  · rw [splGo_none l [] hb] at h
    simp at h
theorem splGo_of {b : UInt8} {A B : List UInt8} (hA : b ∉ A) (hB : b ∉ B) : splGo b [] (A ++ b :: B) = [A, B] := by
  rw [splGo_hit B A [] hA, splGo_none B [] hB]; rfl
/-- the byte at k -/
def atB (s : ByteArray) (k : Nat) : UInt8 := s.data.toList.getD k 0
theorem atB_eq {s : ByteArray} {k : Nat} (h : k < s.size) : s[k] = atB s k := by
  unfold atB
  rw [List.getD_eq_getElem?_getD, List.getElem?_eq_getElem (show k < s.data.toList.length by rw [← Lib.size_eq]; exact h)]
  rfl
/-- the parts of a text between bytes, as the loop makes them -/
def frB (s : ByteArray) (b : UInt8) : Nat → Nat
  | 0 => 0
  | k + 1 => if atB s k = b then k + 1 else frB s b k
def ptB (s : ByteArray) (b : UInt8) : Nat → List ByteArray
  | 0 => []
  | k + 1 => if atB s k = b then ptB s b k ++ [s.extract (frB s b k) k] else ptB s b k
def splB (s : ByteArray) (b : UInt8) : List ByteArray := ptB s b s.size ++ [s.extract (frB s b s.size) s.size]
theorem frB_le (s : ByteArray) (b : UInt8) : ∀ k, frB s b k ≤ k
  | 0 => Nat.le_refl _
  | k + 1 => by
    have := frB_le s b k
    unfold frB
    split <;> omega
theorem ptB_len (s : ByteArray) (b : UInt8) : ∀ k, (ptB s b k).length ≤ k
  | 0 => Nat.le_refl _
  | k + 1 => by
    have := ptB_len s b k
    unfold ptB
    split
    · simp; omega
    · omega
theorem ext_eq (s : ByteArray) (i k : Nat) : s.extract i k = strB ((s.data.toList.drop i).take (k - i)) := Lib.extract_eq s i k
theorem ptB_go (s : ByteArray) (b : UInt8) : ∀ k, k ≤ s.size → ptB s b k ++ (splGo b ((s.data.toList.drop (frB s b k)).take (k - frB s b k)) (s.data.toList.drop k)).map strB = (splGo b [] s.data.toList).map strB
  | 0, _ => by simp [ptB, frB]
  | k + 1, h => by
    have ih := ptB_go s b k (by omega)
    have hf := frB_le s b k
    have hl : k < s.data.toList.length := by rw [← Lib.size_eq]; omega
    have hc : s.data.toList.drop k = atB s k :: s.data.toList.drop (k + 1) := by
      rw [List.drop_eq_getElem_cons hl]
      unfold atB
      rw [List.getD_eq_getElem?_getD, List.getElem?_eq_getElem hl]
      rfl
    rw [hc] at ih
    rw [← ih]
    by_cases hb : atB s k = b
    · rw [show ptB s b (k + 1) = ptB s b k ++ [s.extract (frB s b k) k] from if_pos hb, show frB s b (k + 1) = k + 1 from if_pos hb, show splGo b ((s.data.toList.drop (frB s b k)).take (k - frB s b k)) (atB s k :: s.data.toList.drop (k + 1)) = (s.data.toList.drop (frB s b k)).take (k - frB s b k) :: splGo b [] (s.data.toList.drop (k + 1)) from if_pos hb, ext_eq]
      simp
    · rw [show ptB s b (k + 1) = ptB s b k from if_neg hb, show frB s b (k + 1) = frB s b k from if_neg hb, show splGo b ((s.data.toList.drop (frB s b k)).take (k - frB s b k)) (atB s k :: s.data.toList.drop (k + 1)) = splGo b ((s.data.toList.drop (frB s b k)).take (k - frB s b k) ++ [atB s k]) (s.data.toList.drop (k + 1)) from if_neg hb]
      have e : (s.data.toList.drop (frB s b k)).take (k + 1 - frB s b k) = (s.data.toList.drop (frB s b k)).take (k - frB s b k) ++ [atB s k] := by
        rw [show k + 1 - frB s b k = (k - frB s b k) + 1 by omega, List.take_add_one, List.getElem?_drop, show frB s b k + (k - frB s b k) = k by omega]
        congr 1
        unfold atB
        rw [List.getD_eq_getElem?_getD, List.getElem?_eq_getElem hl]
        rfl
      rw [e]
theorem splB_eq (s : ByteArray) (b : UInt8) : splB s b = (splGo b [] s.data.toList).map strB := by
  have hd : s.data.toList.drop s.size = [] := List.drop_of_length_le (by rw [Lib.size_eq]; exact Nat.le_refl _)
  rw [← ptB_go s b s.size (Nat.le_refl _), hd]
  unfold splB
  rw [ext_eq]
  rfl
theorem strB_list (l : List UInt8) : (strB l).data.toList = l := by simp [strB]
theorem strB_of (s : ByteArray) : strB s.data.toList = s := by
  apply ByteArray.ext
  simp [strB]
theorem splB_of {b : UInt8} {A B : List UInt8} (hA : b ∉ A) (hB : b ∉ B) : splB (strB (A ++ b :: B)) b = [strB A, strB B] := by
  rw [splB_eq, strB_list, splGo_of hA hB]; rfl
theorem splB_two {s : ByteArray} {b : UInt8} (h : (splB s b).length = 2) : ∃ A B, s = strB (A ++ b :: B) ∧ b ∉ A ∧ b ∉ B ∧ splB s b = [strB A, strB B] := by
  rw [splB_eq, List.length_map] at h
  obtain ⟨A, B, e, hA, hB, e2⟩ := splGo_two h
  refine ⟨A, B, by rw [← e, strB_of], hA, hB, ?_⟩
  rw [splB_eq, e2]; rfl
/-- the first place of a byte -/
theorem index_hit {b : UInt8} (r : List UInt8) : ∀ (l : List UInt8), b ∉ l → Lib.index (l ++ b :: r) [b] = l.length
  | [], _ => by
    show (if ([b] : List UInt8).isPrefixOf (b :: r) then (0 : Int) else _) = _
    rw [if_pos (by simp [List.isPrefixOf])]
    rfl
  | c :: l, h => by
    have h1 : ¬ b = c := fun h9 => h (by rw [h9]; exact List.mem_cons_self)
    have h2 : b ∉ l := fun h9 => h (List.mem_cons_of_mem _ h9)
    have ih := index_hit r l h2
    show (if ([b] : List UInt8).isPrefixOf (c :: (l ++ b :: r)) then (0 : Int) else if Lib.index (l ++ b :: r) [b] == -1 then -1 else Lib.index (l ++ b :: r) [b] + 1) = _
    rw [if_neg (by simp [List.isPrefixOf, h1]), ih, if_neg (by rw [beq_iff_eq]; omega)]
    simp
theorem cut_hit {b : UInt8} {l r : List UInt8} (h : b ∉ l) : Lib.cut (l ++ b :: r) [b] = (l, r, true) := by
  unfold Lib.cut
  rw [index_hit r l h, if_pos (by omega), Int.toNat_natCast, List.take_left]
  simp
end Go.Proofs.YtoojnfdphjdocaaDoor
