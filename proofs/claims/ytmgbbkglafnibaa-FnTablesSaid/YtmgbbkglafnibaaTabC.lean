/- FreeDirections and BlockedDirections, both sides. -/
import Derived.Test.YtmgbbkglafnibaaTabB
import Derived.Test.YtmgbbkglafnibaaMarkB
import Derived.Test.YtmgbbkglafnibaaInts
namespace Go.Proofs.Ytmgbbkglafnibaa
open Go.RowKit
/-- the places below k where a row is false -/
def fr (bs : List Bool) : Nat → List Int
  | 0 => []
  | k + 1 => fr bs k ++ (if bs.getD k false = true then [] else [(k : Int)])
theorem fr_step {bs : List Bool} {k : Nat} {x : Bool} (h : bs[k]? = some x) : fr bs (k + 1) = fr bs k ++ (if x = true then [] else [(k : Int)]) := by
  show fr bs k ++ (if bs.getD k false = true then [] else [(k : Int)]) = _
  rw [List.getD_eq_getElem?_getD, h]; rfl
theorem fr_len (bs : List Bool) : ∀ k, (fr bs k).length ≤ k
  | 0 => Nat.le_refl _
  | k + 1 => by
    have := fr_len bs k
    show (fr bs k ++ (if bs.getD k false = true then [] else [(k : Int)])).length ≤ k + 1
    split <;> simp <;> omega
def fdC (T : List (List Bool)) (d : Int) : Int := if okT T = false then 8 else if inI d 0 23 = false then 2 else 0
def fdX (T : List (List Bool)) (d : Int) : List Int := if okT T = false then [] else if inI d 0 23 = false then [] else fr (T.getD d.toNat []) 24
theorem fdX_len (T : List (List Bool)) (d : Int) : (fdX T d).length ≤ 24 := by
  unfold fdX
  split
  · simp
  split
  · simp
  · exact fr_len _ _
/-- the places below k of rows that are all true -/
def blk (T : List (List Bool)) : Nat → List Int
  | 0 => []
  | k + 1 => blk T k ++ (if (T.getD k []).all id = true then [(k : Int)] else [])
theorem blk_step {T : List (List Bool)} {k : Nat} {bs : List Bool} (h : T[k]? = some bs) : blk T (k + 1) = blk T k ++ (if bs.all id = true then [(k : Int)] else []) := by
  show blk T k ++ (if (T.getD k []).all id = true then [(k : Int)] else []) = _
  rw [List.getD_eq_getElem?_getD, h]; rfl
theorem blk_len (T : List (List Bool)) : ∀ k, (blk T k).length ≤ k
  | 0 => Nat.le_refl _
  | k + 1 => by
    have := blk_len T k
    show (blk T k ++ (if (T.getD k []).all id = true then [(k : Int)] else [])).length ≤ k + 1
    split <;> simp <;> omega
def bdC (T : List (List Bool)) : Int := if okT T = true then 0 else 8
def bdX (T : List (List Bool)) : List Int := if okT T = true then blk T 24 else []
theorem bdX_len (T : List (List Bool)) : (bdX T).length ≤ 24 := by
  unfold bdX
  split
  · exact blk_len _ _
  · simp
/-- integers of new memory and a code were handed back -/
def RetI (xs : List Int) (k : Int) (t : TypeId) (w : World) (E : Ending) (w' : World) : Prop :=
  ∃ A c, E = .returned (.tuple #[.slice A xs.length c, .int .i64 k]) ∧ RS (.int .i64) t w' w.heap.size w'.heap.size A c xs ∧ Below w.heap.size w w'
theorem all_take {bs : List Bool} {k : Nat} {x : Bool} (h : bs[k]? = some x) : (bs.take (k + 1)).all id = ((bs.take k).all id && x) := by
  rw [List.take_add_one, h, List.all_append]; simp
theorem dir_is0 {n : Int} {r : Bool} (h : inI n 0 23 = r) {P : Program} {f : FuncId} {w : World} (c : Calls P f #[.int .i64 n] w fun e w' => e = .returned (.bool (inI n 0 23)) ∧ w = w') : Calls P f #[.int .i64 n] w fun e w' => e = .returned (.bool r) ∧ w = w' := by subst h; exact c
set_option maxHeartbeats 4000000 in
set_option maxRecDepth 20000 in
theorem specFd_any (A : Option Addr) (c : Nat) (T : List (List Bool)) (w : World) (hn : T.length ≤ 1048576) (h : TB .bool w w.heap.size A T) (d : Int) (_ : -9223372036854775808 ≤ d ∧ d ≤ 9223372036854775807) : Calls Try.prog 22 #[.slice A T.length c, .int .i64 d] w (RetI (fdX T d) (fdC T d) 2 w) := by
  obtain ⟨i0, hi, hz0, hz1, hz2⟩ := info_parts infoInt
  have H := Lib.hid h
  clear h
  by_cases k1 : okT T = true
  case neg => have k1 := (Bool.not_eq_true _).mp k1; rw [show fdX T d = [] by simp [fdX, k1], show fdC T d = 8 by simp [fdC, k1]]; have K1 := Lib.hid k1; clear k1; go_enter Try.func22, Try.ntmps22; go_wp2_with (go_at_call 41; (with_reducible refine (l15Ok_is _ _ T _ hn H.out K1.out).mono ?_); rintro e w1 ⟨rfl, rfl⟩); go_ret2; exact ⟨none, 0, rfl, RS.nil, gr_refl w⟩
  have K1 := Lib.hid k1
  by_cases k2 : inI d 0 23 = true
  case neg => have k2 := (Bool.not_eq_true _).mp k2; rw [show fdX T d = [] by simp [fdX, k1, k2], show fdC T d = 2 by simp [fdC, k1, k2]]; have K2 := Lib.hid k2; clear k1 k2; go_enter Try.func22, Try.ntmps22; go_wp2_with (first | (go_at_call 41; (with_reducible refine (l15Ok_is _ _ T _ hn H.out K1.out).mono ?_); rintro e w1 ⟨rfl, rfl⟩) | (go_at_call 49; (with_reducible refine (dir_is0 K2.out (dir02_any _ _)).mono ?_); rintro e w1 ⟨rfl, rfl⟩)); go_ret2; exact ⟨none, 0, rfl, RS.nil, gr_refl w⟩
  have K2 := Lib.hid k2
  have hd := inI_t k2
  rw [show fdX T d = fr (T.getD d.toNat []) 24 by simp [fdX, k1, k2], show fdC T d = 0 by simp [fdC, k1, k2]]
  obtain ⟨q, rfl⟩ : ∃ q : Nat, d = q := ⟨d.toNat, by omega⟩
  have ht := okT_t k1
  obtain ⟨bs, hbq⟩ := at_of_lt (xs := T) (k := q) (by omega)
  have hbl := all24_t ht.2 hbq
  rw [show T.getD (q : Int).toNat [] = bs by rw [List.getD_eq_getElem?_getD, Int.toNat_natCast, hbq]; rfl]
  obtain ⟨b, off, A', c', rfl, hB, hcell, hsv⟩ := H.out.row hbq
  rw [hbl] at hcell
  have HSV := Lib.hid hsv
  have HL := Lib.hid hbl
  have HN := Lib.hid ht.1
  have hn24 : T.length ≤ 24 := by omega
  have hn25 : 24 ≤ T.length := by omega
  have j2 : (0 : Int) ≤ (q : Int) := by omega
  have j3 : (q : Int) < (T.length : Int) := by omega
  clear hsv hbl ht k1 k2 hbq hd
  go_enter Try.func22, Try.ntmps22; go_wp2_with (first | (go_at_call 41; (with_reducible refine (l15Ok_is _ _ T _ hn H.out K1.out).mono ?_); rintro e w1 ⟨rfl, rfl⟩) | (go_at_call 49; (with_reducible refine (dir_is0 K2.out (dir02_any _ _)).mono ?_); rintro e w1 ⟨rfl, rfl⟩))
  go_loopw [6, 7] (fun v i wr => ∃ (k m e : Nat) (V : Option Addr), k ≤ 24 ∧ i = .int .i64 k ∧ v = .slice V m e ∧ Hid ((fr bs k).length = m) ∧ RS (.int .i64) 2 wr w.heap.size wr.heap.size V e (fr bs k) ∧ Below w.heap.size w wr) (fun _ i _ => 24 - (intOf i).toNat)
  case atStart => exact ⟨0, 0, 0, some ⟨w.heap.size, 0, none⟩, by omega, rfl, rfl, rfl, (RS.lit0 w).top, gr_alloc (gr_refl w)⟩
  case round =>
    obtain ⟨k, m, e, V, hk, rfl, rfl, HM, hr, hbe⟩ := hrel
    have HR := Lib.hid hr
    have HB := Lib.hid hbe
    have hm : m ≤ 24 := by have := fr_len bs k; have := HM.out; omega
    have hcw := keepcM HB.out hcell
    clear hr hbe
    by_cases hlt : k < 24
    · obtain ⟨x, hx⟩ := at_of_lt (xs := bs) (k := k) (by rw [HL.out]; exact hlt)
      obtain ⟨b2, off2, rfl, hB2, hc2⟩ := (HSV.out.below HB.out).at_ hx
      have HST := Lib.hid (fr_step hx)
      have j0 : (0 : Int) ≤ (k : Int) := by omega
      have j1 : (k : Int) < 24 := by omega
      clear hx
      cases x
      · go_wp2_with (at_builtin; refine wpList_app (by rfl) _ _ _ (by rfl) (w.heap.size) 2 i0 (.int .i64 0) 8 Try.underlying31 hi hz0 hz1 hz2 (by rfl) (Value.int .i64) (fun _ => rfl) V (m) (e) (fr bs k) (wr.heap.size) (by rfl) HM.out (HR.out.late (gr_alloc (gr_refl wr))) (some ⟨wr.heap.size, 0, none⟩) (1) (1) ([(k : Int)]) _ (by rfl) (by rfl) (SV.of_new wr) (fun h => by cases h) (by unfold maxLen; omega) (by omega) (by have := HB.out.size; simp only [World.size_alloc]; omega) ?_; intro A2 c2 w2 hr2 hgrow hblk; have HR2 := Lib.hid hr2; have HB2 := Lib.hid ((HR.out.late (gr_alloc (gr_refl wr))).after (gr_alloc (o := .cells #[.int .i64 (k : Int)] 2) HB.out) hgrow (by have := HB.out.size; simp only [World.size_alloc]; omega) (Nat.le_refl _)); clear hr2 hgrow hblk)
        go_roundw
        case rel => exact ⟨k + 1, m + 1, c2, A2, by omega, by go_num, rfl, by have := HM.out; unfold Hid; rw [HST.out]; simp; omega, by rw [HST.out]; exact HR2.out, HB2.out⟩
        case measure => simp [intOf]; omega
      · go_wp2
        go_roundw
        case rel => exact ⟨k + 1, m, e, V, by omega, by go_num, rfl, by have := HM.out; unfold Hid; rw [HST.out]; simp; omega, by rw [HST.out]; simpa using HR.out, HB.out⟩
        case measure => simp [intOf]; omega
    · obtain rfl : k = 24 := by omega
      go_wp2
      go_ret2
      exact ⟨V, e, by rw [HM.out]; rfl, HR.out, HB.out⟩
set_option maxHeartbeats 4000000 in
set_option maxRecDepth 20000 in
theorem implFd_any (A : Option Addr) (c : Nat) (T : List (List Bool)) (w : World) (hn : T.length ≤ 1048576) (h : TB .bool w w.heap.size A T) (hbs : ∀ (j : Nat) bs, T[j]? = some bs → bs.length ≤ 1048576) (d : Int) (_ : -9223372036854775808 ≤ d ∧ d ≤ 9223372036854775807) : Calls Try.prog 23 #[.slice A T.length c, .int .i64 d] w (RetI (fdX T d) (fdC T d) 2 w) := by
  obtain ⟨i0, hi, hz0, hz1, hz2⟩ := info_parts infoInt
  have H := Lib.hid h
  have HBS := Lib.hid hbs
  clear h hbs
  by_cases k1 : okT T = true
  case neg => have k1 := (Bool.not_eq_true _).mp k1; rw [show fdX T d = [] by simp [fdX, k1], show fdC T d = 8 by simp [fdC, k1]]; have K1 := Lib.hid k1; clear k1; go_enter Try.func23, Try.ntmps23; go_wp2_with (go_at_call 14; (with_reducible refine (implVt_is _ _ T _ hn H.out HBS.out K1.out).mono ?_); rintro e w1 ⟨rfl, rfl⟩); go_ret2; exact ⟨none, 0, rfl, RS.nil, gr_refl w⟩
  have K1 := Lib.hid k1
  by_cases k2 : inI d 0 23 = true
  case neg => have k2 := (Bool.not_eq_true _).mp k2; rw [show fdX T d = [] by simp [fdX, k1, k2], show fdC T d = 2 by simp [fdC, k1, k2]]; have K2 := Lib.hid k2; clear k1 k2; go_enter Try.func23, Try.ntmps23; go_wp2_with (first | (go_at_call 14; (with_reducible refine (implVt_is _ _ T _ hn H.out HBS.out K1.out).mono ?_); rintro e w1 ⟨rfl, rfl⟩) | (go_at_call 50; (with_reducible refine (dir_is0 K2.out (isDir_any _ _)).mono ?_); rintro e w1 ⟨rfl, rfl⟩)); go_ret2; exact ⟨none, 0, rfl, RS.nil, gr_refl w⟩
  have K2 := Lib.hid k2
  have hd := inI_t k2
  rw [show fdX T d = fr (T.getD d.toNat []) 24 by simp [fdX, k1, k2], show fdC T d = 0 by simp [fdC, k1, k2]]
  obtain ⟨q, rfl⟩ : ∃ q : Nat, d = q := ⟨d.toNat, by omega⟩
  have ht := okT_t k1
  obtain ⟨bs, hbq⟩ := at_of_lt (xs := T) (k := q) (by omega)
  have hbl := all24_t ht.2 hbq
  rw [show T.getD (q : Int).toNat [] = bs by rw [List.getD_eq_getElem?_getD, Int.toNat_natCast, hbq]; rfl]
  obtain ⟨b, off, A', c', rfl, hB, hcell, hsv⟩ := H.out.row hbq
  rw [hbl] at hcell
  have HSV := Lib.hid hsv
  have HL := Lib.hid hbl
  have HN := Lib.hid ht.1
  have hn24 : T.length ≤ 24 := by omega
  have hn25 : 24 ≤ T.length := by omega
  have j2 : (0 : Int) ≤ (q : Int) := by omega
  have j3 : (q : Int) < (T.length : Int) := by omega
  clear hsv hbl ht k1 k2 hbq hd
  go_enter Try.func23, Try.ntmps23; go_wp2_with (first | (go_at_call 14; (with_reducible refine (implVt_is _ _ T _ hn H.out HBS.out K1.out).mono ?_); rintro e w1 ⟨rfl, rfl⟩) | (go_at_call 50; (with_reducible refine (dir_is0 K2.out (isDir_any _ _)).mono ?_); rintro e w1 ⟨rfl, rfl⟩))
  go_loopw [6, 22] (fun v i wr => ∃ (k m e : Nat) (V : Option Addr), k ≤ 24 ∧ i = .int .i64 k ∧ v = .slice V m e ∧ Hid ((fr bs k).length = m) ∧ RS (.int .i64) 2 wr w.heap.size wr.heap.size V e (fr bs k) ∧ Below w.heap.size w wr) (fun _ i _ => 24 - (intOf i).toNat)
  case atStart => exact ⟨0, 0, 0, none, by omega, rfl, rfl, rfl, RS.nil, gr_refl w⟩
  case round =>
    obtain ⟨k, m, e, V, hk, rfl, rfl, HM, hr, hbe⟩ := hrel
    have HR := Lib.hid hr
    have HB := Lib.hid hbe
    have hm : m ≤ 24 := by have := fr_len bs k; have := HM.out; omega
    have hcw := keepcM HB.out hcell
    clear hr hbe
    by_cases hlt : k < 24
    · obtain ⟨x, hx⟩ := at_of_lt (xs := bs) (k := k) (by rw [HL.out]; exact hlt)
      obtain ⟨b2, off2, rfl, hB2, hc2⟩ := (HSV.out.below HB.out).at_ hx
      have HST := Lib.hid (fr_step hx)
      have j0 : (0 : Int) ≤ (k : Int) := by omega
      have j1 : (k : Int) < 24 := by omega
      clear hx
      cases x
      · go_wp2_with (at_builtin; refine wpList_app (by rfl) _ _ _ (by rfl) (w.heap.size) 2 i0 (.int .i64 0) 8 Try.underlying31 hi hz0 hz1 hz2 (by rfl) (Value.int .i64) (fun _ => rfl) V (m) (e) (fr bs k) (wr.heap.size) (by rfl) HM.out (HR.out.late (gr_alloc (gr_refl wr))) (some ⟨wr.heap.size, 0, none⟩) (1) (1) ([(k : Int)]) _ (by rfl) (by rfl) (SV.of_new wr) (fun h => by cases h) (by unfold maxLen; omega) (by omega) (by have := HB.out.size; simp only [World.size_alloc]; omega) ?_; intro A2 c2 w2 hr2 hgrow hblk; have HR2 := Lib.hid hr2; have HB2 := Lib.hid ((HR.out.late (gr_alloc (gr_refl wr))).after (gr_alloc (o := .cells #[.int .i64 (k : Int)] 2) HB.out) hgrow (by have := HB.out.size; simp only [World.size_alloc]; omega) (Nat.le_refl _)); clear hr2 hgrow hblk)
        go_roundw
        case rel => exact ⟨k + 1, m + 1, c2, A2, by omega, by go_num, rfl, by have := HM.out; unfold Hid; rw [HST.out]; simp; omega, by rw [HST.out]; exact HR2.out, HB2.out⟩
        case measure => simp [intOf]; omega
      · go_wp2
        go_roundw
        case rel => exact ⟨k + 1, m, e, V, by omega, by go_num, rfl, by have := HM.out; unfold Hid; rw [HST.out]; simp; omega, by rw [HST.out]; simpa using HR.out, HB.out⟩
        case measure => simp [intOf]; omega
    · obtain rfl : k = 24 := by omega
      go_wp2
      go_ret2
      exact ⟨V, e, by rw [HM.out]; rfl, HR.out, HB.out⟩
/-- the place of a false; -1 if there is none -/
def IdxFalse (bs : List Bool) (w : World) (e : Ending) (w' : World) : Prop := ∃ r : Int, e = .returned (.int .i64 r) ∧ w = w' ∧ bs.all id = decide (r < 0)
theorem all_no {bs : List Bool} {j : Nat} (h : bs[j]? = some false) : bs.all id = false := by
  rw [List.all_eq_false]
  exact ⟨false, List.mem_iff_getElem?.2 ⟨j, h⟩, by simp⟩
theorem all_yes {bs : List Bool} (h : ∀ (j : Nat) x, bs[j]? = some x → x = true) : bs.all id = true := by
  rw [List.all_eq_true]
  intro x hx
  obtain ⟨j, hj⟩ := List.mem_iff_getElem?.1 hx
  exact h j x hj
set_option maxHeartbeats 4000000 in
set_option maxRecDepth 20000 in
theorem idxFalse_any (A : Option Addr) (c : Nat) (bs : List Bool) (w : World) (hn : bs.length ≤ 1048576) (h : SV .bool w w.heap.size A bs) : Calls Try.prog 64 #[.slice A bs.length c, .bool false] w (IdxFalse bs w) := by
  have H := Lib.hid h
  obtain ⟨n, hn'⟩ : ∃ n, bs.length = n := ⟨_, rfl⟩
  have HN := Lib.hid hn'
  rw [hn'] at hn ⊢
  clear h hn'
  go_enter Try.func64, Try.ntmps64
  go_wp2
  go_loop [8] (fun i => ∃ k : Nat, k ≤ n ∧ i = .int .i64 k ∧ Hid (∀ (j : Nat) x, j < k → bs[j]? = some x → x = true)) (fun i => n - (intOf i).toNat)
  case atStart => exact ⟨0, by omega, rfl, fun j x hj => by omega⟩
  case round =>
    obtain ⟨k, hk, rfl, HS⟩ := hrel
    by_cases hlt : k < n
    · obtain ⟨x, hx⟩ := at_of_lt (xs := bs) (k := k) (by rw [HN.out]; exact hlt)
      obtain ⟨b2, off, rfl, hB, hc⟩ := H.out.at_ hx
      have HX := Lib.hid hx
      clear hx
      cases x
      · have HO := Lib.hid (all_no HX.out)
        go_wp2
        go_ret
        exact ⟨k, rfl, rfl, by rw [HO.out]; exact (decide_eq_false (by omega)).symm⟩
      · go_wp2
        go_round
        case rel => exact ⟨k + 1, by omega, by go_num, fun j x' hj hb' => by by_cases e : j = k; (subst e; have e2 := HX.out.symm.trans hb'; simp only [Option.some.injEq] at e2; exact e2.symm); exact HS.out j x' (by omega) hb'⟩
        case measure => simp [intOf]; omega
    · obtain rfl : k = n := by omega
      have HA := Lib.hid (all_yes (bs := bs) (fun j x hj => HS.out j x (by rw [← HN.out]; exact lt_of_at hj) hj))
      go_wp2
      go_ret
      exact ⟨-1, rfl, rfl, by rw [HA.out]; rfl⟩
set_option maxHeartbeats 4000000 in
set_option maxRecDepth 20000 in
theorem contFalse_any (A : Option Addr) (c : Nat) (bs : List Bool) (w : World) (hn : bs.length ≤ 1048576) (h : SV .bool w w.heap.size A bs) {n : Nat} (hl : bs.length = n) {r : Bool} (hr : bs.all id = !r) : Calls Try.prog 51 #[.slice A n c, .bool false] w fun e w' => e = .returned (.bool r) ∧ w = w' := by
  subst hl
  have H := Lib.hid h
  have HR := Lib.hid hr
  clear h hr
  go_enter Try.func51, Try.ntmps51; go_wp2_with fail
  go_at_call 64
  (with_reducible refine (idxFalse_any _ _ bs _ hn H.out).mono ?_)
  rintro e w1 ⟨q, rfl, rfl, ha⟩
  have HA := Lib.hid ha
  clear ha
  by_cases hq : q < 0
  · have hd : decide (0 ≤ q) = false := decide_eq_false (by omega)
    go_wp2
    go_ret
    exact ⟨ret_bool (by have h2 := HR.out; rw [HA.out, decide_eq_true hq] at h2; cases r with | false => rfl | true => cases h2), rfl⟩
  · have hp : 0 ≤ q := by omega
    go_wp2
    go_ret
    exact ⟨ret_bool (by have h2 := HR.out; rw [HA.out, decide_eq_false (show ¬ q < 0 by omega)] at h2; cases r with | false => cases h2 | true => rfl), rfl⟩
set_option maxHeartbeats 8000000 in
set_option maxRecDepth 20000 in
theorem specBd_any (A : Option Addr) (c : Nat) (T : List (List Bool)) (w : World) (hn : T.length ≤ 1048576) (h : TB .bool w w.heap.size A T) : Calls Try.prog 27 #[.slice A T.length c] w (RetI (bdX T) (bdC T) 2 w) := by
  obtain ⟨i0, hi, hz0, hz1, hz2⟩ := info_parts infoInt
  have H := Lib.hid h
  clear h
  by_cases k1 : okT T = true
  case neg => have k1 := (Bool.not_eq_true _).mp k1; rw [show bdX T = [] by simp [bdX, k1], show bdC T = 8 by simp [bdC, k1]]; have K1 := Lib.hid k1; clear k1; go_enter Try.func27, Try.ntmps27; go_wp2_with (go_at_call 41; (with_reducible refine (l15Ok_is _ _ T _ hn H.out K1.out).mono ?_); rintro e w1 ⟨rfl, rfl⟩); go_ret2; exact ⟨none, 0, rfl, RS.nil, gr_refl w⟩
  have K1 := Lib.hid k1
  rw [show bdX T = blk T 24 by simp [bdX, k1], show bdC T = 0 by simp [bdC, k1]]
  have HT := Lib.hid (okT_t k1)
  have hn24 : T.length ≤ 24 := by have := (okT_t k1).1; omega
  have hn25 : 24 ≤ T.length := by have := (okT_t k1).1; omega
  clear k1
  go_enter Try.func27, Try.ntmps27; go_wp2_with (go_at_call 41; (with_reducible refine (l15Ok_is _ _ T _ hn H.out K1.out).mono ?_); rintro e w1 ⟨rfl, rfl⟩)
  go_loopw [4, 5] (fun v i wr => ∃ (k m e : Nat) (V : Option Addr), k ≤ 24 ∧ i = .int .i64 k ∧ v = .slice V m e ∧ Hid ((blk T k).length = m) ∧ RS (.int .i64) 2 wr w.heap.size wr.heap.size V e (blk T k) ∧ Below w.heap.size w wr) (fun _ i _ => 24 - (intOf i).toNat)
  case atStart => exact ⟨0, 0, 0, some ⟨w.heap.size, 0, none⟩, by omega, rfl, rfl, rfl, (RS.lit0 w).top, gr_alloc (gr_refl w)⟩
  case round =>
    obtain ⟨k, m, e, V, hk, rfl, rfl, HM, hr, hbe⟩ := hrel
    have HR := Lib.hid hr
    have HB := Lib.hid hbe
    have hm : m ≤ 24 := by have := blk_len T k; have := HM.out; omega
    clear hr hbe
    by_cases hlt : k < 24
    · obtain ⟨bs, hbk⟩ := at_of_lt (xs := T) (k := k) (by omega)
      have hbl := all24_t HT.out.2 hbk
      obtain ⟨b, off, A', c', rfl, hB, hcell, hsv⟩ := ((H.out.below HB.out).more HB.out.size).row hbk
      rw [hbl] at hcell
      have HL := Lib.hid hbl
      have HSV := Lib.hid hsv
      have HST := Lib.hid (blk_step hbk)
      have j0 : (0 : Int) ≤ (k : Int) := by omega
      have j1 : (k : Int) < (T.length : Int) := by omega
      clear hbl hsv hbk
      obtain ⟨wo, rfl⟩ : ∃ wo : World, wo = wr := ⟨_, rfl⟩
      go_wp2
      go_loop [6, 7] (fun a i => ∃ p : Nat, p ≤ 24 ∧ i = .int .i64 p ∧ a = .bool ((bs.take p).all id)) (fun _ i => 24 - (intOf i).toNat)
      case atStart => exact ⟨0, by omega, rfl, rfl⟩
      case round =>
        obtain ⟨p, hp, rfl, rfl⟩ := hrel
        by_cases hlp : p < 24
        · obtain ⟨x, hx⟩ := at_of_lt (xs := bs) (k := p) (by rw [HL.out]; exact hlp)
          obtain ⟨b2, off2, rfl, hB2, hc2⟩ := HSV.out.at_ hx
          have HAT := Lib.hid (all_take hx)
          have l0 : (0 : Int) ≤ (p : Int) := by omega
          have l1 : (p : Int) < 24 := by omega
          clear hx
          cases hall : (bs.take p).all id
          · have HALL := Lib.hid hall
            clear hall
            go_wp2
            go_round
            case rel => exact ⟨p + 1, by omega, by go_num, by rw [HAT.out, HALL.out]; first | rfl | simp⟩
            case measure => simp [intOf]; omega
          · have HALL := Lib.hid hall
            clear hall
            go_wp2
            go_round
            case rel => exact ⟨p + 1, by omega, by go_num, by rw [HAT.out, HALL.out]; first | rfl | simp⟩
            case measure => simp [intOf]; omega
        · obtain rfl : p = 24 := by omega
          have HTK := Lib.hid (show (bs.take 24).all id = bs.all id by rw [List.take_of_length_le (by rw [HL.out]; exact Nat.le_refl _)])
          rw [HTK.out]
          cases hall : bs.all id
          · rw [hall] at HST
            clear hall
            go_wp2
            go_roundw
            case rel => exact ⟨k + 1, m, e, V, by omega, by go_num, rfl, by have := HM.out; unfold Hid; rw [HST.out]; simp; omega, by rw [HST.out]; simpa using HR.out, HB.out⟩
            case measure => simp [intOf]; omega
          · rw [hall] at HST
            clear hall
            go_wp2_with (at_builtin; refine wpList_app (by rfl) _ _ _ (by rfl) (w.heap.size) 2 i0 (.int .i64 0) 8 Try.underlying31 hi hz0 hz1 hz2 (by rfl) (Value.int .i64) (fun _ => rfl) V (m) (e) (blk T k) (wo.heap.size) (by rfl) HM.out (HR.out.late (gr_alloc (gr_refl wo))) (some ⟨wo.heap.size, 0, none⟩) (1) (1) ([(k : Int)]) _ (by rfl) (by rfl) (SV.of_new wo) (fun h => by cases h) (by unfold maxLen; omega) (by omega) (by have := HB.out.size; simp only [World.size_alloc]; omega) ?_; intro A2 c2 w2 hr2 hgrow hblk; have HR2 := Lib.hid hr2; have HB2 := Lib.hid ((HR.out.late (gr_alloc (gr_refl wo))).after (gr_alloc (o := .cells #[.int .i64 (k : Int)] 2) HB.out) hgrow (by have := HB.out.size; simp only [World.size_alloc]; omega) (Nat.le_refl _)); clear hr2 hgrow hblk)
            go_roundw
            case rel => exact ⟨k + 1, m + 1, c2, A2, by omega, by go_num, rfl, by have := HM.out; unfold Hid; rw [HST.out]; simp; omega, by rw [HST.out]; exact HR2.out, HB2.out⟩
            case measure => simp [intOf]; omega
    · obtain rfl : k = 24 := by omega
      go_wp2
      go_ret2
      exact ⟨V, e, by rw [HM.out]; rfl, HR.out, HB.out⟩
set_option maxHeartbeats 8000000 in
set_option maxRecDepth 20000 in
theorem implBd_any (A : Option Addr) (c : Nat) (T : List (List Bool)) (w : World) (hn : T.length ≤ 1048576) (h : TB .bool w w.heap.size A T) (hbs : ∀ (j : Nat) bs, T[j]? = some bs → bs.length ≤ 1048576) : Calls Try.prog 28 #[.slice A T.length c] w (RetI (bdX T) (bdC T) 2 w) := by
  obtain ⟨i0, hi, hz0, hz1, hz2⟩ := info_parts infoInt
  have H := Lib.hid h
  have HBS := Lib.hid hbs
  clear h hbs
  by_cases k1 : okT T = true
  case neg => have k1 := (Bool.not_eq_true _).mp k1; rw [show bdX T = [] by simp [bdX, k1], show bdC T = 8 by simp [bdC, k1]]; have K1 := Lib.hid k1; clear k1; go_enter Try.func28, Try.ntmps28; go_wp2_with (go_at_call 14; (with_reducible refine (implVt_is _ _ T _ hn H.out HBS.out K1.out).mono ?_); rintro e w1 ⟨rfl, rfl⟩); go_ret2; exact ⟨none, 0, rfl, RS.nil, gr_refl w⟩
  have K1 := Lib.hid k1
  rw [show bdX T = blk T 24 by simp [bdX, k1], show bdC T = 0 by simp [bdC, k1]]
  have HT := Lib.hid (okT_t k1)
  have hn24 : T.length ≤ 24 := by have := (okT_t k1).1; omega
  have hn25 : 24 ≤ T.length := by have := (okT_t k1).1; omega
  clear k1
  have HOK : Hid (∀ w2 : World, w2 = w → Calls Try.prog 14 #[.slice A 24 c] w2 fun e w' => e = .returned (.bool true) ∧ w2 = w') := fun w2 e2 => by subst e2; have h2 := implVt_is A c T w2 hn H.out HBS.out K1.out; rw [HT.out.1] at h2; exact h2
  rw [HT.out.1]
  go_enter Try.func28, Try.ntmps28; go_wp2_with (go_at_call 14; (with_reducible refine (HOK.out _ rfl).mono ?_); rintro e w1 ⟨rfl, rfl⟩)
  go_loopw [4, 12] (fun v i wr => ∃ (k m e : Nat) (V : Option Addr), k ≤ 24 ∧ i = .int .i64 k ∧ v = .slice V m e ∧ Hid ((blk T k).length = m) ∧ RS (.int .i64) 2 wr w.heap.size wr.heap.size V e (blk T k) ∧ Below w.heap.size w wr) (fun _ i _ => 24 - (intOf i).toNat)
  case atStart => exact ⟨0, 0, 0, none, by omega, rfl, rfl, rfl, RS.nil, gr_refl w⟩
  case round =>
    obtain ⟨k, m, e, V, hk, rfl, rfl, HM, hr, hbe⟩ := hrel
    have HR := Lib.hid hr
    have HB := Lib.hid hbe
    have hm : m ≤ 24 := by have := blk_len T k; have := HM.out; omega
    clear hr hbe
    by_cases hlt : k < 24
    · obtain ⟨bs, hbk⟩ := at_of_lt (xs := T) (k := k) (by omega)
      have hbl := all24_t HT.out.2 hbk
      obtain ⟨b, off, A', c', rfl, hB, hcell, hsv⟩ := ((H.out.below HB.out).more HB.out.size).row hbk
      rw [hbl] at hcell
      have HL := Lib.hid hbl
      have HSV := Lib.hid hsv
      have HST := Lib.hid (blk_step hbk)
      have j0 : (0 : Int) ≤ (k : Int) := by omega
      have j1 : (k : Int) < 24 := by omega
      clear hbl hsv hbk
      cases hall : bs.all id
      · have HCT : Hid (∀ w1 : World, Below wr.heap.size wr w1 → Calls Try.prog 51 #[.slice A' 24 c', .bool false] w1 fun e w' => e = .returned (.bool true) ∧ w1 = w') := fun w1 hb1 => contFalse_any A' c' bs w1 (by rw [HL.out]; omega) ((HSV.out.below hb1).more hb1.size) HL.out hall
        have HALL := Lib.hid hall
        rw [hall] at HST
        clear hall
        go_wp2_with (go_at_call 51; (with_reducible refine (HCT.out wr (gr_refl wr)).mono ?_); rintro e w1 ⟨rfl, rfl⟩)
        go_roundw
        case rel => exact ⟨k + 1, m, e, V, by omega, by go_num, rfl, by have := HM.out; unfold Hid; rw [HST.out]; simp; omega, by rw [HST.out]; simpa using HR.out, HB.out⟩
        case measure => simp [intOf]; omega
      · have HCT : Hid (∀ w1 : World, Below wr.heap.size wr w1 → Calls Try.prog 51 #[.slice A' 24 c', .bool false] w1 fun e w' => e = .returned (.bool false) ∧ w1 = w') := fun w1 hb1 => contFalse_any A' c' bs w1 (by rw [HL.out]; omega) ((HSV.out.below hb1).more hb1.size) HL.out hall
        rw [hall] at HST
        clear hall
        go_wp2_with (first | (go_at_call 51; (with_reducible refine (HCT.out wr (gr_refl wr)).mono ?_); rintro e w1 ⟨rfl, rfl⟩) | (at_builtin; refine wpList_app (by rfl) _ _ _ (by rfl) (w.heap.size) 2 i0 (.int .i64 0) 8 Try.underlying31 hi hz0 hz1 hz2 (by rfl) (Value.int .i64) (fun _ => rfl) V (m) (e) (blk T k) (wr.heap.size) (by rfl) HM.out (HR.out.late (gr_alloc (gr_refl wr))) (some ⟨wr.heap.size, 0, none⟩) (1) (1) ([(k : Int)]) _ (by rfl) (by rfl) (SV.of_new wr) (fun h => by cases h) (by unfold maxLen; omega) (by omega) (by have := HB.out.size; simp only [World.size_alloc]; omega) ?_; intro A2 c2 w2 hr2 hgrow hblk; have HR2 := Lib.hid hr2; have HB2 := Lib.hid ((HR.out.late (gr_alloc (gr_refl wr))).after (gr_alloc (o := .cells #[.int .i64 (k : Int)] 2) HB.out) hgrow (by have := HB.out.size; simp only [World.size_alloc]; omega) (Nat.le_refl _)); clear hr2 hgrow hblk))
        go_roundw
        case rel => exact ⟨k + 1, m + 1, c2, A2, by omega, by go_num, rfl, by have := HM.out; unfold Hid; rw [HST.out]; simp; omega, by rw [HST.out]; exact HR2.out, HB2.out⟩
        case measure => simp [intOf]; omega
    · obtain rfl : k = 24 := by omega
      go_wp2
      go_ret2
      exact ⟨V, e, by rw [HM.out]; rfl, HR.out, HB.out⟩
end Go.Proofs.Ytmgbbkglafnibaa
