/- TurnedTable, both sides. -/
import Derived.Test.YtmgbbkglafnibaaStep
import Derived.Test.YtmgbbkglafnibaaTRs
namespace Go.Proofs.Ytmgbbkglafnibaa
open Go.RowKit
def col (T : List (List Bool)) (d k : Nat) : List Bool := (List.range k).map fun j => cellT T j d
theorem col_len (T : List (List Bool)) (d k : Nat) : (col T d k).length = k := by simp [col]
theorem col_succ (T : List (List Bool)) (d k : Nat) : col T d (k + 1) = col T d k ++ [cellT T k d] := by simp [col, List.range_succ]
theorem col_at {T : List (List Bool)} {d k j : Nat} (h : j < k) : (col T d k)[j]? = some (cellT T j d) := by simp [col, h]
def ttR (T : List (List Bool)) (k : Nat) : List (List Bool) := (List.range k).map fun d => col T d 24
theorem ttR_len (T : List (List Bool)) (k : Nat) : (ttR T k).length = k := by simp [ttR]
theorem ttR_succ (T : List (List Bool)) (k : Nat) : ttR T (k + 1) = ttR T k ++ [col T k 24] := by simp [ttR, List.range_succ]
def ttX (T : List (List Bool)) : List (List Bool) := if okT T = true then ttR T 24 else []
def ttC (T : List (List Bool)) : Int := if okT T = true then 0 else 8
theorem ttX_sizes (T : List (List Bool)) : Sizes (ttX T) := by
  unfold ttX
  split
  · refine ⟨by rw [ttR_len]; omega, fun j bs hj => ?_⟩
    have hl := lt_of_at hj
    rw [ttR_len] at hl
    simp [ttR, hl] at hj
    rw [← hj, col_len]; omega
  · exact ⟨by simp, fun j bs hj => by simp at hj⟩
theorem TR.lit0 {α : Type} {f : α → Value} {t ts : TypeId} (w : World) : TR f t ts (w.alloc (.cells #[] ts)) w.heap.size (w.heap.size + 1) (some ⟨w.heap.size, 0, none⟩) 0 ([] : List (List α)) :=
  .inr ⟨w.heap.size, [], [], rfl, rfl, rfl, RS.lit0 w, fun j gj cj bs h _ _ => by simp at h, ⟨Nat.le_refl _, Nat.lt_succ_self _⟩, fun j gj h => by simp at h, List.nodup_nil⟩
theorem TR.top {α : Type} {f : α → Value} {t ts : TypeId} {w : World} {lo hi c : Nat} {A : Option Addr} {T : List (List α)} (h : TR f t ts w lo hi A c T) (hh : hi ≤ w.heap.size) : TR f t ts w lo w.heap.size A c T := h.wide (Nat.le_refl _) hh
/-- a table of new memory and a code were handed back -/
def RetT (T : List (List Bool)) (k : Int) (t ts : TypeId) (w : World) (E : Ending) (w' : World) : Prop :=
  ∃ A c, E = .returned (.tuple #[.slice A T.length c, .int .i64 k]) ∧ TR .bool t ts w' w.heap.size w'.heap.size A c T ∧ Below w.heap.size w w'
def RetT1 (T : List (List Bool)) (t ts : TypeId) (w : World) (E : Ending) (w' : World) : Prop :=
  ∃ A c, E = .returned (.slice A T.length c) ∧ TR .bool t ts w' w.heap.size w'.heap.size A c T ∧ Below w.heap.size w w'
/-- a row of 24 was made -/
def row24 (t : TypeId) (w : World) : World := w.alloc (.cells (Array.replicate 24 (.bool false)) t)
theorem row24_bv (t : TypeId) (w : World) : BV .bool (row24 t w) w.heap.size t (List.replicate 24 false) := BV.made w t 24 false
theorem row24_below (t : TypeId) (w : World) : Below w.heap.size w (row24 t w) := gr_alloc (gr_refl w)
set_option maxHeartbeats 8000000 in
set_option maxRecDepth 20000 in
theorem specTt_any (A : Option Addr) (c : Nat) (T : List (List Bool)) (w : World) (hn : T.length ≤ 1048576) (h : TB .bool w w.heap.size A T) : Calls Try.prog 18 #[.slice A T.length c] w (RetT (ttX T) (ttC T) 4 49 w) := by
  obtain ⟨i0, hi, hz0, hz1, hz2⟩ := info_parts infoBool
  obtain ⟨i0', hi', hz0', hz1', hz2'⟩ := info_parts infoBools
  have H := Lib.hid h
  clear h
  by_cases k1 : okT T = true
  case neg => have k1 := (Bool.not_eq_true _).mp k1; rw [show ttX T = [] by simp [ttX, k1], show ttC T = 8 by simp [ttC, k1]]; have K1 := Lib.hid k1; clear k1; go_enter Try.func18, Try.ntmps18; go_wp2_with (go_at_call 41; (with_reducible refine (l15Ok_is _ _ T _ hn H.out K1.out).mono ?_); rintro e w1 ⟨rfl, rfl⟩); go_ret2; exact ⟨none, 0, rfl, TR.nil, gr_refl w⟩
  have K1 := Lib.hid k1
  rw [show ttX T = ttR T 24 by simp [ttX, k1], show ttC T = 0 by simp [ttC, k1]]
  obtain ⟨p0, o0, _, _, _, rfl, _, _⟩ := trow H.out K1.out (a := 0) (by omega)
  have HOK : Hid (∀ w2 : World, w2 = w → Calls Try.prog 41 #[.slice (some ⟨p0, o0, none⟩) 24 c] w2 fun e w' => e = .returned (.bool true) ∧ w2 = w') := fun w2 e2 => by subst e2; have h2 := l15Ok_is _ c T w2 hn H.out K1.out; rw [(okT_t k1).1] at h2; exact h2
  rw [(okT_t k1).1]
  clear k1
  go_enter Try.func18, Try.ntmps18; go_wp2_with (go_at_call 41; (with_reducible refine (HOK.out _ rfl).mono ?_); rintro e w1 ⟨rfl, rfl⟩)
  go_loopw [4, 5] (fun v i wr => ∃ (k e : Nat) (V : Option Addr), k ≤ 24 ∧ i = .int .i64 k ∧ v = .slice V k e ∧ TR .bool 4 49 wr w.heap.size wr.heap.size V e (ttR T k) ∧ Below w.heap.size w wr) (fun _ i _ => 24 - (intOf i).toNat)
  case atStart => exact ⟨0, 0, some ⟨w.heap.size, 0, none⟩, by omega, rfl, rfl, (TR.lit0 w).top (by simp), gr_alloc (gr_refl w)⟩
  case round =>
    obtain ⟨k, e, V, hk, rfl, rfl, htr, hbe⟩ := hrel
    obtain ⟨wo, rfl⟩ : ∃ wo : World, wo = wr := ⟨_, rfl⟩
    have HT := Lib.hid htr
    have HB := Lib.hid hbe
    clear htr hbe
    by_cases hlt : k < 24
    · have j0 : (0 : Int) ≤ (k : Int) := by omega
      have j1 : (k : Int) < 24 := by omega
      go_wp2
      go_loopw [6, 7] (fun rv i wi => ∃ (m g x : Nat), m ≤ 24 ∧ i = .int .i64 m ∧ rv = .slice (some ⟨g, 0, none⟩) m x ∧ RS .bool 4 wi wo.heap.size wi.heap.size (some ⟨g, 0, none⟩) x (col T k m) ∧ Below wo.heap.size wo wi) (fun _ i _ => 24 - (intOf i).toNat)
      case atStart => exact ⟨0, wo.heap.size, 0, by omega, rfl, rfl, (RS.lit0 wo).top, gr_alloc (gr_refl wo)⟩
      case round =>
        obtain ⟨m, g, x, hm, rfl, rfl, hri, hbi⟩ := hrel
        have HRI := Lib.hid hri
        have HBI := Lib.hid hbi
        clear hri hbi
        by_cases hlm : m < 24
        · obtain ⟨p1, o1, q1, u1, v1, ea, hc1, hg1⟩ := trow (H.out.laterT (gr_then HBI.out HB.out)) K1.out (a := m) (by omega)
          simp only [Option.some.injEq, Addr.mk.injEq, and_true] at ea
          obtain ⟨rfl, rfl⟩ := ea
          have hd1 := hg1 k (by omega)
          have j2 : (0 : Int) ≤ (m : Int) := by omega
          have j3 : (m : Int) < 24 := by omega
          clear hg1
          go_wp2_with (at_builtin; refine wpList_app (by rfl) _ _ _ (by rfl) (wo.heap.size) 4 i0 (.bool false) 1 Try.underlying49 hi hz0 hz1 hz2 (by rfl) (Value.bool) (fun _ => rfl) (some ⟨g, 0, none⟩) (m) (x) (col T k m) (wr.heap.size) (by rfl) (col_len T k m) (HRI.out.late (gr_alloc (gr_refl wr))) (some ⟨wr.heap.size, 0, none⟩) (1) (1) ([cellT T m k]) _ (by rfl) (by rfl) (SV.of_new wr) (fun h => by cases h) (by unfold maxLen; omega) (by omega) (by have := HBI.out.size; simp only [World.size_alloc]; omega) ?_; intro A4 c4 w4 hr4 hgrow4 hblk4; obtain ⟨g4, rfl, hl4, _, _⟩ := hr4.isAt (by simp); have HR4 := Lib.hid hr4; have HB4 := Lib.hid ((HRI.out.late (gr_alloc (gr_refl wr))).after (gr_alloc (o := .cells #[.bool (cellT T m k)] 4) HBI.out) hgrow4 (by have := HBI.out.size; simp only [World.size_alloc]; omega) (Nat.le_refl _)); clear hr4 hgrow4 hblk4)
          go_roundw
          case rel => exact ⟨m + 1, g4, c4, by omega, by go_num, rfl, by rw [col_succ]; exact HR4.out, HB4.out⟩
          case measure => simp [intOf]; omega
        · obtain rfl : m = 24 := by omega
          have hgl := HRI.out.ge
          have HRW := Lib.hid HRI.out.tight
          obtain ⟨rs, hrl0, hro0, hsn0⟩ := (HT.out.late (gr_alloc (o := .cells #[.slice (some ⟨g, 0, none⟩) 24 x] 49) HBI.out)).outer
          have hrl := Lib.hid (hrl0.trans (ttR_len T k))
          have hro := Lib.hid hro0
          have hsn := Lib.hid hsn0
          clear hrl0 hro0 hsn0
          go_wp2_with (at_builtin; refine wpList_app (by rfl) _ _ _ (by rfl) (w.heap.size) 49 i0' (.slice none 0 0) 24 Try.underlying22 hi' hz0' hz1' hz2' (by rfl) (sl) (fun _ => rfl) V (k) (e) (rs) (wo.heap.size) (by rfl) hrl.out hro.out (some ⟨wr.heap.size, 0, none⟩) (1) (1) ([((some ⟨g, 0, none⟩ : Option Addr), 24, x)]) _ (by rfl) (by rfl) (SV.of_new (f := sl) (y := ((some ⟨g, 0, none⟩ : Option Addr), 24, x)) (t := 49) wr) (fun h => by cases h) (by unfold maxLen; omega) (by omega) (by have := HB.out.size; have := HBI.out.size; simp only [World.size_alloc]; omega) ?_; intro A5 c5 w5 hr5 hgrow5 hblk5; have HTN := Lib.hid (hsn.out w5 A5 c5 g x (col T k 24) (HRW.out.late (gr_alloc (gr_refl wr))) (by omega) (by have := HB.out.size; omega) (by have := HB.out.size; have := HBI.out.size; simp only [World.size_alloc]; omega) hgrow5 hblk5 (by rw [col_len]; exact hr5)); have HBN := Lib.hid (hro.out.after (gr_alloc (o := .cells #[.slice (some ⟨g, 0, none⟩) 24 x] 49) (gr_then HBI.out HB.out)) hgrow5 (by have := HB.out.size; have := HBI.out.size; simp only [World.size_alloc]; omega) (Nat.le_refl _)); clear hr5 hgrow5 hblk5)
          go_roundw
          case rel => exact ⟨k + 1, c5, A5, by omega, by go_num, rfl, by rw [ttR_succ]; exact HTN.out, HBN.out⟩
          case measure => simp [intOf]; omega
    · obtain rfl : k = 24 := by omega
      go_wp2
      go_ret2
      exact ⟨V, e, by rw [ttR_len]; rfl, HT.out, HB.out⟩
set_option maxHeartbeats 8000000 in
set_option maxRecDepth 20000 in
theorem turnedT_any (p0 o0 c : Nat) (T : List (List Bool)) (w : World) (hok : okT T = true) (h : TB .bool w w.heap.size (some ⟨p0, o0, none⟩) T) : Calls Try.prog 46 #[.slice (some ⟨p0, o0, none⟩) 24 c] w (RetT1 (ttR T 24) 4 49 w) := by
  obtain ⟨i0, hi, hz0, hz1, hz2⟩ := info_parts infoBool
  obtain ⟨i0', hi', hz0', hz1', hz2'⟩ := info_parts infoBools
  have H := Lib.hid h
  have K1 := Lib.hid hok
  clear h hok
  have hmk : ∀ w : World, (Instr.makeSlice 49 (.int .i64 24) (.int .i64 24)).run Try.prog w = .ok (.slice (some ⟨w.heap.size, 0, none⟩) 24 24) (row24 4 w) := fun w => madeBool 24 (by omega) w
  go_enter Try.func46, Try.ntmps46; go_wp2
  go_loopw [3, 7] (fun v i wr => ∃ (k e : Nat) (V : Option Addr), k ≤ 24 ∧ i = .int .i64 k ∧ v = .slice V k e ∧ TR .bool 4 49 wr w.heap.size wr.heap.size V e (ttR T k) ∧ Below w.heap.size w wr) (fun _ i _ => 24 - (intOf i).toNat)
  case atStart => exact ⟨0, 0, none, by omega, rfl, rfl, TR.nil, gr_refl w⟩
  case round =>
    obtain ⟨k, e, V, hk, rfl, rfl, htr, hbe⟩ := hrel
    obtain ⟨wo, rfl⟩ : ∃ wo : World, wo = wr := ⟨_, rfl⟩
    have HT := Lib.hid htr
    have HB := Lib.hid hbe
    clear htr hbe
    by_cases hlt : k < 24
    · have j0 : (0 : Int) ≤ (k : Int) := by omega
      have j1 : (k : Int) < 24 := by omega
      go_wp2
      go_loopw [11] (fun i wi => ∃ m : Nat, m ≤ 24 ∧ i = .int .i64 m ∧ BV .bool wi wo.heap.size 4 (rowV false (col T k 24) m) ∧ Below wo.heap.size wo wi) (fun i _ => 24 - (intOf i).toNat)
      case atStart => exact ⟨0, by omega, rfl, by rw [rowV_zero, col_len]; exact row24_bv _ _, row24_below _ _⟩
      case round =>
        obtain ⟨m, hm, rfl, hbv, hbi⟩ := hrel
        have HBI := Lib.hid hbi
        by_cases hlm : m < 24
        · obtain ⟨p1, o1, q1, u1, v1, ea, hc1, hg1⟩ := trow (H.out.laterT (gr_then HBI.out HB.out)) K1.out (a := m) (by omega)
          simp only [Option.some.injEq, Addr.mk.injEq, and_true] at ea
          obtain ⟨rfl, rfl⟩ := ea
          have hd1 := hg1 k (by omega)
          have j2 : (0 : Int) ≤ (m : Int) := by omega
          have j3 : (m : Int) < 24 := by omega
          clear hg1
          have hx : (col T k 24)[m]? = some (cellT T m k) := col_at hlm
          have hr : (rowV false (col T k 24) m)[m]? = some false := by rw [rowV_at (by rw [col_len]; omega), if_neg (by omega), if_pos (by rw [col_len]; omega)]
          have hc2 := hbv.cell hr
          have hf2 := hbv.free m
          have HP := Lib.hid (rowV_set (z := false) hx ▸ hbv.put m (cellT T m k))
          clear hbv hbi hx hr
          go_wp2
          go_roundw
          case rel => exact ⟨m + 1, by omega, by go_num, HP.out, HBI.out.setCell (Nat.le_refl _) _⟩
          case measure => simp [intOf]; omega
        · obtain rfl : m = 24 := by omega
          rw [rowV_all (by rw [col_len]; omega)] at hbv
          have HRW := Lib.hid (show RS .bool 4 wr wo.heap.size (wo.heap.size + 1) (some ⟨wo.heap.size, 0, none⟩) 24 (col T k 24) from by have h2 := RS.of_bv (lo := wo.heap.size) (hi := wo.heap.size + 1) hbv (Nat.le_refl _) (Nat.lt_succ_self _) (by rw [col_len]; unfold maxLen; omega); rw [col_len] at h2; exact h2)
          clear hbv hbi
          obtain ⟨rs, hrl0, hro0, hsn0⟩ := (HT.out.late (gr_alloc (o := .cells #[.slice (some ⟨wo.heap.size, 0, none⟩) 24 24] 49) HBI.out)).outer
          have hrl := Lib.hid (hrl0.trans (ttR_len T k))
          have hro := Lib.hid hro0
          have hsn := Lib.hid hsn0
          clear hrl0 hro0 hsn0
          go_wp2_with (at_builtin; refine wpList_app (by rfl) _ _ _ (by rfl) (w.heap.size) 49 i0' (.slice none 0 0) 24 Try.underlying22 hi' hz0' hz1' hz2' (by rfl) (sl) (fun _ => rfl) V (k) (e) (rs) (wo.heap.size) (by rfl) hrl.out hro.out (some ⟨wr.heap.size, 0, none⟩) (1) (1) ([((some ⟨wo.heap.size, 0, none⟩ : Option Addr), 24, 24)]) _ (by rfl) (by rfl) (SV.of_new (f := sl) (y := ((some ⟨wo.heap.size, 0, none⟩ : Option Addr), 24, 24)) (t := 49) wr) (fun h => by cases h) (by unfold maxLen; omega) (by omega) (by have := HB.out.size; have := HBI.out.size; simp only [World.size_alloc]; omega) ?_; intro A5 c5 w5 hr5 hgrow5 hblk5; have HTN := Lib.hid (hsn.out w5 A5 c5 wo.heap.size 24 (col T k 24) (HRW.out.late (gr_alloc (gr_refl wr))) (by omega) (by have := HB.out.size; omega) (by have := HB.out.size; have := HBI.out.size; simp only [World.size_alloc]; omega) hgrow5 hblk5 (by rw [col_len]; exact hr5)); have HBN := Lib.hid (hro.out.after (gr_alloc (o := .cells #[.slice (some ⟨wo.heap.size, 0, none⟩) 24 24] 49) (gr_then HBI.out HB.out)) hgrow5 (by have := HB.out.size; have := HBI.out.size; simp only [World.size_alloc]; omega) (Nat.le_refl _)); clear hr5 hgrow5 hblk5)
          go_roundw
          case rel => exact ⟨k + 1, c5, A5, by omega, by go_num, rfl, by rw [ttR_succ]; exact HTN.out, HBN.out⟩
          case measure => simp [intOf]; omega
    · obtain rfl : k = 24 := by omega
      go_wp2
      go_ret
      exact ⟨V, e, by rw [ttR_len]; rfl, HT.out, HB.out⟩
set_option maxHeartbeats 8000000 in
set_option maxRecDepth 20000 in
theorem implTt_any (A : Option Addr) (c : Nat) (T : List (List Bool)) (w : World) (hn : T.length ≤ 1048576) (h : TB .bool w w.heap.size A T) (hbs : ∀ (j : Nat) bs, T[j]? = some bs → bs.length ≤ 1048576) : Calls Try.prog 19 #[.slice A T.length c] w (RetT (ttX T) (ttC T) 4 49 w) := by
  have H := Lib.hid h
  have HBS := Lib.hid hbs
  clear h hbs
  by_cases k1 : okT T = true
  case neg => have k1 := (Bool.not_eq_true _).mp k1; rw [show ttX T = [] by simp [ttX, k1], show ttC T = 8 by simp [ttC, k1]]; have K1 := Lib.hid k1; clear k1; go_enter Try.func19, Try.ntmps19; go_wp2_with (go_at_call 14; (with_reducible refine (implVt_is _ _ T _ hn H.out HBS.out K1.out).mono ?_); rintro e w1 ⟨rfl, rfl⟩); go_ret2; exact ⟨none, 0, rfl, TR.nil, gr_refl w⟩
  have K1 := Lib.hid k1
  rw [show ttX T = ttR T 24 by simp [ttX, k1], show ttC T = 0 by simp [ttC, k1]]
  obtain ⟨p0, o0, _, _, _, rfl, _, _⟩ := trow H.out K1.out (a := 0) (by omega)
  have HOK : Hid (∀ w2 : World, w2 = w → Calls Try.prog 14 #[.slice (some ⟨p0, o0, none⟩) 24 c] w2 fun e w' => e = .returned (.bool true) ∧ w2 = w') := fun w2 e2 => by subst e2; have h2 := implVt_is _ c T w2 hn H.out HBS.out K1.out; rw [(okT_t k1).1] at h2; exact h2
  rw [(okT_t k1).1]
  clear k1
  go_enter Try.func19, Try.ntmps19; go_wp2_with (first | (go_at_call 14; (with_reducible refine (HOK.out _ rfl).mono ?_); rintro e w1 ⟨rfl, rfl⟩) | (go_at_call 46; (with_reducible refine (turnedT_any p0 o0 c T _ K1.out H.out).mono ?_); rintro e w1 ⟨V, e3, rfl, htr, hbe⟩; have HT := Lib.hid htr; have HB := Lib.hid hbe; clear htr hbe)); go_ret2; exact ⟨V, e3, rfl, HT.out, HB.out⟩
end Go.Proofs.Ytmgbbkglafnibaa
