/- The table of two cranes and the draw of a table: 24 rows of 24 of new memory. -/
import Derived.Test.YtmgbbkglafnibaaCnf
import Derived.Test.YtmgbbkglafnibaaTabE
import Derived.Test.YtmgbbkglafnibaaCrSrc
namespace Go.Proofs.Ytmgbbkglafnibaa
open Go.RowKit Go.Deep
def rw24 (T : List (List Bool)) : Prop := ∀ bs ∈ T, bs.length = 24
theorem rw24_nil : rw24 [] := fun bs h => by cases h
theorem rw24_snoc {T : List (List Bool)} {R : List Bool} (h : rw24 T) (hR : R.length = 24) : rw24 (T ++ [R]) := fun bs hb => by
  rcases List.mem_append.1 hb with h1 | h1
  · exact h bs h1
  · rw [List.mem_singleton.1 h1]; exact hR
theorem rw24_set {T : List (List Bool)} {R : List Bool} (h : rw24 T) (hR : R.length = 24) (k : Nat) : rw24 (T.set k R) := fun bs hb => by
  rcases List.mem_or_eq_of_mem_set hb with h1 | h1
  · exact h bs h1
  · rw [h1]; exact hR
theorem okT_of {T : List (List Bool)} (h1 : T.length = 24) (h2 : rw24 T) : okT T = true := by
  rw [okT_y h1]
  exact all24_y fun j bs hj => h2 bs (List.mem_of_getElem? hj)
/-- a table of new memory was handed back -/
def RetN (w : World) (e : Ending) (w' : World) : Prop := ∃ A c, ∃ T : List (List Bool), e = .returned (.slice A 24 c) ∧ T.length = 24 ∧ rw24 T ∧ TR .bool 4 49 w' w.heap.size w'.heap.size A c T
set_option maxHeartbeats 16000000 in
set_option maxRecDepth 20000 in
theorem table15_any (x0 y0 : Cr) (A A' : Option Addr) (n c n' c' bx by_ : Nat) (d : Int) (w : World) (hnx : x0.nr) (hny : y0.nr) (hhx : 1 ≤ x0.hg ∧ x0.hg ≤ 2000) (hhy : 1 ≤ y0.hg ∧ y0.hg ≤ 2000) (hd : 0 ≤ d ∧ d ≤ 50000) (hx : Cc w bx x0 A n c) (hy : Cc w by_ y0 A' n' c') : Calls Try.prog 73 #[.pointer (some ⟨bx, 0, none⟩), .pointer (some ⟨by_, 0, none⟩), .int .i64 d] w fun e w' => RetN w e w' ∧ Below w.heap.size w w' := by
  obtain ⟨i0, hi, hz0, hz1, hz2⟩ := info_parts infoBool
  obtain ⟨i0', hi', hz0', hz1', hz2'⟩ := info_parts infoBools
  have HX := Lib.hid hx
  have HY := Lib.hid hy
  have HNX := Lib.hid hnx
  have HNY := Lib.hid hny
  clear hx hy hnx hny
  go_enter Try.func73, Try.ntmps73; go_wp2
  go_loopw [7, 8] (fun v i wr => ∃ (k e : Nat) (V : Option Addr) (T : List (List Bool)), k ≤ 24 ∧ i = .int .i64 k ∧ v = .slice V k e ∧ Hid (T.length = k) ∧ Hid (rw24 T) ∧ TR .bool 4 49 wr w.heap.size wr.heap.size V e T ∧ Below w.heap.size w wr) (fun _ i _ => 24 - (intOf i).toNat)
  case atStart => exact ⟨0, 0, some ⟨w.heap.size, 0, none⟩, [], by omega, rfl, rfl, rfl, rw24_nil, (TR.lit0 w).top (by simp), gr_alloc (gr_refl w)⟩
  case round =>
    obtain ⟨k, e, V, T, hk, rfl, rfl, HLT, HRT, htr, hbe⟩ := hrel
    obtain ⟨wo, rfl⟩ : ∃ wo : World, wo = wr := ⟨_, rfl⟩
    have HT := Lib.hid htr
    have HB := Lib.hid hbe
    clear htr hbe
    by_cases hlt : k < 24
    case neg =>
      obtain rfl : k = 24 := by omega
      go_wp2
      go_ret
      exact ⟨⟨V, e, T, rfl, HLT.out, HRT.out, HT.out⟩, HB.out⟩
    have j0 : (0 : Int) ≤ (k : Int) := by omega
    have j1 : (k : Int) < 24 := by omega
    go_wp2
    go_loopw [9, 10] (fun rv i wi => ∃ (m g x : Nat) (R : List Bool), m ≤ 24 ∧ i = .int .i64 m ∧ rv = .slice (some ⟨g, 0, none⟩) m x ∧ Hid (R.length = m) ∧ RS .bool 4 wi wo.heap.size wi.heap.size (some ⟨g, 0, none⟩) x R ∧ Below wo.heap.size wo wi) (fun _ i _ => 24 - (intOf i).toNat)
    case atStart => exact ⟨0, wo.heap.size, 0, [], by omega, rfl, rfl, rfl, (RS.lit0 wo).top, gr_alloc (gr_refl wo)⟩
    case round =>
      obtain ⟨m, g, x, R, hm, rfl, rfl, HLR, hri, hbi⟩ := hrel
      have HRI := Lib.hid hri
      have HBI := Lib.hid hbi
      clear hri hbi
      by_cases hlm : m < 24
      · have j2 : (0 : Int) ≤ (m : Int) := by omega
        have j3 : (m : Int) < 24 := by omega
        obtain ⟨q, hq⟩ : ∃ q, cfB x0 k y0 m d = q := ⟨_, rfl⟩
        have HQV := Lib.hid hq
        clear hq
        go_wp2_with fail
        go_at_call 81
        (with_reducible refine (conflict_any x0 y0 A A' n c n' c' bx by_ k m d _ (by omega) (by omega) HNX.out HNY.out hhx hhy hd (HX.out.late (gr_then HBI.out HB.out)) (HY.out.late (gr_then HBI.out HB.out))).mono ?_)
        rw [HQV.out]
        rintro r w4 ⟨rfl, hb⟩
        have HR4 := Lib.hid (HRI.out.late hb)
        have HB4 := Lib.hid (gr_then hb HBI.out)
        have hz4 := hb.size
        have hgl := HRI.out.ge
        clear hb
        go_wp2_with (at_builtin; refine wpList_app (by rfl) _ _ _ (by rfl) (wo.heap.size) 4 i0 (.bool false) 1 Try.underlying49 hi hz0 hz1 hz2 (by rfl) (Value.bool) (fun _ => rfl) (some ⟨g, 0, none⟩) (m) (x) (R) (wr.heap.size) (by rfl) HLR.out (HR4.out.late (gr_alloc (gr_refl w4))) (some ⟨w4.heap.size, 0, none⟩) (1) (1) ([q]) _ (by rfl) (by rfl) (SV.of_new w4) (fun h => by cases h) (by unfold maxLen; omega) (by omega) (by have := HB4.out.size; simp only [World.size_alloc]; omega) ?_; intro A6 c6 w6 hr6 hgrow6 hblk6; obtain ⟨g6, rfl, hl6, _, _⟩ := hr6.isAt (by simp); have HR6 := Lib.hid hr6; have HB6 := Lib.hid ((HR4.out.late (gr_alloc (gr_refl w4))).after (gr_alloc (o := .cells #[.bool q] 4) HB4.out) hgrow6 (by have := HB4.out.size; simp only [World.size_alloc]; omega) (Nat.le_refl _)); clear hr6 hgrow6 hblk6)
        go_roundw
        case rel => exact ⟨m + 1, g6, c6, R ++ [q], by omega, by go_num, rfl, by rw [Hid, List.length_append, HLR.out]; rfl, HR6.out, HB6.out⟩
        case measure => simp [intOf]; omega
      · obtain rfl : m = 24 := by omega
        have hgl := HRI.out.ge
        have HRW := Lib.hid HRI.out.tight
        obtain ⟨rs, hrl0, hro0, hsn0⟩ := ((HT.out.late (gr_alloc (o := .cells #[.slice (some ⟨g, 0, none⟩) 24 x] 49) HBI.out))).outer
        have hrl := Lib.hid (hrl0.trans HLT.out)
        have hro := Lib.hid hro0
        have hsn := Lib.hid hsn0
        clear hrl0 hro0 hsn0
        go_wp2_with (at_builtin; refine wpList_app (by rfl) _ _ _ (by rfl) (w.heap.size) 49 i0' (.slice none 0 0) 24 Try.underlying22 hi' hz0' hz1' hz2' (by rfl) (sl) (fun _ => rfl) V (k) (e) (rs) (wo.heap.size) (by rfl) hrl.out hro.out (some ⟨wr.heap.size, 0, none⟩) (1) (1) ([((some ⟨g, 0, none⟩ : Option Addr), 24, x)]) _ (by rfl) (by rfl) (SV.of_new (f := sl) (y := ((some ⟨g, 0, none⟩ : Option Addr), 24, x)) (t := 49) wr) (fun h => by cases h) (by unfold maxLen; omega) (by omega) (by have := HB.out.size; have := HBI.out.size; simp only [World.size_alloc]; omega) ?_; intro A5 c5 w5 hr5 hgrow5 hblk5; have HTN := Lib.hid (hsn.out w5 A5 c5 g x R (HRW.out.late (gr_alloc (gr_refl wr))) (by omega) (by have := HB.out.size; omega) (by have := HB.out.size; have := HBI.out.size; simp only [World.size_alloc]; omega) hgrow5 hblk5 (by rw [HLR.out]; exact hr5)); have HBN := Lib.hid (hro.out.after (gr_alloc (o := .cells #[.slice (some ⟨g, 0, none⟩) 24 x] 49) (gr_then HBI.out HB.out)) hgrow5 (by have := HB.out.size; have := HBI.out.size; simp only [World.size_alloc]; omega) (Nat.le_refl _)); clear hr5 hgrow5 hblk5)
        go_roundw
        case rel => exact ⟨k + 1, c5, A5, T ++ [R], by omega, by go_num, rfl, by rw [Hid, List.length_append, HLT.out]; rfl, rw24_snoc HRT.out HLR.out, HTN.out, HBN.out⟩
        case measure => simp [intOf]; omega
set_option maxHeartbeats 32000000 in
set_option maxRecDepth 20000 in
theorem draw15_any (p N : Nat) (w : World) (hN : N + 2000 ≤ 1000000) (h : Src w p N) : Calls Try.prog 59 #[.pointer (some ⟨p, 0, none⟩)] w fun e w' => RetN w e w' ∧ Only p (p + 1) w w' := by
  obtain ⟨i0, hi, hz0, hz1, hz2⟩ := info_parts infoBool
  obtain ⟨i0', hi', hz0', hz1', hz2'⟩ := info_parts infoBools
  have hpl := h.lt
  have H := Lib.hid h
  clear h
  go_enter Try.func59, Try.ntmps59
  go_wp2_with fail
  go_at_call 71
  (with_reducible refine (one_any p _ _ _ (by omega) (i64_of (by omega)) H.out).mono ?_)
  rintro r w1 ⟨b, rfl, hs, ho⟩
  have HS1 := Lib.hid hs
  have HO1 := Lib.hid ho
  have hsz1 := ho.size
  clear hs ho
  cases b
  case false =>
    have HT0 := Lib.hid (((TR.lit0 (f := Value.bool) (t := 4) (ts := 49) w1).top (by simp)).wide (lo' := w.heap.size) hsz1 (Nat.le_refl _))
    have HSa := Lib.hid (HS1.out.alloc (.cells #[] 49))
    have HOa := Lib.hid (HO1.out.alloc (.cells #[] 49))
    have hza : w1.heap.size + 1 ≤ (w1.alloc (.cells #[] 49)).heap.size := by simp
    go_wp2_with fail
    generalize w1.alloc (.cells #[] 49) = v1 at *
    go_at_call 74
    (with_reducible refine (pick_any p _ _ _ (by omega) (i64_of (by omega)) HSa.out).mono ?_)
    rintro r w2 ⟨z, rfl, hy1, hy2, hy3, hy4, hs, ho⟩
    have HS2 := Lib.hid hs
    have HT2 := Lib.hid ((HT0.out.only ho (.inr (by omega))).wide (Nat.le_refl _) ho.size)
    have HO2 := Lib.hid (HOa.out.trans ho)
    have hsz2 := HO2.out.size
    clear hs ho
    have hmb : 2 ≤ 2 + z ∧ 2 + z ≤ 13 := by omega
    go_wp2
    go_loopw [5, 7] (fun v i wr => ∃ (k e : Nat) (V : Option Addr) (T : List (List Bool)), k ≤ 24 ∧ i = .int .i64 k ∧ v = .slice V k e ∧ Hid (T.length = k) ∧ Hid (rw24 T) ∧ TR .bool 4 49 wr w.heap.size wr.heap.size V e T ∧ Src wr p (N + 10 + 60 * k) ∧ Only p (p + 1) w wr) (fun _ i _ => 24 - (intOf i).toNat)
    case atStart => exact ⟨0, 0, _, [], by omega, rfl, rfl, rfl, rw24_nil, HT2.out, HS2.out.more (by omega), HO2.out⟩
    case round =>
      obtain ⟨k, e, V, T, hk, rfl, rfl, HLT, HRT, htr, hsr, hor⟩ := hrel
      obtain ⟨wo, rfl⟩ : ∃ wo : World, wo = wr := ⟨_, rfl⟩
      have HT := Lib.hid htr
      have HSr := Lib.hid hsr
      have HOr := Lib.hid hor
      have hzo := hor.size
      clear htr hsr hor
      by_cases hlt : k < 24
      case neg =>
        obtain rfl : k = 24 := by omega
        go_wp2_with fail
        go_at_call 71
        (with_reducible refine (one_any p _ _ _ (by omega) (i64_of (by omega)) HSr.out).mono ?_)
        rintro r w8 ⟨b8, rfl, hs, ho⟩
        have HS8 := Lib.hid hs
        have HT8 := Lib.hid ((HT.out.only ho (.inr (by omega))).wide (Nat.le_refl _) ho.size)
        have HO8 := Lib.hid (HOr.out.trans ho)
        clear hs ho
        cases b8
        case false => go_wp2; go_ret; exact ⟨⟨V, e, T, rfl, HLT.out, HRT.out, HT8.out⟩, HO8.out⟩
        go_wp2
        go_loopw [10] (fun i wr => ∃ (m : Nat) (T9 : List (List Bool)), m ≤ 24 ∧ i = .int .i64 m ∧ Hid (T9.length = 24) ∧ Hid (rw24 T9) ∧ TR .bool 4 49 wr w.heap.size wr.heap.size V e T9 ∧ Only p (p + 1) w wr) (fun i _ => 24 - (intOf i).toNat)
        case atStart => exact ⟨0, T, by omega, rfl, HLT.out, HRT.out, HT8.out, HO8.out⟩
        case round =>
          obtain ⟨m, T9, hm, rfl, HL9, HR9, ht9, ho9⟩ := hrel
          have HT9 := Lib.hid ht9
          have HO9 := Lib.hid ho9
          clear ht9 ho9
          by_cases hlm : m < 24
          case neg =>
            obtain rfl : m = 24 := by omega
            go_wp2
            go_ret
            exact ⟨⟨V, e, T9, rfl, HL9.out, HR9.out, HT9.out⟩, HO9.out⟩
          have j2 : (0 : Int) ≤ (m : Int) := by omega
          have j3 : (m : Int) < 24 := by omega
          obtain ⟨R, hR⟩ := at_of_lt (xs := T9) (k := 3) (by rw [HL9.out]; omega)
          have hR24 : R.length = 24 := HR9.out R (List.mem_of_getElem? hR)
          obtain ⟨g9, gk, ck, rfl, hc9, hrs, hlo, hhi, hup⟩ := HT9.out.row hR
          rw [hR24] at hc9
          obtain ⟨y, hy⟩ := at_of_lt (xs := R) (k := m) (by omega)
          obtain ⟨gk', eg, _, _, hcell, hfrz, hput, _⟩ := hrs.put hy true
          simp only [Option.some.injEq, Addr.mk.injEq, and_true] at eg
          subst eg
          have HTN := Lib.hid (hup (wr.setCell ⟨gk, m, none⟩ (.bool true)) (R.set m true) ((Only.refl gk (gk + 1) wr).setCell (Nat.le_refl _) (Nat.lt_succ_self _) _) hput (by simp))
          have HON := Lib.hid (HO9.out.setNew (q := ⟨gk, m, none⟩) (.bool true) (by dsimp only; omega))
          have HRN := Lib.hid (rw24_set (R := R.set m true) HR9.out (by simp [hR24]) 3)
          clear hR hrs hup hy hput hR24
          go_wp2
          go_roundw
          case rel => exact ⟨m + 1, T9.set 3 (R.set m true), by omega, by go_num, by rw [Hid, List.length_set]; exact HL9.out, HRN.out, HTN.out.wide (Nat.le_refl _) (by simp), HON.out⟩
          case measure => simp [intOf]; omega
      have j0 : (0 : Int) ≤ (k : Int) := by omega
      have j1 : (k : Int) < 24 := by omega
      have hzw : p + 1 ≤ wo.heap.size := by omega
      go_wp2
      go_loopw [8, 9] (fun rv i wi => ∃ (m g x : Nat) (R : List Bool), m ≤ 24 ∧ i = .int .i64 m ∧ rv = .slice (some ⟨g, 0, none⟩) m x ∧ Hid (R.length = m) ∧ RS .bool 4 wi wo.heap.size wi.heap.size (some ⟨g, 0, none⟩) x R ∧ Src wi p (N + 10 + 60 * k + 2 * m) ∧ Only p (p + 1) wo wi) (fun _ i _ => 24 - (intOf i).toNat)
      case atStart => exact ⟨0, wo.heap.size, 0, [], by omega, rfl, rfl, rfl, (RS.lit0 wo).top, HSr.out.alloc _, (Only.refl p (p + 1) wo).alloc _⟩
      case round =>
        obtain ⟨m, g, x, R, hm, rfl, rfl, HLR, hri, hsi, hoi⟩ := hrel
        have HRI := Lib.hid hri
        have HSI := Lib.hid hsi
        have HBI := Lib.hid hoi
        have hzi := hoi.size
        have hgl := hri.ge
        clear hri hsi hoi
        by_cases hlm : m < 24
        · have j2 : (0 : Int) ≤ (m : Int) := by omega
          have j3 : (m : Int) < 24 := by omega
          go_wp2_with fail
          go_at_call 74
          (with_reducible refine (pick_any p _ _ _ (by omega) (i64_of (by omega)) HSI.out).mono ?_)
          rintro r w4 ⟨z4, rfl, hv1, hv2, hv3, hv4, hs, ho⟩
          have HS4 := Lib.hid hs
          have HR4 := Lib.hid (HRI.out.only ho (.inr (by omega)))
          have HO4 := Lib.hid (HBI.out.trans ho)
          have hsz4 := ho.size
          clear hs ho
          obtain ⟨q, hq⟩ : ∃ q, (z4 == (0 : Int)) = q := ⟨_, rfl⟩
          go_wp2_with (at_builtin; refine wpList_app (by rfl) _ _ _ (by rfl) (wo.heap.size) 4 i0 (.bool false) 1 Try.underlying49 hi hz0 hz1 hz2 (by rfl) (Value.bool) (fun _ => rfl) (some ⟨g, 0, none⟩) (m) (x) (R) (wr.heap.size) (by rfl) HLR.out (HR4.out.late (gr_alloc (gr_refl w4))) (some ⟨w4.heap.size, 0, none⟩) (1) (1) ([q]) _ (by rfl) (by rfl) (SV.of_new w4) (fun h => by cases h) (by unfold maxLen; omega) (by omega) (by have := HO4.out.size; simp only [World.size_alloc]; omega) ?_; intro A6 c6 w6 hr6 hgrow6 hblk6; obtain ⟨g6, rfl, hl6, _, _⟩ := hr6.isAt (by simp); have HR6 := Lib.hid hr6; have HS6 := Lib.hid ((HS4.out.alloc (.cells #[.bool q] 4)).grown hgrow6 (by intro k' hk'; simp at hk'; omega)); have HO6 := Lib.hid ((HO4.out.alloc (.cells #[.bool q] 4)).grown hgrow6 (by intro k' hk'; simp at hk'; omega)); clear hr6 hgrow6 hblk6)
          go_roundw
          case rel => exact ⟨m + 1, g6, c6, R ++ [q], by omega, by go_num, rfl, by rw [Hid, List.length_append, HLR.out]; rfl, HR6.out, HS6.out.more (by omega), HO6.out⟩
          case measure => simp [intOf]; omega
        · obtain rfl : m = 24 := by omega
          have HRW := Lib.hid HRI.out.tight
          obtain ⟨rs, hrl0, hro0, hsn0⟩ := (((HT.out.only HBI.out (.inr (by omega))).late (gr_alloc (o := .cells #[.slice (some ⟨g, 0, none⟩) 24 x] 49) (gr_refl wr)))).outer
          have hrl := Lib.hid (hrl0.trans HLT.out)
          have hro := Lib.hid hro0
          have hsn := Lib.hid hsn0
          clear hrl0 hro0 hsn0
          have hvk := row_ge (fun g hg => (hro.out.form.2 g hg).1) hro.out.form.1
          go_wp2_with (at_builtin; refine wpList_app (by rfl) _ _ _ (by rfl) (w.heap.size) 49 i0' (.slice none 0 0) 24 Try.underlying22 hi' hz0' hz1' hz2' (by rfl) (sl) (fun _ => rfl) V (k) (e) (rs) (wo.heap.size) (by rfl) hrl.out hro.out (some ⟨wr.heap.size, 0, none⟩) (1) (1) ([((some ⟨g, 0, none⟩ : Option Addr), 24, x)]) _ (by rfl) (by rfl) (SV.of_new (f := sl) (y := ((some ⟨g, 0, none⟩ : Option Addr), 24, x)) (t := 49) wr) (fun h => by cases h) (by unfold maxLen; omega) (by omega) (by have := HOr.out.size; have := HBI.out.size; simp only [World.size_alloc]; omega) ?_; intro A5 c5 w5 hr5 hgrow5 hblk5; have HTN := Lib.hid (hsn.out w5 A5 c5 g x R (HRW.out.late (gr_alloc (gr_refl wr))) (by omega) (by have := HOr.out.size; omega) (by have := HOr.out.size; have := HBI.out.size; simp only [World.size_alloc]; omega) hgrow5 hblk5 (by rw [HLR.out]; exact hr5)); have HSN := Lib.hid ((HSI.out.alloc (.cells #[.slice (some ⟨g, 0, none⟩) 24 x] 49)).grown hgrow5 (fun k' hk' => by have := hvk k' hk'; omega)); have HBN := Lib.hid (((HOr.out.trans HBI.out).alloc (.cells #[.slice (some ⟨g, 0, none⟩) 24 x] 49)).grown hgrow5 hvk); clear hr5 hgrow5 hblk5)
          go_roundw
          case rel => exact ⟨k + 1, c5, A5, T ++ [R], by omega, by go_num, rfl, by rw [Hid, List.length_append, HLT.out]; rfl, rw24_snoc HRT.out HLR.out, HTN.out, HSN.out.more (by omega), HBN.out⟩
          case measure => simp [intOf]; omega
  case true =>
    go_wp2_with fail
    go_at_call 72
    (with_reducible refine (two_any p _ _ (by omega) HS1.out).mono ?_)
    rintro r w2 ⟨x, y, A, A', n, c, n', c', rfl, hnm, hp, hd1, hd2, hc1, hc2, hs, ho⟩
    have HS2 := Lib.hid (hs.alloc (.cells #[.string x.nm, .int .i64 x.px, .int .i64 x.py, .int .i64 x.hg, .int .i64 x.jb, .int .i64 x.bk, .slice A n c] 82))
    replace HS2 := Lib.hid (HS2.out.alloc (.cells #[.string y.nm, .int .i64 y.px, .int .i64 y.py, .int .i64 y.hg, .int .i64 y.jb, .int .i64 y.bk, .slice A' n' c'] 82))
    have HO2 := Lib.hid (((HO1.out.trans ho).alloc (.cells #[.string x.nm, .int .i64 x.px, .int .i64 x.py, .int .i64 x.hg, .int .i64 x.jb, .int .i64 x.bk, .slice A n c] 82)).alloc (.cells #[.string y.nm, .int .i64 y.px, .int .i64 y.py, .int .i64 y.hg, .int .i64 y.jb, .int .i64 y.bk, .slice A' n' c'] 82))
    have hsz2 := ho.size
    have HX := Lib.hid ((Cc.box w2 82 x A n c).late (show Below (w2.alloc (.cells #[.string x.nm, .int .i64 x.px, .int .i64 x.py, .int .i64 x.hg, .int .i64 x.jb, .int .i64 x.bk, .slice A n c] 82)).heap.size (w2.alloc (.cells #[.string x.nm, .int .i64 x.px, .int .i64 x.py, .int .i64 x.hg, .int .i64 x.jb, .int .i64 x.bk, .slice A n c] 82)) ((w2.alloc (.cells #[.string x.nm, .int .i64 x.px, .int .i64 x.py, .int .i64 x.hg, .int .i64 x.jb, .int .i64 x.bk, .slice A n c] 82)).alloc (.cells #[.string y.nm, .int .i64 y.px, .int .i64 y.py, .int .i64 y.hg, .int .i64 y.jb, .int .i64 y.bk, .slice A' n' c'] 82)) from gr_alloc (gr_refl _)))
    have HY := Lib.hid (show Cc ((w2.alloc (.cells #[.string x.nm, .int .i64 x.px, .int .i64 x.py, .int .i64 x.hg, .int .i64 x.jb, .int .i64 x.bk, .slice A n c] 82)).alloc (.cells #[.string y.nm, .int .i64 y.px, .int .i64 y.py, .int .i64 y.hg, .int .i64 y.jb, .int .i64 y.bk, .slice A' n' c'] 82)) (w2.heap.size + 1) y A' n' c' from by have h := Cc.box (w2.alloc (.cells #[.string x.nm, .int .i64 x.px, .int .i64 x.py, .int .i64 x.hg, .int .i64 x.jb, .int .i64 x.bk, .slice A n c] 82)) 82 y A' n' c'; simp only [World.size_alloc] at h; exact h)
    have hsz3 : w2.heap.size + 2 ≤ ((w2.alloc (.cells #[.string x.nm, .int .i64 x.px, .int .i64 x.py, .int .i64 x.hg, .int .i64 x.jb, .int .i64 x.bk, .slice A n c] 82)).alloc (.cells #[.string y.nm, .int .i64 y.px, .int .i64 y.py, .int .i64 y.hg, .int .i64 y.jb, .int .i64 y.bk, .slice A' n' c'] 82)).heap.size := by simp
    obtain ⟨d1, d2, d3, d4, d5, _⟩ := hd1
    obtain ⟨e1, e2, e3, e4, e5, _⟩ := hd2
    have HNX := Lib.hid (show x.nr from ⟨⟨by omega, by omega, by omega, by omega⟩, by omega, by omega⟩)
    have HNY := Lib.hid (show y.nr from ⟨⟨by omega, by omega, by omega, by omega⟩, by omega, by omega⟩)
    clear hnm hp hc1 hc2 hs ho
    go_wp2_with fail
    generalize (w2.alloc (.cells #[.string x.nm, .int .i64 x.px, .int .i64 x.py, .int .i64 x.hg, .int .i64 x.jb, .int .i64 x.bk, .slice A n c] 82)).alloc (.cells #[.string y.nm, .int .i64 y.px, .int .i64 y.py, .int .i64 y.hg, .int .i64 y.jb, .int .i64 y.bk, .slice A' n' c'] 82) = v3 at *
    go_at_call 74
    (with_reducible refine (pick_any p _ _ _ (by omega) (i64_of (by omega)) HS2.out).mono ?_)
    rintro r w4 ⟨z, rfl, hy1, hy2, hy3, hy4, hs, ho⟩
    have hk9 : ∀ b, w.heap.size ≤ b → (b < p ∨ p + 1 ≤ b) := fun b hb => by omega
    have HX4 := Lib.hid (show Cc w4 w2.heap.size x A n c from ⟨ho.keepc (by omega) HX.out.1, ho.keepc (by omega) HX.out.2.1, ho.keepc (by omega) HX.out.2.2.1, ho.keepc (by omega) HX.out.2.2.2.1, ho.keepc (by omega) HX.out.2.2.2.2.1, ho.keepc (by omega) HX.out.2.2.2.2.2.1, ho.keepc (by omega) HX.out.2.2.2.2.2.2⟩)
    have HY4 := Lib.hid (show Cc w4 (w2.heap.size + 1) y A' n' c' from ⟨ho.keepc (by omega) HY.out.1, ho.keepc (by omega) HY.out.2.1, ho.keepc (by omega) HY.out.2.2.1, ho.keepc (by omega) HY.out.2.2.2.1, ho.keepc (by omega) HY.out.2.2.2.2.1, ho.keepc (by omega) HY.out.2.2.2.2.2.1, ho.keepc (by omega) HY.out.2.2.2.2.2.2⟩)
    have HO4 := Lib.hid (HO2.out.trans ho)
    have hsz4 := HO4.out.size
    clear hs ho hk9
    go_wp2_with fail
    go_at_call 73
    (with_reducible refine (table15_any x y A A' n c n' c' w2.heap.size (w2.heap.size + 1) (10 + z) _ HNX.out HNY.out (by omega) (by omega) (by omega) HX4.out HY4.out).mono ?_)
    rintro r w5 ⟨⟨V, e, T, rfl, hl, hr, ht⟩, hb⟩
    have HT := Lib.hid (ht.wide (lo' := w.heap.size) hsz4 (Nat.le_refl _))
    have HO5 := Lib.hid (HO4.out.trans (Only.of_below hb))
    have HL := Lib.hid hl
    have HR := Lib.hid hr
    clear ht hb hl hr
    go_wp2
    go_ret
    exact ⟨⟨V, e, T, rfl, HL.out, HR.out, HT.out⟩, HO5.out⟩
set_option maxHeartbeats 4000000 in
set_option maxRecDepth 20000 in
theorem a2table_any (A0 : Option Addr) (c0 : Nat) (bs : List Int) (w : World) (hn : bs.length ≤ 1048576) (hq : ∀ x ∈ bs, U8 x) (h : SV (.int .u8) w w.heap.size A0 bs) : Calls Try.prog 38 #[.slice A0 bs.length c0] w fun e w' => RetN w e w' ∧ Below w.heap.size w w' := by
  have H := Lib.hid h
  have HQ := Lib.hid hq
  clear h hq
  go_enter Try.func38, Try.ntmps38
  go_wp2_with fail
  go_at_call 60
  (with_reducible refine (from_any _ _ bs _ hn HQ.out H.out).mono ?_)
  rintro r w1 ⟨rfl, hs, hb⟩
  have HS := Lib.hid hs
  have HB := Lib.hid hb
  have hsz1 := hb.size
  clear hs hb
  go_wp2_with fail
  go_at_call 59
  (with_reducible refine (draw15_any w.heap.size _ _ (by omega) HS.out).mono ?_)
  rintro r w2 ⟨⟨V, e, T, rfl, hl, hr, ht⟩, ho⟩
  have HT := Lib.hid (ht.wide (lo' := w.heap.size) hsz1 (Nat.le_refl _))
  have HO := Lib.hid (Only.after HB.out ho (Nat.le_refl _) (Nat.le_refl _))
  have HL := Lib.hid hl
  have HR := Lib.hid hr
  clear ht ho hl hr
  go_wp2
  go_ret
  exact ⟨⟨V, e, T, rfl, HL.out, HR.out, HT.out⟩, HO.out⟩
end Go.Proofs.Ytmgbbkglafnibaa
