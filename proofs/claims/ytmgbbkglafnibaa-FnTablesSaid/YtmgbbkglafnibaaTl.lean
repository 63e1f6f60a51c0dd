/- TableLines, both sides. -/
import Derived.Test.YtmgbbkglafnibaaMarkS
import Derived.Test.YtmgbbkglafnibaaBld
import Derived.Test.YtmgbbkglafnibaaShelf
import Derived.Test.YtmgbbkglafnibaaCell
import Derived.Test.YtmgbbkglafnibaaMarkB
namespace Go.Proofs.Ytmgbbkglafnibaa
open Go.RowKit Go.Deep
theorem RS.rowne {α : Type} {f : α → Value} {e : TypeId} {w : World} {lo hi c k : Nat} {A : Option Addr} {xs : List α} (h : RS f e w lo hi A c xs) (hk : k < lo) : A.map (·.block) ≠ some k := by
  rcases h with ⟨rfl, _⟩ | ⟨g, cur, rfl, h1, _⟩
  · simp
  · simp; omega
def chT (b : Bool) : UInt8 := if b = true then 35 else 46
/-- the first j letters of line k -/
def lnK (T : List (List Bool)) (k j : Nat) : List UInt8 := (List.range j).map fun b => chT (cellT T k b)
theorem lnK_len (T : List (List Bool)) (k j : Nat) : (lnK T k j).length = j := by simp [lnK]
theorem lnK_succ (T : List (List Bool)) (k j : Nat) : lnK T k (j + 1) = lnK T k j ++ [chT (cellT T k j)] := by simp [lnK, List.range_succ]
/-- the first k lines -/
def lnS (T : List (List Bool)) (k : Nat) : List ByteArray := (List.range k).map fun a => strB (lnK T a 24)
theorem lnS_len (T : List (List Bool)) (k : Nat) : (lnS T k).length = k := by simp [lnS]
theorem lnS_succ (T : List (List Bool)) (k : Nat) : lnS T (k + 1) = lnS T k ++ [strB (lnK T k 24)] := by simp [lnS, List.range_succ]
def tlX (T : List (List Bool)) : List ByteArray := if okT T = true then lnS T 24 else []
def tlC (T : List (List Bool)) : Int := if okT T = true then 0 else 8
theorem tlX_len (T : List (List Bool)) : (tlX T).length ≤ 24 := by
  unfold tlX
  split
  · rw [lnS_len]; exact Nat.le_refl _
  · simp
/-- strings of new memory were handed back, and a code -/
def RetSt (xs : List ByteArray) (k : Int) (e : TypeId) (w : World) (E : Ending) (w' : World) : Prop :=
  ∃ A c, E = .returned (.tuple #[.slice A xs.length c, .int .i64 k]) ∧ RS .string e w' w.heap.size w'.heap.size A c xs ∧ Below w.heap.size w w'
set_option maxHeartbeats 8000000 in
set_option maxRecDepth 20000 in
theorem specTl_any (A : Option Addr) (c : Nat) (T : List (List Bool)) (w : World) (hn : T.length ≤ 1048576) (h : TB .bool w w.heap.size A T) : Calls Try.prog 32 #[.slice A T.length c] w (RetSt (tlX T) (tlC T) 9 w) := by
  obtain ⟨iS, hiS, hz0S, hz1S, hz2S⟩ := info_parts strInfo
  have H := Lib.hid h
  obtain ⟨iB, hiB, hz0B, hz1B, hz2B⟩ := info_parts (show (Try.prog.info? 5).map (fun i => (i.zero, i.size, i.bytes)) = some (some (.int .u8 0), 1, 1) by kernel_rfl)
  clear h
  by_cases k1 : okT T = true
  case neg =>
    have k1 := (Bool.not_eq_true _).mp k1
    rw [show tlX T = [] from if_neg (by rw [k1]; decide), show tlC T = 8 from if_neg (by rw [k1]; decide)]
    have J := Lib.hid k1
    clear k1
    go_enter Try.func32, Try.ntmps32; go_wp2_with (go_at_call 41; (with_reducible refine (l15Ok_is A c T _ hn H.out J.out).mono ?_); rintro e w1 ⟨rfl, rfl⟩)
    refine bodyPost_ret (v := .tuple #[.slice none 0 0, .int .i64 8]) (by simp [results, Try.results32, go_sem, *]) rfl ⟨none, 0, rfl, RS.nil, gr_refl w⟩
  rw [show tlX T = lnS T 24 from if_pos k1, show tlC T = 0 from if_pos k1]
  have J := Lib.hid k1
  have HL := (okT_t k1).1
  have HLL := Lib.hid HL
  obtain ⟨n, hn'⟩ : ∃ n, T.length = n := ⟨_, rfl⟩
  have HN := Lib.hid hn'
  have hn24 : n ≤ 24 ∧ 24 ≤ n := by omega
  have HO : Hid (Calls Try.prog 41 #[.slice A n c] w fun e w' => e = .returned (.bool true) ∧ w = w') := by rw [← hn']; exact l15Ok_is A c T _ hn H.out J.out
  obtain rfl : n = 24 := by omega
  rw [hn']
  clear hn' HL k1 hn24
  go_enter Try.func32, Try.ntmps32; go_wp2_with (go_at_call 41; (with_reducible refine HO.out.mono ?_); rintro e w1 ⟨rfl, rfl⟩)
  go_loopw [4, 5] (fun o i wr => ∃ (k q : Nat) (B : Option Addr), k ≤ 24 ∧ i = .int .i64 (k : Int) ∧ o = .slice B k q ∧ RS .string 9 wr w.heap.size wr.heap.size B q (lnS T k) ∧ Below w.heap.size w wr) (fun _ i _ => 24 - (intOf i).toNat)
  case atStart => exact ⟨0, 0, some ⟨w.heap.size, 0, none⟩, by omega, by simp, rfl, (RS.lit0 (f := Value.string) (e := 9) w).top, gr_alloc (gr_refl w)⟩
  case round =>
    obtain ⟨k, q, B, hk, rfl, rfl, hr, hbe⟩ := hrel
    have HR := Lib.hid hr
    have HB := Lib.hid hbe
    have hsz := hbe.size
    by_cases hlt : k < 24
    case neg =>
      obtain rfl : k = 24 := by omega
      clear hr hbe hk hlt
      simp only [show ((24 : Nat) : Int) = 24 from rfl]
      go_wp2
      refine bodyPost_ret (v := .tuple #[.slice B 24 q, .int .i64 0]) (by simp [results, Try.results32, go_sem, *]) rfl ⟨B, q, by rw [lnS_len], HR.out, HB.out⟩
    generalize wr = v1 at *
    obtain ⟨p, o, qb, u, e0, ea, hrow, hcells⟩ := trow (H.out.below hbe) J.out (a := k) (by omega)
    subst ea
    have HCL := Lib.hid hcells
    have hpB : p < w.heap.size := by obtain ⟨bs, hb9⟩ := at_of_lt (xs := T) (k := k) (by rw [HN.out]; exact hlt); obtain ⟨b', off', _, _, e9, hB9, _⟩ := H.out.row hb9; simp only [Option.some.injEq, Addr.mk.injEq, and_true] at e9; omega
    have hqB : qb < v1.heap.size := lt_of_cell (hcells 0 (by omega))
    clear hr hbe hcells
    have i0 : (0 : Int) ≤ (k : Int) := by omega
    have i1 : (k : Int) < 24 := by omega
    go_wp2
    go_loopw [6, 7] (fun ln j wr => ∃ (j' d : Nat) (E : Option Addr), j' ≤ 24 ∧ j = .int .i64 (j' : Int) ∧ ln = .slice E j' d ∧ RS bF 5 wr v1.heap.size wr.heap.size E d (lnK T k j') ∧ Below v1.heap.size v1 wr) (fun _ j _ => 24 - (intOf j).toNat)
    case atStart => exact ⟨0, 0, some ⟨v1.heap.size, 0, none⟩, by omega, by simp, rfl, (RS.lit0 (f := bF) (e := 5) v1).top, gr_alloc (gr_refl v1)⟩
    case round =>
      obtain ⟨j, d, E, hj, rfl, rfl, hr5, hb5⟩ := hrel
      have HR5 := Lib.hid hr5
      have HB5 := Lib.hid hb5
      have hz5 := hb5.size
      replace hrow := (hb5.cell (p := ⟨p, o + k, none⟩) (by simp only; omega)).trans hrow
      by_cases hlj : j < 24
      · have hcl := (hb5.cell (p := ⟨qb, u + j, none⟩) hqB).trans (HCL.out j (by omega))
        have HLS := Lib.hid (lnK_succ T k j)
        obtain ⟨r, hrr⟩ : ∃ r, cellT T k j = r := ⟨_, rfl⟩
        rw [hrr] at hcl HLS
        have j0 : (0 : Int) ≤ (j : Int) := by omega
        have j1 : (j : Int) < 24 := by omega
        clear hr5 hb5 hrr
        cases r with
        | true =>
          have HLIT := Lib.hid (show SV bF (wr.alloc (.cells #[.int .u8 35] 5)) (wr.heap.size + 1) (some ⟨wr.heap.size, 0, none⟩) [chT true] from SV.of_new (f := bF) (y := chT true) wr)
          go_wp2_with (at_builtin; refine wpList_app (by rfl) _ _ 45 (by rfl) (v1.heap.size) 5 iB (.int .u8 0) 1 Try.underlying45 hiB hz0B hz1B hz2B (by rfl) bF (fun _ => rfl) E (j) (d) (lnK T k j) _ (by rfl) (by rw [lnK_len]) (HR5.out.late (gr_alloc (gr_refl wr))) (some ⟨wr.heap.size, 0, none⟩) 1 1 [chT true] _ (by rfl) (by rfl) HLIT.out (fun h => by cases h) (by unfold maxLen; omega) (by omega) (by simp only [World.size_alloc]; omega) ?_; intro A2 c2 w2 hr2 hgrow hblk; have HR6 := Lib.hid hr2; have HB6 := Lib.hid ((gr_alloc HB5.out).grown hgrow (by simp only [World.size_alloc]; omega) (by intro k' hk'; rcases Nat.lt_or_ge k' v1.heap.size with h8 | h8; (exact absurd hk' (HR5.out.rowne h8)); omega)); clear hr2 hgrow hblk)
          go_roundw
          case rel => exact ⟨j + 1, c2, A2, by omega, by go_num, rfl, by rw [HLS.out]; exact HR6.out, HB6.out⟩
          case measure => simp [intOf]; omega
        | false =>
          have HLIT := Lib.hid (show SV bF (wr.alloc (.cells #[.int .u8 46] 5)) (wr.heap.size + 1) (some ⟨wr.heap.size, 0, none⟩) [chT false] from SV.of_new (f := bF) (y := chT false) wr)
          go_wp2_with (at_builtin; refine wpList_app (by rfl) _ _ 45 (by rfl) (v1.heap.size) 5 iB (.int .u8 0) 1 Try.underlying45 hiB hz0B hz1B hz2B (by rfl) bF (fun _ => rfl) E (j) (d) (lnK T k j) _ (by rfl) (by rw [lnK_len]) (HR5.out.late (gr_alloc (gr_refl wr))) (some ⟨wr.heap.size, 0, none⟩) 1 1 [chT false] _ (by rfl) (by rfl) HLIT.out (fun h => by cases h) (by unfold maxLen; omega) (by omega) (by simp only [World.size_alloc]; omega) ?_; intro A2 c2 w2 hr2 hgrow hblk; have HR6 := Lib.hid hr2; have HB6 := Lib.hid ((gr_alloc HB5.out).grown hgrow (by simp only [World.size_alloc]; omega) (by intro k' hk'; rcases Nat.lt_or_ge k' v1.heap.size with h8 | h8; (exact absurd hk' (HR5.out.rowne h8)); omega)); clear hr2 hgrow hblk)
          go_roundw
          case rel => exact ⟨j + 1, c2, A2, by omega, by go_num, rfl, by rw [HLS.out]; exact HR6.out, HB6.out⟩
          case measure => simp [intOf]; omega
      · obtain rfl : j = 24 := by omega
        simp only [show ((24 : Nat) : Int) = 24 from rfl]
        have htx := hr5.text (P := Try.prog) (by rw [lnK_len]; omega) 45 9 5 Try.underlying45 Try.underlying5 Try.underlying9
        rw [lnK_len] at htx
        have HRO := Lib.hid (HR.out.late hb5)
        have HBO := Lib.hid (gr_then hb5 HB.out)
        have HLN := Lib.hid (lnS_succ T k)
        clear hr5 hb5 hj hlj
        go_wp2_with (at_builtin; refine wpList_app (by rfl) _ _ 40 (by rfl) (w.heap.size) 9 iS (.string ⟨#[]⟩) 16 Try.underlying40 hiS hz0S hz1S hz2S (by rfl) Value.string (fun _ => rfl) B (k) (q) (lnS T k) _ (by rfl) (by rw [lnS_len]) (HRO.out.late (gr_alloc (gr_refl wr))) (some ⟨wr.heap.size, 0, none⟩) 1 1 [strB (lnK T k 24)] _ (by rfl) (by rfl) (SV.of_new wr) (fun h => by cases h) (by unfold maxLen; omega) (by omega) (by simp only [World.size_alloc]; omega) ?_; intro A2 c2 w2 hr2 hgrow hblk; have HR6 := Lib.hid hr2; have HB6 := Lib.hid ((gr_alloc HBO.out).grown hgrow (by simp only [World.size_alloc]; omega) (by intro k' hk'; rcases Nat.lt_or_ge k' w.heap.size with h8 | h8; (exact absurd hk' (HRO.out.rowne h8)); omega)); clear hr2 hgrow hblk)
        go_roundw
        case rel => exact ⟨k + 1, c2, A2, by omega, by go_num, rfl, by rw [HLN.out]; exact HR6.out, HB6.out⟩
        case measure => simp [intOf]; omega
set_option maxHeartbeats 8000000 in
set_option maxRecDepth 20000 in
theorem implTl_any (A : Option Addr) (c : Nat) (T : List (List Bool)) (w : World) (hn : T.length ≤ 1048576) (h : TB .bool w w.heap.size A T) (hbs : ∀ (j : Nat) bs, T[j]? = some bs → bs.length ≤ 1048576) : Calls Try.prog 33 #[.slice A T.length c] w (RetSt (tlX T) (tlC T) 9 w) := by
  obtain ⟨iS, hiS, hz0S, hz1S, hz2S⟩ := info_parts strInfo
  have H := Lib.hid h
  have HBS := Lib.hid hbs
  clear h
  by_cases k1 : okT T = true
  case neg =>
    have k1 := (Bool.not_eq_true _).mp k1
    rw [show tlX T = [] from if_neg (by rw [k1]; decide), show tlC T = 8 from if_neg (by rw [k1]; decide)]
    have J := Lib.hid k1
    clear k1
    go_enter Try.func33, Try.ntmps33; go_wp2_with (go_at_call 14; (with_reducible refine (implVt_is A c T _ hn H.out hbs J.out).mono ?_); rintro e w1 ⟨rfl, rfl⟩)
    refine bodyPost_ret (v := .tuple #[.slice none 0 0, .int .i64 8]) (by simp [results, Try.results33, go_sem, *]) rfl ⟨none, 0, rfl, RS.nil, gr_refl w⟩
  rw [show tlX T = lnS T 24 from if_pos k1, show tlC T = 0 from if_pos k1]
  have J := Lib.hid k1
  have HL := (okT_t k1).1
  have HLL := Lib.hid HL
  obtain ⟨n, hn'⟩ : ∃ n, T.length = n := ⟨_, rfl⟩
  have HN := Lib.hid hn'
  have hn24 : n ≤ 24 ∧ 24 ≤ n := by omega
  have HO : Hid (Calls Try.prog 14 #[.slice A n c] w fun e w' => e = .returned (.bool true) ∧ w = w') := by rw [← hn']; exact implVt_is A c T _ hn H.out HBS.out J.out
  obtain rfl : n = 24 := by omega
  rw [hn']
  clear hn' HL k1 hn24 hbs
  go_enter Try.func33, Try.ntmps33; go_wp2_with (go_at_call 14; (with_reducible refine HO.out.mono ?_); rintro e w1 ⟨rfl, rfl⟩)
  go_loopw [4, 15] (fun o i wr => ∃ (k q : Nat) (B : Option Addr), k ≤ 24 ∧ i = .int .i64 (k : Int) ∧ o = .slice B k q ∧ RS .string 9 wr w.heap.size wr.heap.size B q (lnS T k) ∧ Below w.heap.size w wr) (fun _ i _ => 24 - (intOf i).toNat)
  case atStart => exact ⟨0, 0, none, by omega, by simp, rfl, RS.nil, gr_refl w⟩
  case round =>
    obtain ⟨k, q, B, hk, rfl, rfl, hr, hbe⟩ := hrel
    have HR := Lib.hid hr
    have HB := Lib.hid hbe
    have hsz := hbe.size
    by_cases hlt : k < 24
    case neg =>
      obtain rfl : k = 24 := by omega
      clear hr hbe hk hlt
      simp only [show ((24 : Nat) : Int) = 24 from rfl]
      go_wp2
      refine bodyPost_ret (v := .tuple #[.slice B 24 q, .int .i64 0]) (by simp [results, Try.results33, go_sem, *]) rfl ⟨B, q, by rw [lnS_len], HR.out, HB.out⟩
    generalize wr = v1 at *
    obtain ⟨p, o, qb, u, e0, ea, hrow, hcells⟩ := trow (H.out.below hbe) J.out (a := k) (by omega)
    subst ea
    have HCL := Lib.hid hcells
    have hpB : p < w.heap.size := by obtain ⟨bs, hb9⟩ := at_of_lt (xs := T) (k := k) (by rw [HN.out]; exact hlt); obtain ⟨b', off', _, _, e9, hB9, _⟩ := H.out.row hb9; simp only [Option.some.injEq, Addr.mk.injEq, and_true] at e9; omega
    have hqB : qb < v1.heap.size := lt_of_cell (hcells 0 (by omega))
    clear hr hbe hcells
    have i0 : (0 : Int) ≤ (k : Int) := by omega
    have i1 : (k : Int) < 24 := by omega
    have HIB := Lib.hid (IsB.new v1 v1.heap.size (Nat.le_refl _))
    go_wp2
    go_loopw [21] (fun j wr => ∃ (j' : Nat), j' ≤ 24 ∧ j = .int .i64 (j' : Int) ∧ IsB wr v1.heap.size v1.heap.size (lnK T k j') ∧ Below v1.heap.size v1 wr) (fun j _ => 24 - (intOf j).toNat)
    case atStart => exact ⟨0, by omega, by simp, HIB.out, gr_alloc (gr_refl v1)⟩
    case round =>
      obtain ⟨j, hj, rfl, hib, hb5⟩ := hrel
      have HI5 := Lib.hid hib
      have HB5 := Lib.hid hb5
      have hz5 := hb5.size
      by_cases hlj : j < 24
      · have hcl := (hb5.cell (p := ⟨qb, u + j, none⟩) hqB).trans (HCL.out j (by omega))
        have HLS := Lib.hid (lnK_succ T k j)
        obtain ⟨r, hrr⟩ : ∃ r, cellT T k j = r := ⟨_, rfl⟩
        rw [hrr] at hcl HLS
        have j0 : (0 : Int) ≤ (j : Int) := by omega
        have j1 : (j : Int) < 24 := by omega
        have HW : Hid (Calls Try.prog 56 #[.pointer (some ⟨v1.heap.size, 0, none⟩), .int .u8 ((chT r).toNat : Int)] wr fun e w' => e = .returned .nilIface ∧ IsB w' v1.heap.size v1.heap.size (lnK T k j ++ [chT r]) ∧ Below v1.heap.size wr w') := writeByte_any _ _ _ _ _ hib (by rw [lnK_len]; omega) hz5
        clear hib hb5 hrr
        cases r with
        | true =>
          have HW2 : Hid (Calls Try.prog 56 #[.pointer (some ⟨v1.heap.size, 0, none⟩), .int .u8 35] wr fun e w' => e = .returned .nilIface ∧ IsB w' v1.heap.size v1.heap.size (lnK T k j ++ [chT true]) ∧ Below v1.heap.size wr w') := HW.out
          clear HW
          go_wp2_with (go_at_call 56; (with_reducible refine HW2.out.mono ?_); rintro e w6 ⟨rfl, hi6, hb6⟩; have HI6 := Lib.hid hi6; have HB6 := Lib.hid (HB5.out.trans hb6); clear hi6 hb6)
          go_roundw
          case rel => exact ⟨j + 1, by omega, by go_num, by rw [HLS.out]; exact HI6.out, HB6.out⟩
          case measure => simp [intOf]; omega
        | false =>
          have HW2 : Hid (Calls Try.prog 56 #[.pointer (some ⟨v1.heap.size, 0, none⟩), .int .u8 46] wr fun e w' => e = .returned .nilIface ∧ IsB w' v1.heap.size v1.heap.size (lnK T k j ++ [chT false]) ∧ Below v1.heap.size wr w') := HW.out
          clear HW
          go_wp2_with (go_at_call 56; (with_reducible refine HW2.out.mono ?_); rintro e w6 ⟨rfl, hi6, hb6⟩; have HI6 := Lib.hid hi6; have HB6 := Lib.hid (HB5.out.trans hb6); clear hi6 hb6)
          go_roundw
          case rel => exact ⟨j + 1, by omega, by go_num, by rw [HLS.out]; exact HI6.out, HB6.out⟩
          case measure => simp [intOf]; omega
      · obtain rfl : j = 24 := by omega
        simp only [show ((24 : Nat) : Int) = 24 from rfl]
        have HST : Hid (Calls Try.prog 57 #[.pointer (some ⟨v1.heap.size, 0, none⟩)] wr fun e w' => e = .returned (.string (strB (lnK T k 24))) ∧ Below v1.heap.size wr w') := Builder_String_any v1.heap.size v1.heap.size (lnK T k 24) wr hib hz5
        have HLN := Lib.hid (lnS_succ T k)
        clear hib hb5 hj hlj
        go_wp2_with fail
        go_at_call 57
        (with_reducible refine HST.out.mono ?_)
        rintro e w7 ⟨rfl, hb7⟩
        have hb8 := HB5.out.trans hb7
        have HRO := Lib.hid (HR.out.late hb8)
        have HBO := Lib.hid (gr_then hb8 HB.out)
        have hz8 := hb8.size
        clear hb7 hb8
        go_wp2_with (at_builtin; refine wpList_app (by rfl) _ _ 40 (by rfl) (w.heap.size) 9 iS (.string ⟨#[]⟩) 16 Try.underlying40 hiS hz0S hz1S hz2S (by rfl) Value.string (fun _ => rfl) B (k) (q) (lnS T k) _ (by rfl) (by rw [lnS_len]) (HRO.out.late (gr_alloc (gr_refl w7))) (some ⟨w7.heap.size, 0, none⟩) 1 1 [strB (lnK T k 24)] _ (by rfl) (by rfl) (SV.of_new w7) (fun h => by cases h) (by unfold maxLen; omega) (by omega) (by simp only [World.size_alloc]; omega) ?_; intro A2 c2 w2 hr2 hgrow hblk; have HR6 := Lib.hid hr2; have HB6 := Lib.hid ((gr_alloc HBO.out).grown hgrow (by simp only [World.size_alloc]; omega) (by intro k' hk'; rcases Nat.lt_or_ge k' w.heap.size with h8 | h8; (exact absurd hk' (HRO.out.rowne h8)); omega)); clear hr2 hgrow hblk)
        go_roundw
        case rel => exact ⟨k + 1, c2, A2, by omega, by go_num, rfl, by rw [HLN.out]; exact HR6.out, HB6.out⟩
        case measure => simp [intOf]; omega
end Go.Proofs.Ytmgbbkglafnibaa
