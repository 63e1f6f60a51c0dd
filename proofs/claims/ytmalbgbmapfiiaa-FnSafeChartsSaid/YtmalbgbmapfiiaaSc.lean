/- SafeChart, both sides. -/
import Derived.Test.YtmalbgbmapfiiaaGl
import Derived.Test.YtmalbgbmapfiiaaCht
import Derived.Test.YtmalbgbmapfiiaaBsSrc
import Derived.Test.YtmalbgbmapfiiaaAppM
namespace Go.Proofs.Ytmalbgbmapfiiaa
open Go.RowKit Go.Deep
/-- the load that a step of a safe chart may have, bf being the load of the step before -/
def scStep (P : Int → Int → Bool) (zs : List Int) (k : Nat) (bf : Int) : Option Int :=
  if glF (P (rdC zs k)) 1001 < 0 then none else if P (rdC zs k) (minI (minI (glF (P (rdC zs k)) 1001) (ldC zs k)) bf) = true then some (minI (minI (glF (P (rdC zs k)) 1001) (ldC zs k)) bf) else none
theorem scStep_none {P : Int → Int → Bool} {zs : List Int} {k : Nat} {bf : Int} (h : glF (P (rdC zs k)) 1001 < 0) : scStep P zs k bf = none := if_pos h
theorem scStep_no {P : Int → Int → Bool} {zs : List Int} {k : Nat} {bf ld : Int} (h : ¬ glF (P (rdC zs k)) 1001 < 0) (hl : minI (minI (glF (P (rdC zs k)) 1001) (ldC zs k)) bf = ld) (hp : P (rdC zs k) ld = false) : scStep P zs k bf = none := by subst hl; exact (if_neg h).trans (if_neg (by rw [hp]; decide))
theorem scStep_yes {P : Int → Int → Bool} {zs : List Int} {k : Nat} {bf ld : Int} (h : ¬ glF (P (rdC zs k)) 1001 < 0) (hl : minI (minI (glF (P (rdC zs k)) 1001) (ldC zs k)) bf = ld) (hp : P (rdC zs k) ld = true) : scStep P zs k bf = some ld := by subst hl; exact (if_neg h).trans (if_pos hp)
/-- the steps from step k on, at most f of them, behind those of o -/
def scR (P : Int → Int → Bool) (zs : List Int) : Nat → Nat → List Int → Int → List Int
  | 0, _, o, _ => o
  | f + 1, k, o, bf => match scStep P zs k bf with
    | none => o
    | some ld => scR P zs f (k + 1) (o ++ [rdC zs k, ld]) ld
theorem scR_stop {P : Int → Int → Bool} {zs : List Int} {f k : Nat} {o R : List Int} {bf : Int} (h : scR P zs (f + 1) k o bf = R) (hs : scStep P zs k bf = none) : o = R := by rw [← h]; unfold scR; rw [hs]
theorem scR_go {P : Int → Int → Bool} {zs : List Int} {f k : Nat} {o R : List Int} {bf ld : Int} (h : scR P zs (f + 1) k o bf = R) (hs : scStep P zs k bf = some ld) : scR P zs f (k + 1) (o ++ [rdC zs k, ld]) ld = R := by rw [← h]; conv => rhs; unfold scR; rw [hs]
theorem ret_slI {A : Option Addr} {n c : Nat} {a b : Int} (h : a = b) : Ending.returned (.tuple #[.slice A n c, .int .i64 a]) = .returned (.tuple #[.slice A n c, .int .i64 b]) := by rw [h]
theorem run_min3 (P : Program) (x y z : Int) (a : Array TypeId) (t : TypeId) (w : World) : Sem.run P (Builtin.min_ a t #[.int .i64 x, .int .i64 y, .int .i64 z]) w = .ok (.int .i64 (minI z (minI y x))) w := rfl
theorem minI_comm (a b : Int) : minI a b = minI b a := by unfold minI; split <;> split <;> omega
theorem minI_0 {L bf : Int} (h : 0 ≤ L) (h1 : 0 ≤ bf) : minI bf (minI 0 L) = 0 := by unfold minI; split <;> split <;> omega
theorem minI_bd {G L bf : Int} (h0 : 0 ≤ G) (h : 0 ≤ L ∧ L ≤ 50000) (h1 : 0 ≤ bf) : 0 ≤ minI (minI G L) bf ∧ minI (minI G L) bf ≤ 50000 := by unfold minI; split <;> split <;> omega
def scC (ok ch : Bool) (pc : Int) (R : List Int) : Int := if ok = true ∧ ch = true then (if inI pc 100 1000 = true then (if R = [] then 3 else 0) else 2) else 1
def scL (C : Int) (R : List Int) : List Int := if C = 0 then R else []
theorem scC_1 {ok ch : Bool} {pc : Int} {R : List Int} (h : ok = false ∨ ch = false) : scC ok ch pc R = 1 := if_neg (by rcases h with h | h <;> simp [h])
theorem scC_2 {ok ch : Bool} {pc : Int} {R : List Int} (h : ok = true) (h1 : ch = true) (h2 : inI pc 100 1000 = false) : scC ok ch pc R = 2 := (if_pos ⟨h, h1⟩).trans (if_neg (by simp [h2]))
theorem scC_3 {ok ch : Bool} {pc : Int} {R : List Int} (h : ok = true) (h1 : ch = true) (h2 : inI pc 100 1000 = true) (h3 : R = []) : scC ok ch pc R = 3 := (if_pos ⟨h, h1⟩).trans ((if_pos h2).trans (if_pos h3))
theorem scC_0 {ok ch : Bool} {pc : Int} {R : List Int} (h : ok = true) (h1 : ch = true) (h2 : inI pc 100 1000 = true) (h3 : ¬ R = []) : scC ok ch pc R = 0 := (if_pos ⟨h, h1⟩).trans ((if_pos h2).trans (if_neg h3))
set_option maxHeartbeats 16000000 in
set_option maxRecDepth 20000 in
theorem implSc_any (x0 x1 x2 x3 x4 x5 x6 : Int) (A : Option Addr) (n c : Nat) (zs : List Int) (pc : Int) (w : World) (hn : n ≤ 1048576) (hz : zs.length = n * 2) (h : SI w w.heap.size A zs) : Calls Try.prog 6 #[.agg #[.int .i64 x0, .int .i64 x1, .int .i64 x2, .int .i64 x3, .int .i64 x4, .int .i64 x5, .int .i64 x6], .slice A n c, .int .i64 pc] w fun e w' => ∃ (A' : Option Addr) (m c' : Nat), e = .returned (.tuple #[.slice A' m c', .int .i64 (scC (okB x0 x1 x2 x3 x4 x5 x6) (okCh zs n) pc (scR (fun r ld => stB x0 (totB x1 x2 x3 x5 ld) (momB x3 x4 x5 x6 ld r) pc) zs n 0 [] 50000))]) ∧ RM 2 40 w' w.heap.size w'.heap.size A' m c' (scL (scC (okB x0 x1 x2 x3 x4 x5 x6) (okCh zs n) pc (scR (fun r ld => stB x0 (totB x1 x2 x3 x5 ld) (momB x3 x4 x5 x6 ld r) pc) zs n 0 [] 50000)) (scR (fun r ld => stB x0 (totB x1 x2 x3 x5 ld) (momB x3 x4 x5 x6 ld r) pc) zs n 0 [] 50000)) ∧ Below w.heap.size w w' := by
  have HZ := Lib.hid hz
  have hb0 : Below w.heap.size w (w.alloc (.cells #[.int .i64 x0, .int .i64 x1, .int .i64 x2, .int .i64 x3, .int .i64 x4, .int .i64 x5, .int .i64 x6] 25)) := gr_alloc (gr_refl w)
  have H := Lib.hid (h.later hb0)
  have HB := Lib.hid hb0
  have B0 := Lib.hid (show BI (w.alloc (.cells #[.int .i64 x0, .int .i64 x1, .int .i64 x2, .int .i64 x3, .int .i64 x4, .int .i64 x5, .int .i64 x6] 25)) w.heap.size 25 [x0, x1, x2, x3, x4, x5, x6] from heap_alloc_new w _)
  have hz0 : w.heap.size + 1 ≤ (w.alloc (.cells #[.int .i64 x0, .int .i64 x1, .int .i64 x2, .int .i64 x3, .int .i64 x4, .int .i64 x5, .int .i64 x6] 25)).heap.size := by simp
  clear hz h hb0
  obtain ⟨K, hK⟩ : ∃ K, okB x0 x1 x2 x3 x4 x5 x6 = K := ⟨_, rfl⟩
  obtain ⟨CH, hCH⟩ : ∃ K, okCh zs n = K := ⟨_, rfl⟩
  rw [hK, hCH]
  have HK := Lib.hid hK
  have HCH := Lib.hid hCH
  clear hK hCH
  obtain ⟨P, hP⟩ : ∃ P : Int → Int → Bool, (fun r ld => stB x0 (totB x1 x2 x3 x5 ld) (momB x3 x4 x5 x6 ld r) pc) = P := ⟨_, rfl⟩
  rw [hP]
  obtain ⟨R, hR⟩ : ∃ R, scR P zs n 0 [] 50000 = R := ⟨_, rfl⟩
  rw [hR]
  have HPP := Lib.hid hP
  have HR := Lib.hid hR
  clear hP hR
  go_enter Try.func6, Try.ntmps6; go_wp2_with fail
  generalize w.alloc (.cells #[.int .i64 x0, .int .i64 x1, .int .i64 x2, .int .i64 x3, .int .i64 x4, .int .i64 x5, .int .i64 x6] 25) = v0 at *
  go_at_call 13
  (with_reducible refine (validChart_any A n c zs _ hn HZ.out H.out).mono ?_)
  rintro e w1 ⟨rfl, hb⟩
  have hz1 := hb.size
  replace H := Lib.hid (H.out.later hb)
  replace HB := Lib.hid (gr_then hb HB.out)
  replace B0 := Lib.hid (B0.out.below hb (by omega))
  clear hb
  rw [HCH.out]
  cases CH
  · have hc := Lib.hid (scC_1 (ok := K) (pc := pc) (R := R) (.inr rfl)); have hl := Lib.hid (show scL 1 R = [] from if_neg (by decide)); go_wp2; go_returns; exact ⟨none, 0, 0, ret_slI hc.out.symm, by rw [hc.out, hl.out]; exact RM.nil, HB.out⟩
  have cB0_0 := B0.out.cell 0 (by simp)
  have cB0_1 := B0.out.cell 1 (by simp)
  have cB0_2 := B0.out.cell 2 (by simp)
  have cB0_3 := B0.out.cell 3 (by simp)
  have cB0_4 := B0.out.cell 4 (by simp)
  have cB0_5 := B0.out.cell 5 (by simp)
  have cB0_6 := B0.out.cell 6 (by simp)
  simp only [List.getD_cons_zero, List.getD_cons_succ] at cB0_0 cB0_1 cB0_2 cB0_3 cB0_4 cB0_5 cB0_6
  have HBC : Hid (∀ w : World, Calls Try.prog 18 #[.agg #[.int .i64 x0, .int .i64 x1, .int .i64 x2, .int .i64 x3, .int .i64 x4, .int .i64 x5, .int .i64 x6], .int .i64 0, .int .i64 0, .int .i64 pc] w fun e w' => e = .returned (.int .i64 (codB K 0 0 pc)) ∧ Below w.heap.size w w') := fun w => by have h9 := baseCode_any x0 x1 x2 x3 x4 x5 x6 0 0 pc w; rw [HK.out] at h9; exact h9
  go_wp2_with fail
  go_at_call 18
  (with_reducible refine (HBC.out _).mono ?_)
  rintro e w2 ⟨rfl, hb⟩
  have hz2 := hb.size
  clear cB0_0 cB0_1 cB0_2 cB0_3 cB0_4 cB0_5 cB0_6
  replace H := Lib.hid (H.out.later hb)
  replace HB := Lib.hid (gr_then hb HB.out)
  replace B0 := Lib.hid (B0.out.below hb (by omega))
  clear hb
  cases K
  · rw [codeB1]; have hc := Lib.hid (scC_1 (ch := true) (pc := pc) (R := R) (.inl rfl)); have hl := Lib.hid (show scL 1 R = [] from if_neg (by decide)); go_wp2; go_returns; exact ⟨none, 0, 0, ret_slI hc.out.symm, by rw [hc.out, hl.out]; exact RM.nil, HB.out⟩
  obtain ⟨q, h3⟩ : ∃ q, inI pc 100 1000 = q := ⟨_, rfl⟩
  cases q
  · rw [codB_2 rfl (.inr (.inr h3))]; have hc := Lib.hid (scC_2 (R := R) rfl rfl h3); have hl := Lib.hid (show scL 2 R = [] from if_neg (by decide)); go_wp2; go_returns; exact ⟨none, 0, 0, ret_slI hc.out.symm, by rw [hc.out, hl.out]; exact RM.nil, HB.out⟩
  rw [codB_0 rfl (inI_y (by omega)) (inI_y (by omega)) h3]
  have hp := inI_t h3
  have HPC := Lib.hid h3
  clear h3
  obtain ⟨hst, hn1, hn2⟩ := okCh_t HCH.out
  have HST := Lib.hid hst
  clear hst
  have HGR : Hid (∀ (r : Int) (w : World), 0 ≤ r ∧ r ≤ 1000 → Calls Try.prog 19 #[.agg #[.int .i64 x0, .int .i64 x1, .int .i64 x2, .int .i64 x3, .int .i64 x4, .int .i64 x5, .int .i64 x6], .int .i64 r, .int .i64 pc] w fun e w' => e = .returned (.tuple #[.int .i64 (glN (glF (P r) 1001)), .bool (decide (0 ≤ glF (P r) 1001))]) ∧ Below w.heap.size w w') := fun r w hr => by rw [← HPP.out]; exact greatest_any x0 x1 x2 x3 x4 x5 x6 r pc w HK.out hr hp
  have HSB : Hid (∀ (ld r : Int) (w : World), (0 ≤ ld ∧ ld ≤ 50000) → (0 ≤ r ∧ r ≤ 1000) → Calls Try.prog 20 #[.agg #[.int .i64 x0, .int .i64 x1, .int .i64 x2, .int .i64 x3, .int .i64 x4, .int .i64 x5, .int .i64 x6], .int .i64 ld, .int .i64 r, .int .i64 pc] w fun e w' => e = .returned (.bool (P r ld)) ∧ Below w.heap.size w w') := fun ld r w hl hr => by rw [← HPP.out]; exact stable_any x0 x1 x2 x3 x4 x5 x6 ld r pc w HK.out hl hr hp
  obtain ⟨i0, hi, zi0, zi1, zi2⟩ := info_parts (show (Try.prog.info? 40).map (fun i => (i.zero, i.size, i.bytes)) = some (some (.agg #[.int .i64 0, .int .i64 0]), 2, 16) by kernel_rfl)
  go_wp2
  go_loopw [9, 10, 27] (fun ov bv iv wr => ∃ (k : Nat) (A1 : Option Addr) (c1 : Nat) (o : List Int) (bf : Int), k ≤ n ∧ ov = .slice A1 k c1 ∧ bv = .int .i64 bf ∧ iv = .int .i64 (k : Int) ∧ (0 ≤ bf ∧ bf ≤ 50000) ∧ Hid (scR P zs (n - k) k o bf = R) ∧ RM 2 40 wr w2.heap.size wr.heap.size A1 k c1 o ∧ Below w2.heap.size w2 wr) (fun _ _ iv _ => n - (intOf iv).toNat)
  case atStart => exact ⟨0, none, 0, [], 50000, by omega, rfl, rfl, rfl, by omega, HR.out, RM.nil, gr_refl _⟩
  case round =>
    obtain ⟨k, A1, c1, o, bf, hk, rfl, rfl, rfl, hbf, HI, hrm, hb⟩ := hrel
    have HO := Lib.hid hrm
    have HBr := Lib.hid hb
    have hzr := hb.size
    have B1 := Lib.hid (B0.out.below hb (by omega))
    clear hrm hb
    by_cases hkn : k < n
    case neg =>
      obtain rfl : k = n := by omega
      have hRo := Lib.hid (show o = R by have h9 := HI.out; rw [Nat.sub_self] at h9; exact h9)
      have hd : decide ((k : Int) < k) = false := decide_eq_false (by omega)
      have hge : w.heap.size ≤ w2.heap.size := HB.out.size
      by_cases hk0 : (k : Int) = 0
      · have hnil : R = [] := by rw [← hRo.out]; exact List.eq_nil_of_length_eq_zero (by have h8 := HO.out.len; omega)
        have hc := Lib.hid (scC_3 (ok := true) (ch := true) rfl rfl HPC.out hnil)
        have hl := Lib.hid (show scL 3 R = [] from if_neg (by decide))
        have hdk : ((k : Int) == 0) = true := beq_iff_eq.2 hk0
        clear hnil
        go_wp2
        go_returns
        exact ⟨none, 0, 0, ret_slI hc.out.symm, by rw [hc.out, hl.out]; exact RM.nil, gr_then HBr.out HB.out⟩
      · have hne : ¬ R = [] := by rw [← hRo.out]; intro h9; have h8 := HO.out.len; rw [h9] at h8; simp only [List.length_nil] at h8; omega
        have hc := Lib.hid (scC_0 (ok := true) (ch := true) rfl rfl HPC.out hne)
        have hl := Lib.hid (show scL 0 R = R from if_pos rfl)
        have hdk : ((k : Int) == 0) = false := beq_eq_false_iff_ne.2 hk0
        clear hne
        go_wp2
        go_returns
        exact ⟨A1, k, c1, ret_slI hc.out.symm, by rw [hc.out, hl.out, ← hRo.out]; exact HO.out.wide hge (Nat.le_refl _), gr_then HBr.out HB.out⟩
    have hd : decide ((k : Int) < n) = true := decide_eq_true (by omega)
    have hge : w.heap.size ≤ w2.heap.size := HB.out.size
    obtain ⟨b, off, hA, hB, p0, p1⟩ := si2 ((H.out.below HBr.out).more HBr.out.size) HZ.out hkn
    subst hA
    obtain ⟨s1, s2⟩ := stepOk_t (HST.out k hkn)
    have hb : Below wr.heap.size wr (wr.alloc (.cells #[.int .i64 (rdC zs k), .int .i64 (ldC zs k)] 40)) := gr_alloc (gr_refl _)
    have B2 := Lib.hid (show BI (wr.alloc (.cells #[.int .i64 (rdC zs k), .int .i64 (ldC zs k)] 40)) wr.heap.size 40 [rdC zs k, ldC zs k] from heap_alloc_new _ _)
    have cB0_0 := B1.out.cell 0 (by simp)
    have cB0_1 := B1.out.cell 1 (by simp)
    have cB0_2 := B1.out.cell 2 (by simp)
    have cB0_3 := B1.out.cell 3 (by simp)
    have cB0_4 := B1.out.cell 4 (by simp)
    have cB0_5 := B1.out.cell 5 (by simp)
    have cB0_6 := B1.out.cell 6 (by simp)
    simp only [List.getD_cons_zero, List.getD_cons_succ] at cB0_0 cB0_1 cB0_2 cB0_3 cB0_4 cB0_5 cB0_6
    have ltB := B1.out.lt
    replace B1 := Lib.hid (B1.out.late hb)
    replace HO := Lib.hid ((HO.out.late hb).wide (Nat.le_refl _) hb.size)
    replace HBr := Lib.hid (gr_then hb HBr.out)
    clear hb
    go_wp2_with fail
    generalize wr.alloc (.cells #[.int .i64 (rdC zs k), .int .i64 (ldC zs k)] 40) = w3 at *
    clear cB0_0 cB0_1 cB0_2 cB0_3 cB0_4 cB0_5 cB0_6 ltB p0 p1
    obtain ⟨g2, hg2⟩ : ∃ g, wr.heap.size = g := ⟨_, rfl⟩
    rw [hg2] at B2 ⊢
    clear hg2
    go_at_call 19
    (with_reducible refine (HGR.out (rdC zs k) _ (by omega)).mono ?_)
    rintro e w4 ⟨rfl, hb⟩
    replace B1 := Lib.hid (B1.out.late hb)
    replace B2 := Lib.hid (B2.out.late hb)
    replace HO := Lib.hid ((HO.out.late hb).wide (Nat.le_refl _) hb.size)
    replace HBr := Lib.hid (gr_then hb HBr.out)
    clear hb
    have cB0_0 := B1.out.cell 0 (by simp)
    have cB0_1 := B1.out.cell 1 (by simp)
    have cB0_2 := B1.out.cell 2 (by simp)
    have cB0_3 := B1.out.cell 3 (by simp)
    have cB0_4 := B1.out.cell 4 (by simp)
    have cB0_5 := B1.out.cell 5 (by simp)
    have cB0_6 := B1.out.cell 6 (by simp)
    simp only [List.getD_cons_zero, List.getD_cons_succ] at cB0_0 cB0_1 cB0_2 cB0_3 cB0_4 cB0_5 cB0_6
    have ltB := B1.out.lt
    have s2_0 := B2.out.cell 0 (by simp)
    have s2_1 := B2.out.cell 1 (by simp)
    simp only [List.getD_cons_zero, List.getD_cons_succ] at s2_0 s2_1
    have hgb := (glF_bd (P (rdC zs k)) 1001).2
    have HSN := Lib.hid (fun h9 => scStep_none (P := P) (zs := zs) (k := k) (bf := bf) h9)
    obtain ⟨f, hf⟩ : ∃ f, n - k = f + 1 := ⟨n - k - 1, by omega⟩
    rw [hf] at HI
    generalize hG : glF (P (rdC zs k)) 1001 = G at *
    have HG := Lib.hid hG
    clear hG
    by_cases hG0 : G < 0
    · have hRo := Lib.hid (scR_stop HI.out (HSN.out hG0))
      have hd2 : decide (0 ≤ G) = false := decide_eq_false (by omega)
      have hgn : glN G = 0 := if_pos hG0
      rw [hgn]
      clear HSN hgn
      go_wp2_with fail
      rw [run_min3, minI_0 (by omega) (by omega)]
      by_cases hk0 : (k : Int) = 0
      · have hnil : R = [] := by rw [← hRo.out]; exact List.eq_nil_of_length_eq_zero (by have h8 := HO.out.len; omega)
        have hc := Lib.hid (scC_3 (ok := true) (ch := true) rfl rfl HPC.out hnil)
        have hl := Lib.hid (show scL 3 R = [] from if_neg (by decide))
        have hdk : ((k : Int) == 0) = true := beq_iff_eq.2 hk0
        clear hnil
        go_wp2
        go_returns
        exact ⟨none, 0, 0, ret_slI hc.out.symm, by rw [hc.out, hl.out]; exact RM.nil, gr_then HBr.out HB.out⟩
      · have hne : ¬ R = [] := by rw [← hRo.out]; intro h9; have h8 := HO.out.len; rw [h9] at h8; simp only [List.length_nil] at h8; omega
        have hc := Lib.hid (scC_0 (ok := true) (ch := true) rfl rfl HPC.out hne)
        have hl := Lib.hid (show scL 0 R = R from if_pos rfl)
        have hdk : ((k : Int) == 0) = false := beq_eq_false_iff_ne.2 hk0
        clear hne
        go_wp2
        go_returns
        exact ⟨A1, k, c1, ret_slI hc.out.symm, by rw [hc.out, hl.out, ← hRo.out]; exact HO.out.wide hge (Nat.le_refl _), gr_then HBr.out HB.out⟩
    · have hd2 : decide (0 ≤ G) = true := decide_eq_true (by omega)
      have hgn : glN G = G := if_neg hG0
      rw [hgn]
      clear HSN hgn
      go_wp2_with fail
      rw [run_min3, minI_comm bf]
      have hlb := minI_bd (G := G) (L := ldC zs k) (bf := bf) (by omega) s2 (by omega)
      generalize hld : minI (minI G (ldC zs k)) bf = ld at *
      have HLD := Lib.hid hld
      clear hld
      go_wp2_with fail
      go_at_call 20
      (with_reducible refine (HSB.out ld (rdC zs k) _ (by omega) (by omega)).mono ?_)
      rintro e w5 ⟨rfl, hb⟩
      replace B1 := Lib.hid (B1.out.late hb)
      replace B2 := Lib.hid (B2.out.late hb)
      replace HO := Lib.hid ((HO.out.late hb).wide (Nat.le_refl _) hb.size)
      replace HBr := Lib.hid (gr_then hb HBr.out)
      clear hb cB0_0 cB0_1 cB0_2 cB0_3 cB0_4 cB0_5 cB0_6 ltB s2_0 s2_1
      have s2_0 := B2.out.cell 0 (by simp)
      have s2_1 := B2.out.cell 1 (by simp)
      simp only [List.getD_cons_zero, List.getD_cons_succ] at s2_0 s2_1
      have lt2 := B2.out.lt
      obtain ⟨s, hs⟩ : ∃ s, P (rdC zs k) ld = s := ⟨_, rfl⟩
      rw [hs]
      have HSS := Lib.hid hs
      clear hs
      cases s
      · have hRo := Lib.hid (scR_stop HI.out (scStep_no (by rw [HG.out]; omega) (by rw [HG.out]; exact HLD.out) HSS.out))
        by_cases hk0 : (k : Int) = 0
        · have hnil : R = [] := by rw [← hRo.out]; exact List.eq_nil_of_length_eq_zero (by have h8 := HO.out.len; omega)
          have hc := Lib.hid (scC_3 (ok := true) (ch := true) rfl rfl HPC.out hnil)
          have hl := Lib.hid (show scL 3 R = [] from if_neg (by decide))
          have hdk : ((k : Int) == 0) = true := beq_iff_eq.2 hk0
          clear hnil
          go_wp2
          go_returns
          exact ⟨none, 0, 0, ret_slI hc.out.symm, by rw [hc.out, hl.out]; exact RM.nil, gr_then HBr.out HB.out⟩
        · have hne : ¬ R = [] := by rw [← hRo.out]; intro h9; have h8 := HO.out.len; rw [h9] at h8; simp only [List.length_nil] at h8; omega
          have hc := Lib.hid (scC_0 (ok := true) (ch := true) rfl rfl HPC.out hne)
          have hl := Lib.hid (show scL 0 R = R from if_pos rfl)
          have hdk : ((k : Int) == 0) = false := beq_eq_false_iff_ne.2 hk0
          clear hne
          go_wp2
          go_returns
          exact ⟨A1, k, c1, ret_slI hc.out.symm, by rw [hc.out, hl.out, ← hRo.out]; exact HO.out.wide hge (Nat.le_refl _), gr_then HBr.out HB.out⟩
      · have HGO := Lib.hid (scR_go HI.out (scStep_yes (by rw [HG.out]; omega) (by rw [HG.out]; exact HLD.out) HSS.out))
        have hb : Below w5.heap.size w5 (w5.alloc (.cells #[.int .i64 (rdC zs k), .int .i64 ld] 40)) := gr_alloc (gr_refl _)
        have HOa := Lib.hid ((HO.out.late hb).wide (Nat.le_refl _) hb.size)
        have HBa := Lib.hid (gr_then hb HBr.out)
        have hza := HBa.out.size
        clear hb
        have HSI := Lib.hid (show SI (w5.alloc (.cells #[.int .i64 (rdC zs k), .int .i64 ld] 40)) (w5.heap.size + 1) (some ⟨w5.heap.size, 0, none⟩) [rdC zs k, ld] from SI.of_new w5 [rdC zs k, ld])
        go_wp2_with (at_builtin; refine wpList_appM rfl _ _ 26 rfl 2 (by omega) w2.heap.size 40 i0 (.agg #[.int .i64 0, .int .i64 0]) 16 Try.underlying26 hi zi0 zi1 zi2 rfl A1 k c1 o _ rfl HOa.out (some ⟨w5.heap.size, 0, none⟩) 1 1 [rdC zs k, ld] (w5.heap.size + 1) rfl rfl (by omega) HSI.out (by unfold maxLen; omega) (by omega) hza ?_; intro A2 c2 w6 hr hg hb; have HR6 := Lib.hid hr; have HB6 := Lib.hid (HOa.out.after HBa.out hg hza (Nat.le_refl _)); clear hr hg hb)
        go_roundw
        case rel => exact ⟨k + 1, A2, c2, _, ld, by omega, rfl, rfl, by go_num, by omega, by rw [show n - (k + 1) = f by omega]; exact HGO.out, HR6.out, HB6.out⟩
        case measure => simp [intOf]; omega
theorem C7.of_bi {w : World} {g t : Nat} {x0 x1 x2 x3 x4 x5 x6 : Int} (h : BI w g t [x0, x1, x2, x3, x4, x5, x6]) : C7 w g x0 x1 x2 x3 x4 x5 x6 := ⟨by have h9 := h.cell 0 (by simp); simpa using h9, by have h9 := h.cell 1 (by simp); simpa using h9, by have h9 := h.cell 2 (by simp); simpa using h9, by have h9 := h.cell 3 (by simp); simpa using h9, by have h9 := h.cell 4 (by simp); simpa using h9, by have h9 := h.cell 5 (by simp); simpa using h9, by have h9 := h.cell 6 (by simp); simpa using h9⟩
theorem ldC_app {o : List Int} {k : Nat} (r ld : Int) (h : o.length = k * 2) : ldC (o ++ [r, ld]) k = ld := by
  unfold ldC
  rw [List.getD_eq_getElem?_getD, List.getElem?_append_right (by omega), show k * 2 + 1 - o.length = 1 by omega]
  rfl
theorem minI_top {a : Int} (h : a ≤ 50000) : minI a 50000 = a := by unfold minI; split <;> omega
theorem minI_le {G L : Int} (h : L ≤ 50000) : minI G L ≤ 50000 := by unfold minI; split <;> omega
set_option maxHeartbeats 16000000 in
set_option maxRecDepth 20000 in
theorem specSc_any (x0 x1 x2 x3 x4 x5 x6 : Int) (A : Option Addr) (n c : Nat) (zs : List Int) (pc : Int) (w : World) (hn : n ≤ 1048576) (hz : zs.length = n * 2) (h : SI w w.heap.size A zs) : Calls Try.prog 7 #[.agg #[.int .i64 x0, .int .i64 x1, .int .i64 x2, .int .i64 x3, .int .i64 x4, .int .i64 x5, .int .i64 x6], .slice A n c, .int .i64 pc] w fun e w' => ∃ (A' : Option Addr) (m c' : Nat), e = .returned (.tuple #[.slice A' m c', .int .i64 (scC (okB x0 x1 x2 x3 x4 x5 x6) (okCh zs n) pc (scR (fun r ld => stB x0 (totB x1 x2 x3 x5 ld) (momB x3 x4 x5 x6 ld r) pc) zs n 0 [] 50000))]) ∧ RM 2 40 w' w.heap.size w'.heap.size A' m c' (scL (scC (okB x0 x1 x2 x3 x4 x5 x6) (okCh zs n) pc (scR (fun r ld => stB x0 (totB x1 x2 x3 x5 ld) (momB x3 x4 x5 x6 ld r) pc) zs n 0 [] 50000)) (scR (fun r ld => stB x0 (totB x1 x2 x3 x5 ld) (momB x3 x4 x5 x6 ld r) pc) zs n 0 [] 50000)) ∧ Below w.heap.size w w' := by
  have HZ := Lib.hid hz
  have hb0 : Below w.heap.size w (w.alloc (.cells #[.int .i64 x0, .int .i64 x1, .int .i64 x2, .int .i64 x3, .int .i64 x4, .int .i64 x5, .int .i64 x6] 25)) := gr_alloc (gr_refl w)
  have H := Lib.hid (h.later hb0)
  have HB := Lib.hid hb0
  have B0 := Lib.hid (show BI (w.alloc (.cells #[.int .i64 x0, .int .i64 x1, .int .i64 x2, .int .i64 x3, .int .i64 x4, .int .i64 x5, .int .i64 x6] 25)) w.heap.size 25 [x0, x1, x2, x3, x4, x5, x6] from heap_alloc_new w _)
  have hz0 : w.heap.size + 1 ≤ (w.alloc (.cells #[.int .i64 x0, .int .i64 x1, .int .i64 x2, .int .i64 x3, .int .i64 x4, .int .i64 x5, .int .i64 x6] 25)).heap.size := by simp
  clear hz h hb0
  obtain ⟨K, hK⟩ : ∃ K, okB x0 x1 x2 x3 x4 x5 x6 = K := ⟨_, rfl⟩
  obtain ⟨CH, hCH⟩ : ∃ K, okCh zs n = K := ⟨_, rfl⟩
  rw [hK, hCH]
  have HK := Lib.hid hK
  have HCH := Lib.hid hCH
  clear hK hCH
  obtain ⟨P, hP⟩ : ∃ P : Int → Int → Bool, (fun r ld => stB x0 (totB x1 x2 x3 x5 ld) (momB x3 x4 x5 x6 ld r) pc) = P := ⟨_, rfl⟩
  rw [hP]
  obtain ⟨R, hR⟩ : ∃ R, scR P zs n 0 [] 50000 = R := ⟨_, rfl⟩
  rw [hR]
  have HPP := Lib.hid hP
  have HR := Lib.hid hR
  clear hP hR
  have HOKC : Hid (∀ w' : World, BI w' w.heap.size 25 [x0, x1, x2, x3, x4, x5, x6] → Calls Try.prog 21 #[.pointer (some ⟨w.heap.size, 0, none⟩)] w' fun e w'' => e = .returned (.bool K) ∧ w' = w'') := fun w' h9 => by have h8 := l06Ok_any w.heap.size x0 x1 x2 x3 x4 x5 x6 w' (C7.of_bi h9); rw [HK.out] at h8; exact h8
  go_enter Try.func7, Try.ntmps7; go_wp2_with fail
  generalize w.alloc (.cells #[.int .i64 x0, .int .i64 x1, .int .i64 x2, .int .i64 x3, .int .i64 x4, .int .i64 x5, .int .i64 x6] 25) = v0 at *
  go_at_call 21
  (with_reducible refine (HOKC.out _ B0.out).mono ?_)
  rintro e w1 ⟨rfl, rfl⟩
  cases K
  · have hc := Lib.hid (scC_1 (ch := CH) (pc := pc) (R := R) (.inl rfl)); have hl := Lib.hid (show scL 1 R = [] from if_neg (by decide)); go_wp2; go_returns; exact ⟨none, 0, 0, ret_slI hc.out.symm, by rw [hc.out, hl.out]; exact RM.nil, HB.out⟩
  go_wp2_with fail
  go_at_call 22
  (with_reducible refine (l03Ok_any A n c zs _ hn HZ.out H.out).mono ?_)
  rintro e w2 ⟨rfl, hb⟩
  have hz2 := hb.size
  replace H := Lib.hid (H.out.later hb)
  replace HB := Lib.hid (gr_then hb HB.out)
  replace B0 := Lib.hid (B0.out.below hb (by omega))
  clear hb
  rw [HCH.out]
  cases CH
  · have hc := Lib.hid (scC_1 (ok := true) (pc := pc) (R := R) (.inr rfl)); have hl := Lib.hid (show scL 1 R = [] from if_neg (by decide)); go_wp2; go_returns; exact ⟨none, 0, 0, ret_slI hc.out.symm, by rw [hc.out, hl.out]; exact RM.nil, HB.out⟩
  obtain ⟨q, h3⟩ : ∃ q, inI pc 100 1000 = q := ⟨_, rfl⟩
  have HPC := Lib.hid h3
  go_wp2_with fail
  go_at_call 23
  (with_reducible refine (in7_is HPC.out (perc06_any pc _)).mono ?_)
  rintro e w3 ⟨rfl, rfl⟩
  cases q
  · have hc := Lib.hid (scC_2 (R := R) rfl rfl h3); have hl := Lib.hid (show scL 2 R = [] from if_neg (by decide)); go_wp2; go_returns; exact ⟨none, 0, 0, ret_slI hc.out.symm, by rw [hc.out, hl.out]; exact RM.nil, HB.out⟩
  have hp := inI_t h3
  clear h3
  obtain ⟨hst, hn1, hn2⟩ := okCh_t HCH.out
  have HST := Lib.hid hst
  clear hst
  have HGR : Hid (∀ (r : Int) (w' : World), BI w' w.heap.size 25 [x0, x1, x2, x3, x4, x5, x6] → 0 ≤ r ∧ r ≤ 1000 → Calls Try.prog 24 #[.pointer (some ⟨w.heap.size, 0, none⟩), .int .i64 r, .int .i64 pc] w' fun e w'' => e = .returned (.int .i64 (glF (P r) 1001)) ∧ ∃ q, w'' = w'.drewN q) := fun r w' h9 hr => by rw [← HPP.out]; exact load06_any _ x0 x1 x2 x3 x4 x5 x6 r pc w' (C7.of_bi h9) HK.out hr hp
  have HSB : Hid (∀ (ld r : Int) (w' : World), BI w' w.heap.size 25 [x0, x1, x2, x3, x4, x5, x6] → (0 ≤ ld ∧ ld ≤ 50000) → (0 ≤ r ∧ r ≤ 1000) → Calls Try.prog 26 #[.pointer (some ⟨w.heap.size, 0, none⟩), .int .i64 ld, .int .i64 r, .int .i64 pc] w' fun e w'' => e = .returned (.bool (P r ld)) ∧ ∃ q, w'' = w'.drewN q) := fun ld r w' h9 hl hr => by rw [← HPP.out]; exact st06_any _ x0 x1 x2 x3 x4 x5 x6 ld r pc w' (C7.of_bi h9) HK.out hl hr hp
  obtain ⟨i0, hi, zi0, zi1, zi2⟩ := info_parts (show (Try.prog.info? 40).map (fun i => (i.zero, i.size, i.bytes)) = some (some (.agg #[.int .i64 0, .int .i64 0]), 2, 16) by kernel_rfl)
  have hb0 : Below w2.heap.size w2 (w2.alloc (.cells #[] 40)) := gr_alloc (gr_refl _)
  have HR0 := Lib.hid (show RM 2 40 (w2.alloc (.cells #[] 40)) w2.heap.size (w2.alloc (.cells #[] 40)).heap.size (some ⟨w2.heap.size, 0, none⟩) 0 0 [] from (RM.lit0 w2).top)
  have HB0 := Lib.hid hb0
  clear hb0
  go_wp2
  go_loopw [8, 9] (fun ov iv wr => ∃ (k : Nat) (A1 : Option Addr) (c1 : Nat) (o : List Int) (bf : Int), k ≤ n ∧ ov = .slice A1 k c1 ∧ iv = .int .i64 (k : Int) ∧ (0 ≤ bf ∧ bf ≤ 50000) ∧ Hid ((k = 0 → bf = 50000) ∧ ∀ j, k = j + 1 → ldC o j = bf) ∧ Hid (scR P zs (n - k) k o bf = R) ∧ RM 2 40 wr w2.heap.size wr.heap.size A1 k c1 o ∧ Below w2.heap.size w2 wr) (fun _ iv _ => n - (intOf iv).toNat)
  case atStart => exact ⟨0, _, 0, [], 50000, by omega, rfl, rfl, by omega, ⟨fun _ => rfl, fun j hj => by omega⟩, HR.out, HR0.out, HB0.out⟩
  case round =>
    obtain ⟨k, A1, c1, o, bf, hk, rfl, rfl, hbf, HLA, HI, hrm, hb⟩ := hrel
    have HO := Lib.hid hrm
    have HBr := Lib.hid hb
    have hzr := hb.size
    have B1 := Lib.hid (B0.out.below hb (by omega))
    clear hrm hb
    have hge : w.heap.size ≤ w2.heap.size := HB.out.size
    by_cases hkn : k < n
    case neg =>
      obtain rfl : k = n := by omega
      have hRo := Lib.hid (show o = R by have h9 := HI.out; rw [Nat.sub_self] at h9; exact h9)
      have hd : decide ((k : Int) < k) = false := decide_eq_false (by omega)
      by_cases hk0 : (k : Int) = 0
      · have hnil : R = [] := by rw [← hRo.out]; exact List.eq_nil_of_length_eq_zero (by have h8 := HO.out.len; omega)
        have hc := Lib.hid (scC_3 (ok := true) (ch := true) rfl rfl HPC.out hnil)
        have hl := Lib.hid (show scL 3 R = [] from if_neg (by decide))
        have hdk : ((k : Int) == 0) = true := beq_iff_eq.2 hk0
        clear hnil
        go_wp2
        go_returns
        exact ⟨none, 0, 0, ret_slI hc.out.symm, by rw [hc.out, hl.out]; exact RM.nil, gr_then HBr.out HB.out⟩
      · have hne : ¬ R = [] := by rw [← hRo.out]; intro h9; have h8 := HO.out.len; rw [h9] at h8; simp only [List.length_nil] at h8; omega
        have hc := Lib.hid (scC_0 (ok := true) (ch := true) rfl rfl HPC.out hne)
        have hl := Lib.hid (show scL 0 R = R from if_pos rfl)
        have hdk : ((k : Int) == 0) = false := beq_eq_false_iff_ne.2 hk0
        clear hne
        go_wp2
        go_returns
        exact ⟨A1, k, c1, ret_slI hc.out.symm, by rw [hc.out, hl.out, ← hRo.out]; exact HO.out.wide hge (Nat.le_refl _), gr_then HBr.out HB.out⟩
    have hd : decide ((k : Int) < n) = true := decide_eq_true (by omega)
    obtain ⟨b, off, hA, hB, p0, p1⟩ := si2 ((H.out.below HBr.out).more HBr.out.size) HZ.out hkn
    subst hA
    obtain ⟨s1, s2⟩ := stepOk_t (HST.out k hkn)
    go_wp2_with fail
    go_at_call 24
    (with_reducible refine (HGR.out (rdC zs k) _ B1.out (by omega)).mono ?_)
    rintro e y ⟨rfl, q, rfl⟩
    clear p0 p1
    replace HBr := Lib.hid (gr_drewN (n := q) HBr.out)
    replace B1 := Lib.hid (show BI (wr.drewN q) _ _ _ from B1.out)
    replace HO := Lib.hid (show RM 2 40 (wr.drewN q) w2.heap.size (wr.drewN q).heap.size _ _ _ _ from HO.out)
    generalize wr.drewN q = w4 at *
    obtain ⟨b', off', hA', _, p0, p1⟩ := si2 ((H.out.below HBr.out).more HBr.out.size) HZ.out hkn
    simp only [Option.some.injEq, Addr.mk.injEq, and_true] at hA'
    obtain ⟨rfl, rfl⟩ := hA'
    have hgb := (glF_bd (P (rdC zs k)) 1001).2
    have HSN := Lib.hid (fun h9 => scStep_none (P := P) (zs := zs) (k := k) (bf := bf) h9)
    obtain ⟨f, hf⟩ : ∃ f, n - k = f + 1 := ⟨n - k - 1, by omega⟩
    rw [hf] at HI
    generalize hG : glF (P (rdC zs k)) 1001 = G at *
    have HG := Lib.hid hG
    clear hG
    by_cases hG0 : G < 0
    · have hRo := Lib.hid (scR_stop HI.out (HSN.out hG0))
      have hd2 := decide_eq_true hG0
      clear HSN
      by_cases hk0 : (k : Int) = 0
      · have hnil : R = [] := by rw [← hRo.out]; exact List.eq_nil_of_length_eq_zero (by have h8 := HO.out.len; omega)
        have hc := Lib.hid (scC_3 (ok := true) (ch := true) rfl rfl HPC.out hnil)
        have hl := Lib.hid (show scL 3 R = [] from if_neg (by decide))
        have hdk : ((k : Int) == 0) = true := beq_iff_eq.2 hk0
        clear hnil
        go_wp2
        go_returns
        exact ⟨none, 0, 0, ret_slI hc.out.symm, by rw [hc.out, hl.out]; exact RM.nil, gr_then HBr.out HB.out⟩
      · have hne : ¬ R = [] := by rw [← hRo.out]; intro h9; have h8 := HO.out.len; rw [h9] at h8; simp only [List.length_nil] at h8; omega
        have hc := Lib.hid (scC_0 (ok := true) (ch := true) rfl rfl HPC.out hne)
        have hl := Lib.hid (show scL 0 R = R from if_pos rfl)
        have hdk : ((k : Int) == 0) = false := beq_eq_false_iff_ne.2 hk0
        clear hne
        go_wp2
        go_returns
        exact ⟨A1, k, c1, ret_slI hc.out.symm, by rw [hc.out, hl.out, ← hRo.out]; exact HO.out.wide hge (Nat.le_refl _), gr_then HBr.out HB.out⟩
    have hd2 := decide_eq_false hG0
    clear HSN
    go_wp2_with fail
    go_at_call 25
    (with_reducible refine (min00_any _ _ _).mono ?_)
    rintro e w5 ⟨rfl, rfl⟩
    have hlb := minI_bd (G := G) (L := ldC zs k) (bf := bf) (by omega) s2 (by omega)
    have hml := minI_le (G := G) s2.2
    have hmc := Lib.hid (minI_bd (G := G) (L := ldC zs k) (bf := 50000) (by omega) s2 (by omega))
    generalize hld : minI (minI G (ldC zs k)) bf = ld at *
    have HLD := Lib.hid hld
    clear hld
    generalize hmm : minI G (ldC zs k) = mm at *
    have HMM := Lib.hid hmm
    clear hmm
    have HLD2 := Lib.hid (show minI mm bf = ld by have h8 := HLD.out; (try rw [HMM.out] at h8); exact h8)
    skip
    by_cases hk0' : k = 0
    · have hdk0 : decide ((0 : Int) < (k : Int)) = false := decide_eq_false (by omega)
      have e1 : mm = ld := by have h8 := HLD2.out; rw [HLA.out.1 hk0', minI_top hml] at h8; exact h8
      subst e1
      have HK0 := Lib.hid hk0'
      have hdk1 : decide (0 < k) = false := decide_eq_false (by omega)
      have hdk2 : ¬ 0 < k := by omega
      clear hk0'
      go_wp2_with fail
      go_at_call 26
      (with_reducible refine (HSB.out mm (rdC zs k) _ B1.out (by omega) (by omega)).mono ?_)
      rintro e y ⟨rfl, q2, rfl⟩
      clear p0 p1
      replace HBr := Lib.hid (gr_drewN (n := q2) HBr.out)
      replace B1 := Lib.hid (show BI (w4.drewN q2) _ _ _ from B1.out)
      replace HO := Lib.hid (show RM 2 40 (w4.drewN q2) w2.heap.size (w4.drewN q2).heap.size _ _ _ _ from HO.out)
      generalize w4.drewN q2 = w6 at *
      obtain ⟨b', off', hA', _, p0, p1⟩ := si2 ((H.out.below HBr.out).more HBr.out.size) HZ.out hkn
      simp only [Option.some.injEq, Addr.mk.injEq, and_true] at hA'
      obtain ⟨rfl, rfl⟩ := hA'
      obtain ⟨s, hs⟩ : ∃ s, P (rdC zs k) mm = s := ⟨_, rfl⟩
      rw [hs]
      have HSS := Lib.hid hs
      clear hs
      cases s
      · have hRo := Lib.hid (scR_stop HI.out (scStep_no (by rw [HG.out]; omega) (by rw [HG.out, HMM.out]; exact HLD2.out) HSS.out))
        by_cases hk0 : ((k : Nat) : Int) = 0
        · have hnil : R = [] := by rw [← hRo.out]; exact List.eq_nil_of_length_eq_zero (by have h8 := HO.out.len; omega)
          have hc := Lib.hid (scC_3 (ok := true) (ch := true) rfl rfl HPC.out hnil)
          have hl := Lib.hid (show scL 3 R = [] from if_neg (by decide))
          have hdk : (((k : Nat) : Int) == 0) = true := beq_iff_eq.2 hk0
          clear hnil
          go_wp2
          go_returns
          exact ⟨none, 0, 0, ret_slI hc.out.symm, by rw [hc.out, hl.out]; exact RM.nil, gr_then HBr.out HB.out⟩
        · have hne : ¬ R = [] := by rw [← hRo.out]; intro h9; have h8 := HO.out.len; rw [h9] at h8; simp only [List.length_nil] at h8; omega
          have hc := Lib.hid (scC_0 (ok := true) (ch := true) rfl rfl HPC.out hne)
          have hl := Lib.hid (show scL 0 R = R from if_pos rfl)
          have hdk : (((k : Nat) : Int) == 0) = false := beq_eq_false_iff_ne.2 hk0
          clear hne
          go_wp2
          go_returns
          exact ⟨_, k, c1, ret_slI hc.out.symm, by rw [hc.out, hl.out, ← hRo.out]; exact HO.out.wide hge (Nat.le_refl _), gr_then HBr.out HB.out⟩
      · have HGO := Lib.hid (scR_go HI.out (scStep_yes (by rw [HG.out]; omega) (by rw [HG.out, HMM.out]; exact HLD2.out) HSS.out))
        have hb : Below w6.heap.size w6 (w6.alloc (.cells #[.int .i64 (rdC zs (k)), .int .i64 mm] 40)) := gr_alloc (gr_refl _)
        have HOa := Lib.hid ((HO.out.late hb).wide (Nat.le_refl _) hb.size)
        have HBa := Lib.hid (gr_then hb HBr.out)
        have hza := HBa.out.size
        clear hb
        have HSI := Lib.hid (show SI (w6.alloc (.cells #[.int .i64 (rdC zs (k)), .int .i64 mm] 40)) (w6.heap.size + 1) (some ⟨w6.heap.size, 0, none⟩) [rdC zs (k), mm] from SI.of_new w6 [rdC zs (k), mm])
        go_wp2_with (at_builtin; refine wpList_appM rfl _ _ 26 rfl 2 (by omega) w2.heap.size 40 i0 (.agg #[.int .i64 0, .int .i64 0]) 16 Try.underlying26 hi zi0 zi1 zi2 rfl _ (k) c1 o _ rfl HOa.out (some ⟨w6.heap.size, 0, none⟩) 1 1 [rdC zs (k), mm] (w6.heap.size + 1) rfl rfl (by omega) HSI.out (by unfold maxLen; omega) (by omega) hza ?_; intro A2 c2 w7 hr hg hb; have HR6 := Lib.hid hr; have HB6 := Lib.hid (HOa.out.after HBa.out hg hza (Nat.le_refl _)); clear hr hg hb)
        go_roundw
        case rel => exact ⟨k + 1, A2, c2, _, mm, by omega, rfl, by go_num, by omega, ⟨fun h9 => by omega, fun j9 hj9 => by have h9 : j9 = k := (by omega); rw [h9]; exact ldC_app _ _ HO.out.len⟩, by rw [show n - (k + 1) = f by omega]; exact HGO.out, HR6.out, HB6.out⟩
        case measure => simp [intOf]; omega
    · obtain ⟨j, rfl⟩ : ∃ j, k = j + 1 := ⟨k - 1, by omega⟩
      have hdk0 : decide ((0 : Int) < ((j + 1 : Nat) : Int)) = true := decide_eq_true (by omega)
      have hm1 : (((j + 1 : Nat)) : Int) - 1 = (j : Int) := by omega
      obtain ⟨b3, off3, hA3, hB3, r0, r1⟩ := si2 HO.out.si HO.out.len (show j < j + 1 by omega)
      subst hA3
      rw [HLA.out.2 j rfl] at r1
      clear r0
      go_wp2_with fail
      go_at_call 25
      (with_reducible refine (min00_any _ _ _).mono ?_)
      rintro e w5 ⟨rfl, rfl⟩
      rw [HLD2.out]
      clear r1
      go_wp2_with fail
      go_at_call 26
      (with_reducible refine (HSB.out ld (rdC zs (j + 1)) _ B1.out (by omega) (by omega)).mono ?_)
      rintro e y ⟨rfl, q2, rfl⟩
      clear p0 p1
      replace HBr := Lib.hid (gr_drewN (n := q2) HBr.out)
      replace B1 := Lib.hid (show BI (w4.drewN q2) _ _ _ from B1.out)
      replace HO := Lib.hid (show RM 2 40 (w4.drewN q2) w2.heap.size (w4.drewN q2).heap.size _ _ _ _ from HO.out)
      generalize w4.drewN q2 = w6 at *
      obtain ⟨b', off', hA', _, p0, p1⟩ := si2 ((H.out.below HBr.out).more HBr.out.size) HZ.out hkn
      simp only [Option.some.injEq, Addr.mk.injEq, and_true] at hA'
      obtain ⟨rfl, rfl⟩ := hA'
      obtain ⟨s, hs⟩ : ∃ s, P (rdC zs (j + 1)) ld = s := ⟨_, rfl⟩
      rw [hs]
      have HSS := Lib.hid hs
      clear hs
      cases s
      · have hRo := Lib.hid (scR_stop HI.out (scStep_no (by rw [HG.out]; omega) (by rw [HG.out, HMM.out]; exact HLD2.out) HSS.out))
        by_cases hk0 : (((j + 1) : Nat) : Int) = 0
        · have hnil : R = [] := by rw [← hRo.out]; exact List.eq_nil_of_length_eq_zero (by have h8 := HO.out.len; omega)
          have hc := Lib.hid (scC_3 (ok := true) (ch := true) rfl rfl HPC.out hnil)
          have hl := Lib.hid (show scL 3 R = [] from if_neg (by decide))
          have hdk : ((((j + 1) : Nat) : Int) == 0) = true := beq_iff_eq.2 hk0
          clear hnil
          go_wp2
          go_returns
          exact ⟨none, 0, 0, ret_slI hc.out.symm, by rw [hc.out, hl.out]; exact RM.nil, gr_then HBr.out HB.out⟩
        · have hne : ¬ R = [] := by rw [← hRo.out]; intro h9; have h8 := HO.out.len; rw [h9] at h8; simp only [List.length_nil] at h8; omega
          have hc := Lib.hid (scC_0 (ok := true) (ch := true) rfl rfl HPC.out hne)
          have hl := Lib.hid (show scL 0 R = R from if_pos rfl)
          have hdk : ((((j + 1) : Nat) : Int) == 0) = false := beq_eq_false_iff_ne.2 hk0
          clear hne
          go_wp2
          go_returns
          exact ⟨_, (j + 1), c1, ret_slI hc.out.symm, by rw [hc.out, hl.out, ← hRo.out]; exact HO.out.wide hge (Nat.le_refl _), gr_then HBr.out HB.out⟩
      · have HGO := Lib.hid (scR_go HI.out (scStep_yes (by rw [HG.out]; omega) (by rw [HG.out, HMM.out]; exact HLD2.out) HSS.out))
        have hb : Below w6.heap.size w6 (w6.alloc (.cells #[.int .i64 (rdC zs ((j + 1))), .int .i64 ld] 40)) := gr_alloc (gr_refl _)
        have HOa := Lib.hid ((HO.out.late hb).wide (Nat.le_refl _) hb.size)
        have HBa := Lib.hid (gr_then hb HBr.out)
        have hza := HBa.out.size
        clear hb
        have HSI := Lib.hid (show SI (w6.alloc (.cells #[.int .i64 (rdC zs ((j + 1))), .int .i64 ld] 40)) (w6.heap.size + 1) (some ⟨w6.heap.size, 0, none⟩) [rdC zs ((j + 1)), ld] from SI.of_new w6 [rdC zs ((j + 1)), ld])
        go_wp2_with (at_builtin; refine wpList_appM rfl _ _ 26 rfl 2 (by omega) w2.heap.size 40 i0 (.agg #[.int .i64 0, .int .i64 0]) 16 Try.underlying26 hi zi0 zi1 zi2 rfl _ ((j + 1)) c1 o _ rfl HOa.out (some ⟨w6.heap.size, 0, none⟩) 1 1 [rdC zs ((j + 1)), ld] (w6.heap.size + 1) rfl rfl (by omega) HSI.out (by unfold maxLen; omega) (by omega) hza ?_; intro A2 c2 w7 hr hg hb; have HR6 := Lib.hid hr; have HB6 := Lib.hid (HOa.out.after HBa.out hg hza (Nat.le_refl _)); clear hr hg hb)
        go_roundw
        case rel => exact ⟨(j + 1) + 1, A2, c2, _, ld, by omega, rfl, by go_num, by omega, ⟨fun h9 => by omega, fun j9 hj9 => by have h9 : j9 = (j + 1) := (by omega); rw [h9]; exact ldC_app _ _ HO.out.len⟩, by rw [show n - ((j + 1) + 1) = f by omega]; exact HGO.out, HR6.out, HB6.out⟩
        case measure => simp [intOf]; omega
end Go.Proofs.Ytmalbgbmapfiiaa
