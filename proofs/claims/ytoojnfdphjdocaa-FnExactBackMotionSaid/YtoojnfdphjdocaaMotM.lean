/- BackMotion, the program. -/
import Derived.Test.YtoojnfdphjdocaaMotL
namespace Go.Proofs.Ytoojnfdphjdocaa
open Go.RowKit Go.Deep
attribute [local go_sem] Oper.semAt_some
def ngw (p : Nat × Int) : Int := wrap64 (-p.2)
theorem upto_back (xs : List Int) : (upto (bkAt xs.length xs) xs.length).map ngw = xs.reverse.map fun x => wrap64 (-x) := by
  apply List.ext_getElem?
  intro j
  rw [List.getElem?_map, List.getElem?_map]
  unfold upto
  rw [List.getElem?_map]
  by_cases hj : j < xs.length
  · rw [List.getElem?_range hj, List.getElem?_reverse hj]
    obtain ⟨x, hx⟩ := at_of_lt (xs := xs) (k := xs.length - 1 - j) (by omega)
    simp [bkAt, hx, ngw]
  · rw [List.getElem?_eq_none (by simp; omega), List.getElem?_eq_none (by simp; omega)]; rfl
theorem negs_wrap {xs : List Int} (h : ∀ (j : Nat) x, xs[j]? = some x → -1 ≤ x ∧ x ≤ 1) : (xs.reverse.map fun x => wrap64 (-x)) = negs xs := by
  unfold negs
  apply List.map_congr_left
  intro x hx
  obtain ⟨j, hj⟩ := List.mem_iff_getElem?.1 (List.mem_reverse.1 hx)
  exact IntWalk.wrap64_in _ (by have := h j x hj; omega)
/-- what the loop keeps of the world -/
def BackI (w : World) (L r o : Nat) (D : Int) (pre : List (Nat × Int)) (W : World) : Prop :=
  (∃ A q, RS (.int .i64) 2 W L W.heap.size A q (pre.map ngw) ∧ Box2 W o 27 (.int .i64 D) (.slice A pre.length q) ∧ Box2 W r 27 (.int .i64 0) (.slice none 0 0)) ∧ Below w.heap.size w W ∧ L ≤ W.heap.size
theorem rs_block {α : Type} {f : α → Value} {e : TypeId} {w : World} {lo hi g c : Nat} {xs : List α} (h : RS f e w lo hi (some ⟨g, 0, none⟩) c xs) : ∃ cur, w.heap[g]? = some (.cells cur e (0, 0)) := by
  rcases h with ⟨h0, _⟩ | ⟨g', cur, h0, _, _, h3, _⟩
  · cases h0
  · simp only [Option.some.injEq, Addr.mk.injEq, and_true] at h0
    subst h0; exact ⟨cur, h3⟩
theorem backI_own (w : World) (L r o : Nat) (D : Int) (B : Nat) (hB : w.heap.size ≤ B) : OwnFrom B (BackI w L r o D) := by
  rintro s W W' row ⟨⟨A, q, hr, h1, h2⟩, hb, hl⟩ hg hrow
  have hcell : ∀ (k : Nat) (cur : Array Value) (t : Nat), W.heap[k]? = some (.cells cur t (0, 0)) → row ≠ some k := by
    intro k cur t hk e
    obtain ⟨_, ob, h3, h4⟩ := hrow k e
    rw [hk] at h3; cases h3; cases h4
  refine ⟨⟨A, q, ?_, h1.grown hg (hcell _ _ _ h1), h2.grown hg (hcell _ _ _ h2)⟩, hb.grown hg hb.size fun k e => Nat.le_trans hB (hrow k e).1, Nat.le_trans hl hg.size⟩
  exact (hr.moved hg fun g h3 => by subst h3; obtain ⟨cur, h4⟩ := rs_block hr; exact hcell _ _ _ h4).top
theorem RS.rowne {α : Type} {f : α → Value} {e : TypeId} {w : World} {lo hi c k : Nat} {A : Option Addr} {xs : List α} (h : RS f e w lo hi A c xs) (hk : k < lo) : A.map (·.block) ≠ some k := by
  rcases h with ⟨rfl, _⟩ | ⟨g, cur, rfl, h1, _⟩
  · simp
  · simp; omega
theorem back_app {w W w2 : World} {L r o Bs : Nat} {D : Int} {pre : List (Nat × Int)} {x : Nat × Int} {A1 A2 : Option Addr} {q c2 : Nat} {tmp : Obj} (hr : RS (.int .i64) 2 W L W.heap.size A1 q (pre.map ngw)) (hbx : Box2 W o 27 (.int .i64 D) (.slice A1 pre.length q)) (hbr : Box2 W r 27 (.int .i64 0) (.slice none 0 0)) (hbe : Below w.heap.size w W)
    (hL : L ≤ W.heap.size) (ho : o < L) (hrL : r < L) (hor : r ≠ o) (how : w.heap.size ≤ o) (hBs : Bs < L) (hBo : Bs ≠ o)
    (hr2 : RS (.int .i64) 2 w2 L w2.heap.size A2 c2 (pre.map ngw ++ [ngw x])) (hgrow : (W.alloc tmp).grownBy w2 (A1.map (·.block))) :
    (w2.cell? ⟨o, 1, none⟩ = some (.slice A1 pre.length q) ∧ w2.frozen? ⟨o, 1, none⟩ = false) ∧ KeepsFrom L W (w2.setCell ⟨o, 1, none⟩ (.slice A2 (pre.length + 1) c2)) ∧ KeepB w.heap.size Bs W (w2.setCell ⟨o, 1, none⟩ (.slice A2 (pre.length + 1) c2)) ∧ BackI w L r o D (pre ++ [x]) (w2.setCell ⟨o, 1, none⟩ (.slice A2 (pre.length + 1) c2)) := by
  have ha : Below W.heap.size W (W.alloc tmp) := gr_alloc (gr_refl W)
  have hb2 : Box2 w2 o 27 (.int .i64 D) (.slice A1 pre.length q) := (hbx.late ha).grown hgrow (hr.rowne ho)
  have hb3 : Box2 w2 r 27 (.int .i64 0) (.slice none 0 0) := (hbr.late ha).grown hgrow (hr.rowne hrL)
  have hlow : Below w.heap.size W w2 := (ha.mono hbe.size).grown hgrow (Nat.le_trans hbe.size ha.size) fun k e => by
    rcases Nat.lt_or_ge k L with h1 | h1
    · exact absurd e (hr.rowne h1)
    · omega
  refine ⟨⟨hb2.c1, hb2.f0 1⟩, ?_, ⟨hlow.setCell how _, fun hb => ?_⟩, ⟨A2, c2, ?_, ?_, hb3.far (p := ⟨o, 1, none⟩) hor _⟩, hbe.trans (hlow.setCell how _), Nat.le_trans hL (by have h1 := ha.size; have h2 := hgrow.size; simp only [World.setCell, Array.size_modify]; omega)⟩
  · refine (((KeepsOthers.alloc W tmp).trans (KeepsOthers.of_grownBy hgrow fun j ob ej hj => ?_)).trans (KeepsOthers.setCell _ _ _)).from _
    rcases hr.late ha with ⟨rfl, _⟩ | ⟨g, cur, rfl, _, _, h3, _⟩
    · cases ej
    · simp only [Option.map_some, Option.some.injEq] at ej
      subst ej; rw [h3] at hj; cases hj; rfl
  · rw [Below.heap_setCell w2 ⟨o, 1, none⟩ _ Bs hBo, hgrow.block Bs (Nat.lt_of_lt_of_le hb ha.size) (fun e => hr.rowne hBs e.symm)]
    exact Below.heap_alloc W _ Bs hb
  · have h4 := hr2.far (p := ⟨o, 1, none⟩) (fun g e => by subst e; have := hr2.ge; simp only; omega) (.slice A2 (pre.length + 1) c2)
    rw [List.map_append]; exact h4.wide (Nat.le_refl _) (by simp [World.setCell])
  · rw [List.length_append]; exact hb2.put1 _
set_option maxHeartbeats 4000000 in
set_option maxRecDepth 100000 in
theorem back_any (A : Option Addr) (n c : Nat) (w : World) : Calls Try.prog 66 #[.slice A n c] w fun e w' => e = .returned (.func (.func 87) #[] #[.pointer (some ⟨w.heap.size, 0, none⟩)]) ∧ w' = w.alloc (.cells #[.slice A n c] 22) := by
  go_enter Try.func66, Try.ntmps66; go_wp2; go_ret; exact ⟨rfl, rfl⟩
set_option maxHeartbeats 4000000 in
set_option maxRecDepth 100000 in
theorem back0_in (F : Fence) (n : Nat) (h8 : F.fn 87) (hro : F.round = none) (l Bs c : Nat) (A : Option Addr) (J : List (Nat × Int) → World → Prop) (W : World) (hBs : W.cell? ⟨Bs, 0, none⟩ = some (.slice A 0 c)) (h0 : J [] W) :
    CallsIn F n Try.prog 87 #[.func (.yield l) #[] #[], .pointer (some ⟨Bs, 0, none⟩)] W fun e W' => (∃ v, e = .returned v) ∧ J [] W' := by
  refine callsIn_of_wp Try.func87 rfl h8 ?_ hro
  simp only [Try.ntmps87, List.size_toArray, List.length_cons, List.length_nil, Nat.reduceAdd, Nat.reduceSub, Array.replicate_succ, Array.replicate_zero, List.push_toArray, List.append_toArray, List.nil_append, List.cons_append]
  gi_wp2
  gi_loopw [3] (fun i wr => i = .int .i64 (-1) ∧ J [] wr) (fun _ _ => 0)
  case atStart => exact ⟨rfl, h0⟩
  case round =>
    obtain ⟨rfl, hJs⟩ := hrel
    gi_wp2
    go_end0
    exact ⟨⟨_, rfl⟩, hJs⟩
set_option maxHeartbeats 4000000 in
set_option maxRecDepth 100000 in
theorem back_stops (F : Fence) (n : Nat) (h8 : F.fn 87) (hro : F.round = none) (hn : 1 ≤ n) (Bs n₀ c : Nat) (A : Option Addr) (zs : List Int) (hlen : zs.length ≤ 1048576) (w : World) (hBs : Bs < w.heap.size) (hn₀ : n₀ ≤ w.heap.size)
    (hc : w.cell? ⟨Bs, 0, none⟩ = some (.slice A zs.length c)) (hI : SV (.int .i64) w n₀ A zs) :
    SeqStopsK F n Try.prog 87 #[.pointer (some ⟨Bs, 0, none⟩)] (fun x : Nat × Int => #[Value.int .i64 (x.1 : Int), Value.int .i64 x.2]) (KeepB n₀ Bs) (fun ys => ys = upto (bkAt zs.length zs) zs.length)
      (fun pre => ∃ k, k ≤ zs.length ∧ pre = upto (bkAt zs.length zs) k) zs.length w := fun l J Jx W hW _ _ hY h0 => by
  have hc' := (hW.cell (p := ⟨Bs, 0, none⟩) hBs).trans hc
  rcases Nat.eq_zero_or_pos zs.length with hz | hz
  · obtain rfl : zs = [] := List.length_eq_zero_iff.1 hz
    exact (back0_in F n h8 hro l Bs c A J W hc' h0).mono fun e W' ⟨he, hj⟩ => ⟨he, .inl ⟨_, rfl, hj⟩⟩
  · obtain ⟨b, off, rfl, hb, hcs⟩ := (hI.below (hW.mono hn₀)) hz
    exact back1_in F n h8 hro hn l Bs n₀ b off zs.length c zs hlen hb J Jx hY W hc' (fun j hj => by obtain ⟨x, hx⟩ := at_of_lt hj; rw [hcs j x hx, hx]; rfl) h0
set_option maxHeartbeats 4000000 in
set_option maxRecDepth 100000 in
theorem implBm_any (s : Int) (A : Option Addr) (c : Nat) (xs : List Int) (w : World) (hn : xs.length ≤ 1048576) (h : SV (.int .i64) w w.heap.size A xs) : Calls Try.prog 27 #[.agg #[.int .i64 s, .slice A xs.length c]] w (RetM (bmS s xs) (bmX s xs) (bmC s xs) 2 w) := by
  obtain ⟨i0, hi, hz0, hz1, hz2⟩ := info_parts infoInt
  have H0 := Lib.hid h
  have hw0 : Below w.heap.size w ((w.alloc (.cells #[.int .i64 s, .slice A xs.length c] 27)).alloc (.cells #[.int .i64 0, .slice none 0 0] 27)) := by repeat' first | exact gr_refl _ | with_reducible assumption | with_reducible apply gr_alloc | with_reducible apply gr_set | with_reducible apply gr_drew | with_reducible apply gr_drewN | exact Nat.le_add_right _ _ | exact Nat.le_refl _ | (refine gr_then (by with_reducible assumption) ?_)
  have H := Lib.hid (h.later hw0)
  clear h hw0
  have HX0 := Lib.hid (show Box2 ((w.alloc (.cells #[.int .i64 s, .slice A xs.length c] 27)).alloc (.cells #[.int .i64 0, .slice none 0 0] 27)) (w.heap.size) 27 (.int .i64 s) (.slice A xs.length c) by have h := (Box2.new (w) 27 (.int .i64 s) (.slice A xs.length c)).late (gr_alloc (o := .cells #[.int .i64 0, .slice none 0 0] 27) (gr_refl _)); (try simp only [World.size_alloc] at h); exact h)
  have q0_0 := HX0.out.c0
  have q0_1 := HX0.out.c1
  have HX1 := Lib.hid (show Box2 ((w.alloc (.cells #[.int .i64 s, .slice A xs.length c] 27)).alloc (.cells #[.int .i64 0, .slice none 0 0] 27)) (w.heap.size + 1) 27 (.int .i64 0) (.slice none 0 0) by have h := Box2.new (w.alloc (.cells #[.int .i64 s, .slice A xs.length c] 27)) 27 (.int .i64 0) (.slice none 0 0); (try simp only [World.size_alloc] at h); exact h)
  have q1_0 := HX1.out.c0
  have q1_1 := HX1.out.c1
  have HB := Lib.hid (show Below w.heap.size w ((w.alloc (.cells #[.int .i64 s, .slice A xs.length c] 27)).alloc (.cells #[.int .i64 0, .slice none 0 0] 27)) by repeat' first | exact gr_refl _ | with_reducible assumption | with_reducible apply gr_alloc | with_reducible apply gr_set | with_reducible apply gr_drew | with_reducible apply gr_drewN | exact Nat.le_add_right _ _ | exact Nat.le_refl _ | (refine gr_then (by with_reducible assumption) ?_))
  have hz : w.heap.size + 2 ≤ ((w.alloc (.cells #[.int .i64 s, .slice A xs.length c] 27)).alloc (.cells #[.int .i64 0, .slice none 0 0] 27)).heap.size := by simp
  by_cases k1 : okM s xs = true
  case neg =>
    have k1 := (Bool.not_eq_true _).mp k1
    rw [show bmS s xs = 0 by simp [bmS, k1], show bmX s xs = [] by simp [bmX, k1], show bmC s xs = 1 by simp [bmC, k1]]
    have K1 := Lib.hid k1
    clear k1
    go_enter Try.func27, Try.ntmps27
    have r2 := HX1.out.f0 0
    have r3 := HX1.out.f0 1
    go_wp2_with fail
    generalize (w.alloc (.cells #[.int .i64 s, .slice A xs.length c] 27)).alloc (.cells #[.int .i64 0, .slice none 0 0] 27) = v0 at *
    go_at_call 19
    (with_reducible refine (ok_is (K := fun w w' => Below w.heap.size w w') K1.out (implVm_any s _ _ xs _ hn H.out)).mono ?_)
    rintro e u1 ⟨rfl, hb⟩
    have hy1 := hb.size
    replace q0_0 := keepc hb q0_0
    replace q0_1 := keepc hb q0_1
    replace q1_0 := keepc hb q1_0
    replace q1_1 := keepc hb q1_1
    replace HX1 := Lib.hid (HX1.out.late hb)
    replace H := Lib.hid (H.out.later hb)
    replace r2 := HX1.out.f0 0
    replace r3 := HX1.out.f0 1
    replace HB := Lib.hid (gr_then hb HB.out)
    clear hb
    go_wp2
    refine bodyPost_ret (v := .tuple #[.agg #[.int .i64 0, .slice none 0 0], .int .i64 1]) (by simp [results, Try.results27, go_sem, *]) rfl ⟨none, 0, rfl, RS.nil, ?_⟩
    have := HB.out
    repeat' first | exact gr_refl _ | with_reducible assumption | with_reducible apply gr_alloc | with_reducible apply gr_drew | with_reducible apply gr_drewN | (refine gr_set (by dsimp only; omega) ?_)
  have K1 := Lib.hid k1
  have hn2 : xs.length ≤ 200 := (okM_t k1).2.1
  have HXS := Lib.hid (okM_t k1).2.2
  rw [show bmS s xs = dirAt s xs xs.length by simp [bmS, k1], show bmX s xs = negs xs by simp [bmX, k1], show bmC s xs = 0 by simp [bmC, k1]]
  clear k1
  have HAT : Hid (∀ (A : Option Addr) (c : Nat) (w : World), SV (.int .i64) w w.heap.size A (trk s xs xs.length) → Calls Try.prog 55 #[.slice A (xs.length + 1) c, .int .i64 200] w fun e w' => e = .returned (.int .i64 (dirAt s xs xs.length)) ∧ w = w') := fun A c w h => by have h2 := at_any s A c 200 xs w hn2 (by constructor <;> omega) h; rw [show min (200 : Int).toNat xs.length = xs.length by omega] at h2; exact h2
  obtain ⟨D, hD⟩ : ∃ D, dirAt s xs xs.length = D := ⟨_, rfl⟩
  have HD := Lib.hid hD
  rw [hD] at HAT ⊢
  clear hD
  refine (callsIn_wide (n := 3)).1 ?_
  refine callsIn_of_wp_marks Try.func27 rfl trivial ?_ rfl
  simp only [Try.ntmps27, List.size_toArray, List.length_cons, List.length_nil, Nat.reduceAdd, Nat.reduceSub, Array.replicate_succ, Array.replicate_zero, List.push_toArray, List.append_toArray, List.nil_append, List.cons_append]
  refine wpIn_wide.2 ?_
  have r2 := HX1.out.f0 0
  have r3 := HX1.out.f0 1
  go_wp2_with fail
  generalize (w.alloc (.cells #[.int .i64 s, .slice A xs.length c] 27)).alloc (.cells #[.int .i64 0, .slice none 0 0] 27) = v0 at *
  go_at_call 19
  (with_reducible refine (ok_is (K := fun w w' => Below w.heap.size w w') K1.out (implVm_any s _ _ xs _ hn H.out)).mono ?_)
  rintro e u1 ⟨rfl, hb⟩
  have hy1 := hb.size
  replace q0_0 := keepc hb q0_0
  replace q0_1 := keepc hb q0_1
  replace q1_0 := keepc hb q1_0
  replace q1_1 := keepc hb q1_1
  replace HX1 := Lib.hid (HX1.out.late hb)
  replace H := Lib.hid (H.out.later hb)
  replace r2 := HX1.out.f0 0
  replace r3 := HX1.out.f0 1
  replace HB := Lib.hid (gr_then hb HB.out)
  clear hb
  go_wp2_with fail
  go_at_call 56
  (with_reducible refine (track_any s _ _ xs _ K1.out H.out).mono ?_)
  rintro e u2 ⟨g1, cap, rfl, hsv, hb⟩
  have hy2 := hb.size
  replace q0_0 := keepc hb q0_0
  replace q0_1 := keepc hb q0_1
  replace q1_0 := keepc hb q1_0
  replace q1_1 := keepc hb q1_1
  replace HX1 := Lib.hid (HX1.out.late hb)
  replace H := Lib.hid (H.out.later hb)
  replace r2 := HX1.out.f0 0
  replace r3 := HX1.out.f0 1
  replace HB := Lib.hid (gr_then hb HB.out)
  have HT := Lib.hid hsv
  clear hsv hb
  go_wp2_with fail
  go_at_call 55
  (with_reducible refine (HAT.out _ _ _ HT.out).mono ?_)
  rintro e u3 ⟨rfl, rfl⟩
  clear HT
  have t0 := fun o => keepc (gr_alloc (o := o) (gr_refl u2)) q0_1
  go_wp2_with (go_at_call 66; (with_reducible refine (back_any _ _ _ _).mono ?_); rintro e u4 ⟨rfl, rfl⟩)
  clear t0
  refine (wpIn_wide (n := 3)).1 ?_
  have hb1 : Below u2.heap.size u2 ((u2.alloc (.cells #[.int .i64 D, .slice none 0 0] 27)).alloc (.cells #[.slice A xs.length c] 22)) := gr_alloc (gr_alloc (gr_refl u2))
  have HO := Lib.hid (show Box2 ((u2.alloc (.cells #[.int .i64 D, .slice none 0 0] 27)).alloc (.cells #[.slice A xs.length c] 22)) u2.heap.size 27 (.int .i64 D) (.slice none 0 0) from (Box2.new u2 27 (.int .i64 D) (.slice none 0 0)).late (gr_alloc (gr_refl _)))
  have hcB : ((u2.alloc (.cells #[.int .i64 D, .slice none 0 0] 27)).alloc (.cells #[.slice A xs.length c] 22)).cell? ⟨u2.heap.size + 1, 0, none⟩ = some (.slice A xs.length c) := by simp [go_sem]
  have hzz : u2.heap.size + 2 ≤ ((u2.alloc (.cells #[.int .i64 D, .slice none 0 0] 27)).alloc (.cells #[.slice A xs.length c] 22)).heap.size := by simp
  replace HX1 := Lib.hid (HX1.out.late hb1)
  replace HB := Lib.hid (gr_then hb1 HB.out)
  clear hb1 q0_0 q0_1 q1_0 q1_1 r2 r3 H HX0
  generalize (u2.alloc (.cells #[.int .i64 D, .slice none 0 0] 27)).alloc (.cells #[.slice A xs.length c] 22) = v1 at *
  refine wpIn_rangeFunc_ownG (w := v1) rfl (by omega) (gf := 87) (lb := #[.pointer (some ⟨u2.heap.size + 1, 0, none⟩)]) rfl trivial (enters_of Try.func87 (by kernel_rfl) rfl)
    (back_stops Fence.wide (3 - 1) trivial rfl (by omega) (u2.heap.size + 1) w.heap.size c A xs hn v1 (by omega) HB.out.size hcB (H0.out.below HB.out)) (fun h k => h.trans k)
    (fun W l o o' hl h h2 h3 => ⟨belowK_b (w := v1) HB.out.size W l o o' hl h h2 h3, fun hb => World.putObj_heap_other (by omega)⟩) (Below.refl _ _) (fun _ => rfl)
    (BackI w v1.heap.size (w.heap.size + 1) u2.heap.size D) (fun _ _ _ => False) (backI_own w _ _ _ D v1.heap.size HB.out.size) (fun _ _ _ _ _ hs _ _ => hs) ⟨⟨none, 0, RS.nil, HO.out, HX1.out⟩, HB.out, Nat.le_refl _⟩ ?a1 ?assign ?body ?done ?stop
  case assign =>
    intro l x W K hK
    gi_wp2
    exact hK
  case body =>
    rintro l pre x W ⟨⟨A1, q, hr, hbx, hbr⟩, hbe, hL⟩ hlt
    have p1 := hbx.c1
    have f1 := hbx.f0 1
    have hxl := hbx.lt
    have HR := Lib.hid hr
    have HBX := Lib.hid hbx
    have HBR := Lib.hid hbr
    have HBE := Lib.hid hbe
    have hsz := hbe.size
    clear hr hbx hbr hbe
    gi_wp2_with (gi_at_builtin; refine wpListIn_app (by rfl) _ _ 22 (by rfl) (v1.heap.size) 2 i0 (.int .i64 0) 8 Try.underlying22 hi hz0 hz1 hz2 (by rfl) (Value.int .i64) (fun _ => rfl) A1 (pre.length) q (pre.map ngw) (W.heap.size) (by rfl) (by simp) (HR.out.late (gr_alloc (gr_refl W))) (some ⟨W.heap.size, 0, none⟩) 1 1 [ngw x] _ (by rfl) (by rfl) (SV.of_new W) (fun h => by cases h) (by unfold maxLen; omega) (by omega) (by simp only [World.size_alloc]; omega) ?_; intro A2 c2 w2 hr2 hgrow hblk; obtain ⟨⟨e1, e2⟩, h3, h4, h5⟩ := back_app (r := w.heap.size + 1) (o := u2.heap.size) (Bs := u2.heap.size + 1) HR.out HBX.out HBR.out HBE.out hL (by omega) (by omega) (by omega) (by omega) (by omega) (by omega) hr2 hgrow; have H3 := Lib.hid h3; have H4 := Lib.hid h4; have H5 := Lib.hid h5; clear h3 h4 h5 hr2 hgrow hblk)
    exact ⟨H3.out, H4.out, H5.out⟩
  case done =>
    rintro DD ys W hD rfl ⟨⟨A1, q, hr, hbx, hbr⟩, hbe, hL⟩ hK
    have p0 := hbx.c0
    have p1 := hbx.c1
    have r0 := hbr.c0
    have r1 := hbr.c1
    have r2 := hbr.f0 0
    have r3 := hbr.f0 1
    have HR := Lib.hid hr
    have HBR := Lib.hid hbr
    have HBE := Lib.hid hbe
    have HK2 := Lib.hid hK
    clear hr hbx hbr hbe hK
    have hlen := upto_length (bkAt xs.length xs) xs.length
    have HL := Lib.hid hlen
    rw [hlen] at p1
    have HBX := Lib.hid p1
    clear hlen
    go_wp2
    have hK' := ((KeepsOthers.setCell W ⟨w.heap.size + 1, 0, none⟩ (.int .i64 D)).trans (KeepsOthers.setCell _ ⟨w.heap.size + 1, 1, none⟩ (.slice A1 xs.length q))).same DD _ HK2.out rfl
    refine ⟨by simp, .inl ⟨_, _, rfl, run_takeDeferred hK', ?_⟩⟩
    have hB9 := ((HBR.out.put0 (.int .i64 D)).put1 (.slice A1 xs.length q)).keep (World.putObj_heap_other (o := .deferred none) (r := DD) (k := w.heap.size + 1) (by omega))
    have c8 := hB9.c0
    have c9 := hB9.c1
    refine ⟨.tuple #[.agg #[.int .i64 D, .slice A1 xs.length q], .int .i64 0], ?_, A1, q, by rw [negs_len], ?_, ?_⟩
    · simp [results, Try.f27, go_sem, c8, c9]
    · have h := HR.out
      rw [upto_back, negs_wrap HXS.out] at h
      have h2 := (h.far (p := ⟨w.heap.size + 1, 0, none⟩) (fun g e => by subst e; have := h.ge; simp only; omega) (.int .i64 D)).far (p := ⟨w.heap.size + 1, 1, none⟩) (fun g e => by subst e; have := h.ge; simp only; omega) (.slice A1 xs.length q)
      exact ((h2.moved (grownBy_putObj' _ DD (.deferred none)) (fun g e e2 => by subst e; obtain ⟨cur, h5⟩ := rs_block h2; simp only [Option.some.injEq] at e2; subst e2; rw [h5] at hK'; cases hK')).top).wide (by omega) (Nat.le_refl _)
    · exact ((HBE.out.setCell (by simp) _).setCell (by simp) _).trans (belowK_b (w := v1) HB.out.size _ DD _ _ hD hK' rfl rfl)
  case stop =>
    rintro D c pre W _ _ h _
    exact h.elim
end Go.Proofs.Ytoojnfdphjdocaa
