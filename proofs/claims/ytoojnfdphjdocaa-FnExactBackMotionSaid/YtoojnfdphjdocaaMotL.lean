/- BackMotion, the program: its range over slices.Backward. -/
import Derived.Test.YtoojnfdphjdocaaMotK
import Derived.RangeFuncBox
import Derived.RangeFuncNested
import Derived.RangeFuncBound
import Derived.RangeFuncCalls
import Derived.RangeFuncLeaves
import Derived.Shelf.Abstract
import Derived.OwnWalkIn
import Derived.TacticsInMore
import Derived.LoopNIn
import Derived.LoopIn
namespace Go.Proofs.Ytoojnfdphjdocaa
open Go.RowKit Go.Deep
attribute [local go_sem] Oper.semAt_some
theorem wpListIn_app {α : Type} {w : World} {F : Fence} {nn : Nat} {P : Program} {ops : Array Oper} {rest : List Oper} {o : Oper} {a : Act} {Q : Exit → Act → World → Prop} (hgd : o.guard = none) (s x : Operand) (t : TypeId)
    (ho : o.op = .call { callee := .builtin .append, args := #[s, x], argTypes := #[t, t] })
    (lo : Nat) (e : TypeId) (i : TypeInfo) (z : Value) (bytes : Nat) (ht : P.underlying t = some (.slice e)) (hi : P.info? e = some i) (hz : i.zero = some z)
    (hsize : i.size = 1) (hby : i.bytes = bytes) (hzs : z.cells.size = 1) (f : α → Value) (h1 : ∀ y, (f y).oneCell' = true)
    (A : Option Addr) (n c : Nat) (xs : List α) (hi' : Nat) (hs : a.eval s = .slice A n c) (hn : xs.length = n) (hr : RS f e w lo hi' A c xs)
    (A' : Option Addr) (m c' : Nat) (ys : List α) (B' : Nat) (hx : a.eval x = .slice A' m c') (hm : ys.length = m) (hsv : SV f w B' A' ys) (hA : A' = none → c' = 0)
    (h63 : n + m ≤ maxLen) (hbytes : (n + m) * bytes ≤ 140737488355328) (hbase : lo ≤ w.heap.size)
    (h : ∀ A2 c2 w', RS f e w' lo w'.heap.size A2 c2 (xs ++ ys) → w.grownBy w' (A.map (·.block)) → (A2 = A ∨ A2 = some ⟨w.heap.size, 0, none⟩) → wpListIn F nn P ops Q rest (a.put o.dst (.slice A2 (n + m) c2)) w') :
    wpListIn F nn P ops Q (o :: rest) a w := by
  obtain ⟨A2, c2, w', hrun, h2, h3, h4⟩ := run_app (P := P) w t o.type lo e i z bytes ht hi hz hsize hby hzs f h1 A n c xs hi' hn hr A' m c' ys B' hm hsv hA h63 hbytes hbase
  refine wpListIn_plain hgd fun K hK' => ?_
  unfold Oper.wpIn
  refine ⟨?_, ?_⟩
  · simp [Oper.about, ho, resolve, Target.leads, Sem.run_pure]
  · rw [Oper.semAt_plain F _ _ (by rw [ho]; intro c hc'; cases hc')]
    simp [execOp, ho, resolve, invoke, builtin, hs, hx, hrun, Result.andThen]
    exact hK' _ _ (h A2 c2 w' h2 h3 h4)
def upto {α : Type} (f : Nat → α) (k : Nat) : List α := (List.range k).map f
theorem upto_succ {α : Type} (f : Nat → α) (k : Nat) : upto f (k + 1) = upto f k ++ [f k] := by simp [upto, List.range_succ]
theorem upto_length {α : Type} (f : Nat → α) (k : Nat) : (upto f k).length = k := by simp [upto]
/-- what lay below n₀ is as it was, and so is block b -/
structure KeepB (n₀ b : Nat) (A B : World) : Prop where
  below : Below n₀ A B
  box : b < A.heap.size → B.heap[b]? = A.heap[b]?
theorem KeepB.trans {n₀ b : Nat} {A B C : World} (h : KeepB n₀ b A B) (k : KeepB n₀ b B C) : KeepB n₀ b A C :=
  ⟨h.below.trans k.below, fun hb => (k.box (Nat.lt_of_lt_of_le hb h.below.size)).trans (h.box hb)⟩
theorem KeepB.cell {n₀ b o : Nat} {A B : World} (h : KeepB n₀ b A B) {v : Value} (hc : A.cell? ⟨b, o, none⟩ = some v) : B.cell? ⟨b, o, none⟩ = some v :=
  (World.cell?_of_block (a := ⟨b, o, none⟩) (h.box (lt_of_cell hc))).trans hc
/-- the j-th pair of a walk from behind -/
def bkAt (n : Nat) (zs : List Int) (j : Nat) : Nat × Int := (n - 1 - j, zs[n - 1 - j]?.getD 0)
set_option maxRecDepth 100000 in
set_option maxHeartbeats 2000000 in
theorem back1_in (F : Fence) (n : Nat) (h8 : F.fn 87) (hro : F.round = none) (hn : 1 ≤ n) (l Bs n₀ b off len cap : Nat) (zs : List Int) (hreach : len ≤ 1048576) (hb : b < n₀) (J Jx : List (Nat × Int) → World → Prop)
    (hY : ∀ pre x W, J pre W → pre.length < len → YieldAt F (n - 1) Try.prog l #[.int .i64 (x.1 : Int), .int .i64 x.2] W fun e W' =>
      (e = .returned (.bool true) ∧ J (pre ++ [x]) W' ∧ KeepB n₀ Bs W W') ∨ (e = .returned (.bool false) ∧ Jx (pre ++ [x]) W'))
    (W : World) (hBs : W.cell? ⟨Bs, 0, none⟩ = some (.slice (some ⟨b, off, none⟩) len cap)) (hc : ∀ j, j < len → W.cell? ⟨b, off + j, none⟩ = some (.int .i64 (zs[j]?.getD 0))) (h0 : J [] W) :
    CallsIn F n Try.prog 87 #[.func (.yield l) #[] #[], .pointer (some ⟨Bs, 0, none⟩)] W fun e W' => (∃ v, e = .returned v) ∧
      ((∃ ys, ys = upto (bkAt len zs) len ∧ J ys W') ∨ (∃ pre, (∃ k, k ≤ len ∧ pre = upto (bkAt len zs) k) ∧ Jx pre W')) := by
  refine callsIn_of_wp Try.func87 rfl h8 ?_ hro
  simp only [Try.ntmps87, List.size_toArray, List.length_cons, List.length_nil, Nat.reduceAdd, Nat.reduceSub, Array.replicate_succ, Array.replicate_zero, List.push_toArray, List.append_toArray, List.nil_append, List.cons_append]
  gi_wp2
  gi_loopw [3] (fun i wr => ∃ j : Nat, j ≤ len ∧ i = .int .i64 ((len : Int) - 1 - (j : Int)) ∧ J (upto (bkAt len zs) j) wr ∧ KeepB n₀ Bs W wr)
    (fun i _ => (intOf i + 1).toNat)
  case atStart => exact ⟨0, Nat.zero_le _, by simp, h0, Below.refl _ _, fun _ => rfl⟩
  case round =>
    obtain ⟨j, hj, rfl, hJs, hnx⟩ := hrel
    by_cases hlt : j < len
    · have hBs2 := hnx.cell hBs
      obtain ⟨fn, tmps, assign, body, hy, hR⟩ := hY _ (bkAt len zs j) wr hJs (by rw [upto_length]; exact hlt)
      obtain ⟨k, hk⟩ : ∃ k, len - 1 - j = k := ⟨_, rfl⟩
      have hk2 : (len : Int) - 1 - (j : Int) = (k : Int) := by omega
      have hup := upto_succ (bkAt len zs) j
      have hbk : bkAt len zs j = (k, zs[k]?.getD 0) := by unfold bkAt; rw [hk]
      rw [hbk] at hy hR
      dsimp only at hy
      have hcx' : wr.cell? ⟨b, off + k, none⟩ = some (.int .i64 (zs[k]?.getD 0)) := (hnx.below.cell (p := ⟨b, off + k, none⟩) hb).trans (hc k (by omega))
      have HUP := Lib.hid hup
      have HBK := Lib.hid hbk
      have HK2 := Lib.hid hk2
      rw [hk2]
      have j0 : (0 : Int) ≤ (k : Int) := by omega
      have j1 : (k : Int) < (len : Int) := by omega
      have j2 : k < len := by omega
      clear hup hbk hk2 hk
      gi_wp2
      refine hR.mono ?_
      rintro e W3 (⟨rfl, hJ3, hk3⟩ | ⟨rfl, hJx3⟩)
      · gi_wp2
        go_roundw
        case rel => exact ⟨j + 1, by omega, by have := HK2.out; (apply congrArg) <;> omega, by rw [HUP.out, HBK.out]; exact hJ3, hnx.trans hk3⟩
        case measure => have := HK2.out; first | (simp [intOf]; done) | (simp [intOf]; omega)
      · gi_wp2
        refine bodyPost_ret (results_none rfl _ _ _) rfl ?_
        exact ⟨⟨_, rfl⟩, .inr ⟨_, ⟨j + 1, by omega, HUP.out.symm⟩, by rw [HBK.out]; exact hJx3⟩⟩
    · obtain rfl : j = len := by omega
      have hneg : decide ((0 : Int) ≤ (j : Int) - 1 - (j : Int)) = false := decide_eq_false (by omega)
      have hneg2 : (j : Int) - 1 - (j : Int) = -1 := by omega
      rw [hneg2]
      clear hneg2 hneg
      gi_wp2
      go_end0
      exact ⟨⟨_, rfl⟩, .inl ⟨_, rfl, hJs⟩⟩
end Go.Proofs.Ytoojnfdphjdocaa
