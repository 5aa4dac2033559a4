/- slices.Backward over a list of keys with their buckets: what its iterator does, under any body that keeps what lay. -/
import Derived.RangeFuncNested
import Derived.RangeFuncBound
import Derived.RangeFuncBox
import Derived.RangeFuncCalls
import Derived.RangeFuncLeaves
import Derived.Shelf.Abstract
import Derived.Shelf.RegionOpen
import Derived.WalkKit
import Derived.OwnWalkIn
import Derived.TacticsInMore
import Derived.LoopNIn
import Derived.LoopIn
import Derived.Stop.RegionWithIn
import Derived.Test.YtkihjakbbcajbaaGreatChecked
import Derived.Test.YtkihjakbbcajbaaGreatKd
namespace Go.Proofs.YtkihjakbbcajbaaGreat.Bw
set_option linter.unusedSimpArgs false
set_option linter.unusedVariables false
open Go Go.RowKit Go.Shelf Go.Proofs Go.Proofs.YtkihjakbbcajbaaGreat.PM Go.Proofs.YtkihjakbbcajbaaGreat.Kd
attribute [local go_sem] Oper.semAt_some
/-- A key with its bucket: key, the limit's three numbers, level, part, tick. -/
structure HV where
  k : Int
  a : Int
  b : Int
  c : Int
  d : Int
  e : Int
  f : Int
def HV.val (h : HV) : Value := .agg #[.int .u32 h.k, .int .i64 h.a, .int .i64 h.b, .int .i64 h.c, .int .i64 h.d, .int .i64 h.e, .int .u64 h.f]
/-- What has come when k rounds are over: the last one first. -/
def back {α : Type} (el : Nat → α) (len k : Nat) : List α := (List.range k).map fun j => el (len - 1 - j)
theorem back_succ {α : Type} (el : Nat → α) (len k : Nat) : back el len (k + 1) = back el len k ++ [el (len - 1 - k)] := by simp [back, List.range_succ]
theorem back_len {α : Type} (el : Nat → α) (len k : Nat) : (back el len k).length = k := by simp [back]
theorem back_pre {α : Type} (el : Nat → α) (len k : Nat) : ∀ d : Nat, ∃ rest, back el len (k + d) = back el len k ++ rest
  | 0 => ⟨[], by simp⟩
  | d + 1 => by
    obtain ⟨r, hr⟩ := back_pre el len k d
    rw [← Nat.add_assoc, back_succ, hr, List.append_assoc]
    exact ⟨_, rfl⟩
set_option maxRecDepth 100000 in
set_option maxHeartbeats 4000000 in
theorem back1_in {α : Type} (encs : α → Array Value) (el : Nat → α) (n : Nat) (hn : 1 ≤ n) (l Bs len cap : Nat) (Kb : Nat → Prop) (ad : Option Addr) (hv : Nat → HV) (hreach : len ≤ 1000000) (hel : ∀ j, j < len → encs (el j) = #[.int .i64 (j : Int), (hv j).val])
    (J Jx : List α → World → Prop)
    (hY : ∀ pre x W, J pre W → pre.length < len → YieldAt Fence.wide (n - 1) Tryz.prog l (encs x) W fun e W' =>
      (e = .returned (.bool true) ∧ J (pre ++ [x]) W' ∧ KeepB Kb W W') ∨ (e = .returned (.bool false) ∧ Jx (pre ++ [x]) W'))
    (W : World) (hB : Kb Bs) (hBs : W.cell? ⟨Bs, 0, none⟩ = some (.slice ad len cap))
    (hc : ∀ j, j < len → ∃ b o, ad = some ⟨b, o, none⟩ ∧ Kb b ∧ W.cell? ⟨b, o + j * 7, none⟩ = some (.int .u32 (hv j).k) ∧ W.cell? ⟨b, o + j * 7 + 1, none⟩ = some (.int .i64 (hv j).a) ∧ W.cell? ⟨b, o + j * 7 + 2, none⟩ = some (.int .i64 (hv j).b) ∧ W.cell? ⟨b, o + j * 7 + 3, none⟩ = some (.int .i64 (hv j).c) ∧ W.cell? ⟨b, o + j * 7 + 4, none⟩ = some (.int .i64 (hv j).d) ∧ W.cell? ⟨b, o + j * 7 + 5, none⟩ = some (.int .i64 (hv j).e) ∧ W.cell? ⟨b, o + j * 7 + 6, none⟩ = some (.int .u64 (hv j).f))
    (h0 : J [] W) :
    CallsIn Fence.wide n Tryz.prog 105 #[.func (.yield l) #[] #[], .pointer (some ⟨Bs, 0, none⟩)] W fun e W' => (∃ v, e = .returned v) ∧
      ((∃ ys, ys = back el len len ∧ J ys W') ∨ (∃ pre, (∃ k, k ≤ len ∧ pre = back el len k) ∧ Jx pre W')) := by
  refine callsIn_of_wp Tryz.func105 rfl trivial ?_ rfl
  simp only [Tryz.ntmps105, List.size_toArray, List.length_cons, List.length_nil, Nat.reduceAdd, Nat.reduceSub, Array.replicate_succ, Array.replicate_zero, List.push_toArray, List.append_toArray, List.nil_append, List.cons_append]
  gi_wp2
  gi_loopw [3] (fun i wr => ∃ k : Nat, k ≤ len ∧ i = .int .i64 ((len : Int) - 1 - k) ∧ J (back el len k) wr ∧ KeepB Kb W wr)
    (fun i _ => ((RowKit.intOf i) + 1).toNat)
  case atStart => exact ⟨0, Nat.zero_le _, by simp, h0, KeepB.refl _ _⟩
  case round =>
    obtain ⟨k, hk, rfl, hJs, hnx⟩ := hrel
    have g0 := (hnx.cell (p := ⟨Bs, 0, none⟩) hB).trans hBs
    by_cases hlt : k < len
    · obtain ⟨j, hj⟩ : ∃ j : Nat, len - 1 - k = j := ⟨_, rfl⟩
      have hji : (len : Int) - 1 - k = (j : Int) := by omega
      obtain ⟨b, o, rfl, hb, c0, c1, c2, c3, c4, c5, c6⟩ := hc j (by omega)
      have c0 := (hnx.cell (p := ⟨b, o + j * 7, none⟩) hb).trans c0
      have c1 := (hnx.cell (p := ⟨b, o + j * 7 + 1, none⟩) hb).trans c1
      have c2 := (hnx.cell (p := ⟨b, o + j * 7 + 2, none⟩) hb).trans c2
      have c3 := (hnx.cell (p := ⟨b, o + j * 7 + 3, none⟩) hb).trans c3
      have c4 := (hnx.cell (p := ⟨b, o + j * 7 + 4, none⟩) hb).trans c4
      have c5 := (hnx.cell (p := ⟨b, o + j * 7 + 5, none⟩) hb).trans c5
      have c6 := (hnx.cell (p := ⟨b, o + j * 7 + 6, none⟩) hb).trans c6
      obtain ⟨fn, tmps, assign, body, hy, hR⟩ := hY _ (el j) wr hJs (by rw [back_len]; exact hlt)
      rw [hel j (by omega)] at hy
      unfold HV.val at hy
      rw [hji]
      gi_wp2
      refine hR.mono ?_
      rintro e W3 (⟨rfl, hJ3, hk3⟩ | ⟨rfl, hJx3⟩)
      · gi_wp2
        go_roundw
        case rel => exact ⟨k + 1, by omega, by first | (congr 1; omega) | congr 1, by rw [back_succ, hj]; exact hJ3, hnx.trans hk3⟩
        case measure => simp [RowKit.intOf] <;> omega
      · gi_wp2
        refine bodyPost_ret (results_none rfl _ _ _) rfl ?_
        exact ⟨⟨_, rfl⟩, .inr ⟨_, ⟨k + 1, by omega, by rw [back_succ, hj]⟩, hJx3⟩⟩
    · obtain rfl : k = len := by omega
      gi_wp2
      go_end0
      exact ⟨⟨_, rfl⟩, .inl ⟨_, rfl, hJs⟩⟩
set_option maxHeartbeats 1000000 in
theorem back_in (n : Nat) (a : Option Addr) (len cap : Nat) (w : World) :
    CallsIn Fence.wide n Tryz.prog 73 #[.slice a len cap] w fun e w' => e = .returned (.func (.func 105) #[] #[.pointer (some ⟨w.heap.size, 0, none⟩)]) ∧ w' = w.alloc (.cells #[.slice a len cap] 83) := by
  refine callsIn_of_wp Tryz.func73 rfl trivial ?_ rfl
  simp only [Tryz.ntmps73, List.size_toArray, List.length_cons, List.length_nil, Nat.reduceAdd, Nat.reduceSub, Array.replicate_succ, Array.replicate_zero, List.push_toArray, List.append_toArray, List.nil_append, List.cons_append]
  gi_wp2
  go_ret
  exact ⟨rfl, rfl⟩
end Go.Proofs.YtkihjakbbcajbaaGreat.Bw
