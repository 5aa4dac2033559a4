-- printed by a program of this session (a turned copy of the kit's print); Lean checks it
import Derived.Test.YtiimflniadggaaaPLrux0
namespace Go.Proofs.Ytiimflniadggaaa.PLru
open Go.RowKit Go.Proofs.YtiimflniadggaaaW.PrintWords Go.Proofs.YtiimflniadggaaaW.PrintLast Go.Proofs.YtiimflniadggaaaW.PrintMore
attribute [local go_sem] max2_int min2_int max_two min_two max_three min_three max_four min_four   -- for this text's walks alone
set_option linter.unusedVariables false
set_option linter.unusedSimpArgs false

/-! ### lru_in: function 33 -/
def lru_in.f (l0_0 : List Int) (l0_1 : List Int) (a0_2 : Int) (a0_3 : Int) (a1 : Int) : Option (Bool) := if a0_2 = a1 then (some true) else (if 0 ≤ a1 then (if a1 < (l0_0.length : Int) then (some ((rd l0_0 a1) != (-1))) else (none)) else (none))
set_option maxHeartbeats 8000000 in
set_option maxRecDepth 100000 in
theorem lru_in.calls (A0_0 : Option Addr) (c0_0 : Nat) (l0_0 : List Int) (A0_1 : Option Addr) (c0_1 : Nat) (l0_1 : List Int) (a0_2 : Int) (a0_3 : Int) (a1 : Int) (r : Bool) (w : World) (hr0_0 : Kd.C (Kd.int .i64) w A0_0 l0_0.length l0_0) (hc0_0 : l0_0.length ≤ c0_0) (hr0_1 : Kd.C (Kd.int .i64) w A0_1 l0_1.length l0_1) (hc0_1 : l0_1.length ≤ c0_1) (h : lru_in.f l0_0 l0_1 a0_2 a0_3 a1 = some r) :
    Calls Try.prog 33 #[.agg #[.slice A0_0 l0_0.length c0_0, .slice A0_1 l0_1.length c0_1, .int .i64 a0_2, .int .i64 a0_3], .int .i64 a1] w fun e w' => e = .returned (.bool r) ∧ Below w.heap.size w w' := by
  have hu24 := Try.underlying24
  have HR0_0 := Aside0.mk hr0_0
  have HC0_0 := Aside0.mk hc0_0
  clear hr0_0 hc0_0
  have HR0_1 := Aside0.mk hr0_1
  have HC0_1 := Aside0.mk hc0_1
  clear hr0_1 hc0_1
  have HB := Aside0.mk (Below.refl w.heap.size w)
  have H : (if a0_2 = a1 then (some true) else (if 0 ≤ a1 then (if a1 < (l0_0.length : Int) then (some ((rd l0_0 a1) != (-1))) else (none)) else (none))) = some r := h
  (try clear h)
  by_cases c3 : a0_2 = a1
  · rw [if_pos c3] at H
    have c3b0 : (a0_2 == a1) = true := beq_iff_eq.mpr c3
    have c3b1 : (a0_2 != a1) = false := bne_eq_false_iff_eq.mpr c3
    clear c3
    obtain rfl := Option.some.inj H
    go_enter Try.func33, Try.ntmps33
    go_wp2_with (first | ((with_reducible refine gate_dst (N := 2) rfl ?_); refine boxE (N := 2) (cs := #[.slice A0_0 l0_0.length c0_0, .slice A0_1 l0_1.length c0_1, .int .i64 a0_2, .int .i64 a0_3]) (t := 24) ?_; intro gb192 hg w4 hbox hb; have n0_ := Aside0.mk (below_step (pB HB.out) hb); have n1_ := Aside0.mk (hbox); have n3_ := Aside0.mk (pL HB.out hg); clear HB; have HB := n0_; have BK192 := n1_; have GE192 := n3_; clear n0_ n1_ n3_; clear hb hbox hg; obtain ⟨hcz5_0, hcz5_1, hcz5_2, hcz5_3, hfz5_0, hfz5_1, hfz5_2, hfz5_3⟩ := bk4 BK192.out))
    go_ret
    exact ⟨by first | rfl | (simp [errW_none, errW_some] <;> rfl) | (simp [*, errW_none, errW_some] <;> rfl), pB HB.out⟩
  · rw [if_neg c3] at H
    have c3b0 : (a0_2 == a1) = false := beq_eq_false_iff_ne.mpr c3
    have c3b1 : (a0_2 != a1) = true := bne_iff_ne.mpr c3
    by_cases c6 : 0 ≤ a1
    · rw [if_pos c6] at H
      have c6b0 : decide (0 ≤ a1) = true := decide_eq_true c6
      clear c6
      by_cases c7 : a1 < (l0_0.length : Int)
      · rw [if_pos c7] at H
        have c7b0 : decide (a1 < (l0_0.length : Int)) = true := decide_eq_true c7
        clear c7
        obtain rfl := Option.some.inj H
        go_enter Try.func33, Try.ntmps33
        go_wp2_with (first | ((with_reducible refine gate_dst (N := 2) rfl ?_); refine boxE (N := 2) (cs := #[.slice A0_0 l0_0.length c0_0, .slice A0_1 l0_1.length c0_1, .int .i64 a0_2, .int .i64 a0_3]) (t := 24) ?_; intro gb192 hg w8 hbox hb; have n0_ := Aside0.mk (below_step (pB HB.out) hb); have n1_ := Aside0.mk (hbox); have n3_ := Aside0.mk (pL HB.out hg); clear HB; have HB := n0_; have BK192 := n1_; have GE192 := n3_; clear n0_ n1_ n3_; clear hb hbox hg; obtain ⟨hcz9_0, hcz9_1, hcz9_2, hcz9_3, hfz9_0, hfz9_1, hfz9_2, hfz9_3⟩ := bk4 BK192.out; have p193 : 0 ≤ (a1 : Int) := od; have q193 : a1 < (l0_0.length : Int) := od; obtain ⟨ad193, e193, hx193_0⟩ := Kd.at_int HR0_0.out a1 p193 q193; cases e193; replace hx193_0 := (HB.out.cell (World.block_lt_of_cell? w _ hx193_0)).trans hx193_0; replace p193 := eq_true p193; replace q193 := eq_true q193))
        go_ret
        exact ⟨by first | rfl | (simp [errW_none, errW_some] <;> rfl) | (simp [*, errW_none, errW_some] <;> rfl), pB HB.out⟩
      · rw [if_neg c7] at H
        exact absurd H (by simp)
    · rw [if_neg c6] at H
      exact absurd H (by simp)

-- NOT PRINTED: function 34 (lru_out)

end Go.Proofs.Ytiimflniadggaaa.PLru
