-- printed by a program of this session (a turned copy of the kit's print); Lean checks it
import Derived.Test.YteeceppbnkkfpaaPSharex0
import Derived.Test.YteeceppbnkkfpaaPSharex9
import Derived.Test.YteeceppbnkkfpaaPSharex10
namespace Go.Proofs.Yteeceppbnkkfpaa.PShare
open Go.RowKit Go.Proofs.YteeceppbnkkfpaaW.PrintWords Go.Proofs.YteeceppbnkkfpaaW.PrintLast Go.Proofs.YteeceppbnkkfpaaW.PrintMore
attribute [local go_sem] max2_int min2_int max_two min_two max_three min_three max_four min_four   -- for this text's walks alone
set_option linter.unusedVariables false
set_option linter.unusedSimpArgs false

/-! ### share_level: function 26 -/
mutual
def share_level.l0 : Nat → Int → List (S37) → Int → List (S37) → Int → Int → Option (Int × Int × Bool)
  | 0, _, _, _, _, _, _ => none
  | k + 1, x1, x6, x7, x16, x17, x18 => if x18 < x17 then (if 0 ≤ x18 then (if x18 < (x16.length : Int) then (share_level.l0 k x1 x6 (wrap64 (x7 + ((rd_T37 x16 x18).f1))) x16 x17 (wrap64 (x18 + 1))) else (none)) else (none)) else (share_level.l1 k x1 x7 x6 (x6.length : Int) 0)
def share_level.l1 : Nat → Int → Int → List (S37) → Int → Int → Option (Int × Int × Bool)
  | 0, _, _, _, _, _ => none
  | k + 1, x1, x7, x27, x28, x29 => if x29 < x28 then (if 0 ≤ x29 then (if x29 < (x27.length : Int) then (if (wrap64 (((rd_T37 x27 x29).f0) * x7)) > (wrap64 (x1 * ((rd_T37 x27 x29).f1))) then ((share_gcd.f k x1 x7).bind fun t161 => (if t161 = 0 then (none) else (some (wrap64 (Int.tdiv x1 t161), wrap64 (Int.tdiv x7 t161), true)))) else (share_level.l1 k (wrap64 (x1 - ((rd_T37 x27 x29).f0))) (wrap64 (x7 - ((rd_T37 x27 x29).f1))) x27 x28 (wrap64 (x29 + 1)))) else (none)) else (none)) else (some (0, 0, false))
end
def share_level.f (k : Nat) (l0 : List (S37)) (a1 : Int) : Option (Int × Int × Bool) := (api_Demand_32.f k l0 ()).bind fun t154 => (share_level.l0 k a1 t154 0 l0 (l0.length : Int) 0)
theorem share_level.mono_l : ∀ k, (∀ y0 y1 y2 y3 y4 y5, LeO (share_level.l0 k y0 y1 y2 y3 y4 y5) (share_level.l0 (k + 1) y0 y1 y2 y3 y4 y5)) ∧ (∀ y0 y1 y2 y3 y4, LeO (share_level.l1 k y0 y1 y2 y3 y4) (share_level.l1 (k + 1) y0 y1 y2 y3 y4))
  | 0 => ⟨fun _ _ _ _ _ _ r h => by simp [share_level.l0] at h, fun _ _ _ _ _ r h => by simp [share_level.l1] at h⟩
  | k + 1 => by
    obtain ⟨ih0, ih1⟩ := share_level.mono_l k
    refine ⟨?_, ?_⟩
    · intro y0 y1 y2 y3 y4 y5
      unfold share_level.l0
      repeat' first
      | (with_reducible exact ih0 _ _ _ _ _ _)
      | (with_reducible exact ih1 _ _ _ _ _)
      | (with_reducible exact api_Demand_32.mono _ _ _)
      | (with_reducible exact share_gcd.mono _ _ _)
      | (with_reducible exact LeO.refl _)
      | (with_reducible exact LeO.none _)
      | (with_reducible refine LeO.ite ?_ ?_)
      | (with_reducible refine LeO.bind ?_ (fun _ => ?_))
      | exact ih0 _ _ _ _ _ _
      | exact ih1 _ _ _ _ _
      | exact api_Demand_32.mono _ _ _
      | exact share_gcd.mono _ _ _
      | exact LeO.none _
      | refine LeO.ite ?_ ?_
      | refine LeO.bind ?_ (fun _ => ?_)
    · intro y0 y1 y2 y3 y4
      unfold share_level.l1
      repeat' first
      | (with_reducible exact ih0 _ _ _ _ _ _)
      | (with_reducible exact ih1 _ _ _ _ _)
      | (with_reducible exact api_Demand_32.mono _ _ _)
      | (with_reducible exact share_gcd.mono _ _ _)
      | (with_reducible exact LeO.refl _)
      | (with_reducible exact LeO.none _)
      | (with_reducible refine LeO.ite ?_ ?_)
      | (with_reducible refine LeO.bind ?_ (fun _ => ?_))
      | exact ih0 _ _ _ _ _ _
      | exact ih1 _ _ _ _ _
      | exact api_Demand_32.mono _ _ _
      | exact share_gcd.mono _ _ _
      | exact LeO.none _
      | refine LeO.ite ?_ ?_
      | refine LeO.bind ?_ (fun _ => ?_)
theorem share_level.mono : ∀ a0 a1 k, LeO (share_level.f k a0 a1) (share_level.f (k + 1) a0 a1) := by
  intro a0 a1 k
  obtain ⟨ih0, ih1⟩ := share_level.mono_l k
  unfold share_level.f
  repeat' first
      | (with_reducible exact ih0 _ _ _ _ _ _)
      | (with_reducible exact ih1 _ _ _ _ _)
      | (with_reducible exact api_Demand_32.mono _ _ _)
      | (with_reducible exact share_gcd.mono _ _ _)
      | (with_reducible exact LeO.refl _)
      | (with_reducible exact LeO.none _)
      | (with_reducible refine LeO.ite ?_ ?_)
      | (with_reducible refine LeO.bind ?_ (fun _ => ?_))
      | exact ih0 _ _ _ _ _ _
      | exact ih1 _ _ _ _ _
      | exact api_Demand_32.mono _ _ _
      | exact share_gcd.mono _ _ _
      | exact LeO.none _
      | refine LeO.ite ?_ ?_
      | refine LeO.bind ?_ (fun _ => ?_)
def share_level.T13 : Bool × List (List Nat × List Nat) := (true, [([], []), ([], []), ([0, 1], [0, 1]), ([], []), ([], []), ([3, 4], [3, 4]), ([2, 5], [2, 5]), ([6, 0, 1, 2, 3, 4, 5, 6], [6]), ([7, 0, 1, 2, 3, 4, 5, 6, 7], [])])
def share_level.B13 : List Nat := [0, 0, 3, 0, 0, 24, 63, 127, 255]
theorem share_level.tab13 : rtab .any (opsOf Try.f26 13) = share_level.T13 := by kernel_rfl
theorem share_level.bits13 : waitsOk share_level.T13.2 share_level.B13 = true := by kernel_rfl
set_option maxHeartbeats 8000000 in
set_option maxRecDepth 100000 in
theorem share_level.calls (k : Nat) (A0 : Option Addr) (c0 : Nat) (l0 : List (S37)) (a1 : Int) (r1 : Int) (r2 : Int) (r3 : Bool) (w : World) (hr0 : Kd.C k37 w A0 l0.length l0) (hc0 : l0.length ≤ c0) (h : share_level.f k l0 a1 = some (r1, r2, r3)) :
    Calls Try.prog 26 #[.slice A0 l0.length c0, .int .i64 a1] w fun e w' => e = .returned (.tuple #[.agg #[.int .i64 r1, .int .i64 r2], .bool r3]) ∧ Below w.heap.size w w' := by
  have hu26 := Try.underlying26
  have hu70 := Try.underlying70
  have hu37 := Try.underlying37
  have HR0 := Aside0.mk hr0
  have HC0 := Aside0.mk hc0
  clear hr0 hc0
  have HB := Aside0.mk (Below.refl w.heap.size w)
  have H : ((api_Demand_32.f k l0 ()).bind fun t154 => (share_level.l0 k a1 t154 0 l0 (l0.length : Int) 0)) = some (r1, r2, r3) := h
  clear h
  replace H := Option.bind_eq_some_iff.mp H
  obtain ⟨t154, A30, H⟩ := H
  replace H : (share_level.l0 k a1 t154 0 l0 (l0.length : Int) 0) = some (r1, r2, r3) := H
  have A3 := Aside0.mk A30
  (try clear A30)
  have H' := Aside0.mk H
  clear H
  go_enter Try.func26, Try.ntmps26
  go_wp2_with (first | ((with_reducible refine gate_dst (N := 4) rfl ?_); refine boxE (N := 4) (cs := #[.int .i64 0, .int .i64 0]) (t := 26) ?_; intro gb153 hg w4 hbox hb; have n0_ := Aside0.mk (below_step (pB HB.out) hb); have n1_ := Aside0.mk (hbox); have n3_ := Aside0.mk (pL HB.out hg); clear HB; have HB := n0_; have BK153 := n1_; have GE153 := n3_; clear n0_ n1_ n3_; clear hb hbox hg) | ((with_reducible refine gate_callee (f := 32) rfl ?_); refine goesL_ (some 15) rfl rfl Try.func32 (by kernel_rfl) rfl #[.slice A0 l0.length c0, .agg #[.func (.func 33) #[] #[]]] rfl (by (try simp only [List.map_toArray, List.map_cons, List.map_nil]); first | done | rfl | (simp only [List.length_drop, List.length_take]; rfl)) ?_; (with_reducible refine (api_Demand_32.calls k _ _ l0 () t154 _ ?side1 ?side2 A3.out).mono ?_); (case side1 => exact Kd.pC ((Kd.C_below HR0.out HB.out))); (case side2 => exact HC0.out); rintro e w5 ⟨v155, rfl, ho0, hb⟩; refine ⟨_, rfl, ?_⟩; have n0_ := Aside0.mk (Kd.R_lower ho0 (below_size (pB HB.out))); have n1_ := Aside0.mk (blk_below (pK BK153.out) hb); have n2_ := Aside0.mk (below_step (pB HB.out) hb); clear BK153; clear HB; have HO156 := n0_; have BK153 := n1_; have HB := n2_; clear n0_ n1_ n2_; (try clear hb); (try clear hb2); (try clear hk); (try clear hi); (try clear ho0)))
  go_loopg [7, 18] k (fun kq v7 v18 w' => ∃ (x7_1 : Int) (x18_1 : Int), v7 = .int .i64 x7_1 ∧ v18 = .int .i64 x18_1 ∧ Aside0 (share_level.l0 kq a1 t154 x7_1 l0 (l0.length : Int) x18_1 = some (r1, r2, r3)) ∧ Aside0 (kq ≤ k) ∧ Aside0 (Kd.R k37 37 w' w.heap.size (fun _ => True) v155 t154) ∧ Aside0 (w'.heap[gb153]? = some (.cells #[.int .i64 0, .int .i64 0] 26 (0, 0))) ∧ Aside0 (Below w.heap.size w w'))
  case atStart => exact ⟨(0), (0), (by first | rfl | (simp; done) | (simp [*]; done)), (by first | rfl | (simp; done) | (simp [*]; done)), H', ⟨Nat.le_refl _⟩, ⟨Kd.pR HO156.out⟩, ⟨pK BK153.out⟩, ⟨pB HB.out⟩⟩
  case round =>
    clear H'
    try clear c2
    try clear p2
    try clear c3
    obtain ⟨x7_1, x18_1, rfl, rfl, HA, HK1, HO_6, BK153, HB⟩ := hrel
    cases gk with
    | zero => exact absurd HA.out (by simp [share_level.l0])
    | succ k1 =>
      have H := HA.out
      clear HA
      simp only [share_level.l0] at H
      by_cases c6 : x18_1 < (l0.length : Int)
      · rw [if_pos c6] at H
        have c6b0 : decide (x18_1 < (l0.length : Int)) = true := decide_eq_true c6
        clear c6
        by_cases c7 : 0 ≤ x18_1
        · rw [if_pos c7] at H
          have c7b0 : decide (0 ≤ x18_1) = true := decide_eq_true c7
          clear c7
          by_cases c8 : x18_1 < (l0.length : Int)
          · rw [if_pos c8] at H
            have c8b0 : decide (x18_1 < (l0.length : Int)) = true := decide_eq_true c8
            clear c8
            have H' := Aside0.mk H
            clear H
            have p157 : 0 ≤ (x18_1 : Int) := od
            have q157 : x18_1 < (l0.length : Int) := od
            obtain ⟨ad157, e157, hx157_0, hx157_1⟩ := at_T37 HR0.out x18_1 p157 q157
            cases e157
            replace hx157_0 := (HB.out.cell (World.block_lt_of_cell? w _ hx157_0)).trans hx157_0
            replace hx157_1 := (HB.out.cell (World.block_lt_of_cell? w _ hx157_1)).trans hx157_1
            replace p157 := eq_true p157
            replace q157 := eq_true q157
            go_wp2_with (first | ((with_reducible refine gate_dst (N := 9) rfl ?_); refine boxE (N := 9) (cs := #[.int .i64 0, .int .i64 0]) (t := 37) ?_; intro gb158 hg w9 hbox hb; have n0_ := Aside0.mk (Kd.R_below (Kd.R_elderB (Kd.pR HO_6.out) gb158 (Nat.le_of_eq hg.symm)) hb); have n1_ := Aside0.mk (blk_below (pK BK153.out) hb); have n2_ := Aside0.mk (below_step (pB HB.out) hb); have n3_ := Aside0.mk (hbox); have n5_ := Aside0.mk (pL HB.out hg); have n6_ := Aside0.mk (pNl BK153.out hg); have n7_ := Aside0.mk (pNg BK153.out hg); clear HO_6; clear BK153; clear HB; have HO_6 := n0_; have BK153 := n1_; have HB := n2_; have BK158 := n3_; have GE158 := n5_; have NB153_158 := n6_; have NB158_153 := n7_; clear n0_ n1_ n2_ n3_ n5_ n6_ n7_; clear hb hbox hg; have hnb10 := NB158_153.out; have hnc10 := NB153_158.out; obtain ⟨hcz11_0, hcz11_1, hfz11_0, hfz11_1⟩ := bk2 BK158.out))
            go_roundg k1
            case measure => have := HK1.out; omega
            case rel => exact ⟨(wrap64 (x7_1 + ((rd_T37 l0 x18_1).f1))), (wrap64 (x18_1 + 1)), (by first | rfl | (simp; done) | (simp [*]; done)), (by first | rfl | (simp; done) | (simp [*]; done)), H', ⟨by have := HK1.out; omega⟩, ⟨Kd.pR (Kd.R_mono (Kd.R_far (p := ⟨gb158, 1, none⟩) (Kd.R_far (p := ⟨gb158, 0, none⟩) (Kd.R_mono HO_6.out (fun k_ hk => (⟨hk, hk.2⟩ : _ ∧ k_ ≠ gb158))) (fun _ hk => hk.2) (.int .i64 ((rd_T37 l0 x18_1).f0))) (fun _ hk => hk.2) (.int .i64 ((rd_T37 l0 x18_1).f1))) (fun _ hk => trivial))⟩, ⟨by (with_reducible repeat (first | refine blk_drewN ?_ _ | refine blk_drew ?_ | refine blk_alloc ?_ _)); refine blk_far ?_ NB153_158.out _; (with_reducible repeat (first | refine blk_drewN ?_ _ | refine blk_drew ?_ | refine blk_alloc ?_ _)); refine blk_far ?_ NB153_158.out _; (with_reducible repeat (first | refine blk_drewN ?_ _ | refine blk_drew ?_ | refine blk_alloc ?_ _)); exact BK153.out⟩, ⟨pB HB.out⟩⟩
          · rw [if_neg c8] at H
            exact absurd H (by simp)
        · rw [if_neg c7] at H
          exact absurd H (by simp)
      · rw [if_neg c6] at H
        have c6b0 : decide (x18_1 < (l0.length : Int)) = false := decide_eq_false c6
        clear c6
        have H' := Aside0.mk H
        clear H
        obtain ⟨Ao12, co12, eo12⟩ := Kd.R_slice HO_6.out
        subst eo12
        go_wp2
        go_loopg [1, 7, 29] k1 (fun kq v1 v7 v29 w' => ∃ (x1_2 : Int) (x7_2 : Int) (x29_2 : Int) (x154000_2 : Int) (x154001_2 : Int), v1 = .int .i64 x1_2 ∧ v7 = .int .i64 x7_2 ∧ v29 = .int .i64 x29_2 ∧ Aside0 (share_level.l1 kq x1_2 x7_2 t154 (t154.length : Int) x29_2 = some (r1, r2, r3)) ∧ Aside0 (kq ≤ k1) ∧ Aside0 (Kd.R k37 37 w' w.heap.size (fun _ => True) (.slice Ao12 t154.length co12) t154) ∧ Aside0 (w'.heap[gb153]? = some (.cells #[.int .i64 x154000_2, .int .i64 x154001_2] 26 (0, 0))) ∧ Aside0 (Below w.heap.size w w'))
        case atStart => exact ⟨(a1), (x7_1), (0), (0), (0), (by first | rfl | (simp; done) | (simp [*]; done)), (by first | rfl | (simp; done) | (simp [*]; done)), (by first | rfl | (simp; done) | (simp [*]; done)), H', ⟨Nat.le_refl _⟩, ⟨Kd.pR HO_6.out⟩, ⟨pK BK153.out⟩, ⟨pB HB.out⟩⟩
        case round =>
          clear H'
          try clear c1
          try clear p1
          try clear q1
          try clear hx1
          try clear c2
          try clear p2
          try clear c3
          try clear c6
          try clear c6b0
          try clear p6
          try clear c7
          try clear c7b0
          try clear c8
          try clear c8b0
          try clear c10
          try clear hcz11_0
          try clear hcz11_1
          try clear hfz11_0
          try clear hfz11_1
          try clear hx157_0
          try clear hx157_1
          try clear p157
          try clear p2
          try clear q157
          obtain ⟨x1_2, x7_2, x29_2, x154000_2, x154001_2, rfl, rfl, rfl, HA, HK2, HO_27, BK153, HB⟩ := hrel
          cases gk with
          | zero => exact absurd HA.out (by simp [share_level.l1])
          | succ k2 =>
            have H := HA.out
            (try clear HA)
            simp only [share_level.l1] at H
            by_cases c13 : x29_2 < (t154.length : Int)
            · rw [if_pos c13] at H
              have c13b0 : decide (x29_2 < (t154.length : Int)) = true := decide_eq_true c13
              clear c13
              by_cases c14 : 0 ≤ x29_2
              · rw [if_pos c14] at H
                have c14b0 : decide (0 ≤ x29_2) = true := decide_eq_true c14
                clear c14
                by_cases c15 : x29_2 < (t154.length : Int)
                · rw [if_pos c15] at H
                  have c15b0 : decide (x29_2 < (t154.length : Int)) = true := decide_eq_true c15
                  clear c15
                  by_cases c16 : (wrap64 (((rd_T37 t154 x29_2).f0) * x7_2)) > (wrap64 (x1_2 * ((rd_T37 t154 x29_2).f1)))
                  · rw [if_pos c16] at H
                    have c16b0 : decide ((wrap64 (x1_2 * ((rd_T37 t154 x29_2).f1))) < (wrap64 (((rd_T37 t154 x29_2).f0) * x7_2))) = true := decide_eq_true c16
                    clear c16
                    replace H := Option.bind_eq_some_iff.mp H
                    obtain ⟨t161, A170, H⟩ := H
                    replace H : (if t161 = 0 then (none) else (some (wrap64 (Int.tdiv x1_2 t161), wrap64 (Int.tdiv x7_2 t161), true))) = some (r1, r2, r3) := H
                    have A17 := Aside0.mk A170
                    (try clear A170)
                    by_cases c18 : t161 = 0
                    · rw [if_pos c18] at H
                      exact absurd H (by simp)
                    · rw [if_neg c18] at H
                      have c18b0 : (t161 == 0) = false := beq_eq_false_iff_ne.mpr c18
                      have c18b1 : (t161 != 0) = true := bne_iff_ne.mpr c18
                      simp only [Option.some.injEq, Prod.mk.injEq] at H
                      obtain ⟨rfl, rfl, rfl⟩ := H
                      have p159 : 0 ≤ (x29_2 : Int) := od
                      have q159 : x29_2 < (t154.length : Int) := od
                      obtain ⟨ad159, e159, hx159_0, hx159_1⟩ := at_T37 (Kd.R_reads' HO_27.out).2.2 x29_2 p159 q159
                      cases e159
                      replace p159 := eq_true p159
                      replace q159 := eq_true q159
                      try go_wp2_with (first | ((with_reducible refine gate_dst (N := 11) rfl ?_); refine boxE (N := 11) (cs := #[.int .i64 0, .int .i64 0]) (t := 37) ?_; intro gb160 hg w19 hbox hb; have n0_ := Aside0.mk (Kd.R_below (Kd.R_elderB (Kd.pR HO_27.out) gb160 (Nat.le_of_eq hg.symm)) hb); have n1_ := Aside0.mk (blk_below (pK BK153.out) hb); have n2_ := Aside0.mk (below_step (pB HB.out) hb); have n3_ := Aside0.mk (hbox); have n5_ := Aside0.mk (pL HB.out hg); have n6_ := Aside0.mk (pNl BK153.out hg); have n7_ := Aside0.mk (pNg BK153.out hg); clear HO_27; clear BK153; clear HB; have HO_27 := n0_; have BK153 := n1_; have HB := n2_; have BK160 := n3_; have GE160 := n5_; have NB153_160 := n6_; have NB160_153 := n7_; clear n0_ n1_ n2_ n3_ n5_ n6_ n7_; clear hb hbox hg; have hnb20 := NB160_153.out; have hnc20 := NB153_160.out; obtain ⟨hcz21_0, hcz21_1, hfz21_0, hfz21_1⟩ := bk2 BK160.out) | ((with_reducible refine gate_callee (f := 34) rfl ?_); refine goesE (some 44) rfl rfl Try.func34 (by kernel_rfl) rfl #[.int .i64 x1_2, .int .i64 x7_2] rfl ?_; (with_reducible refine (share_gcd.calls k2 x1_2 x7_2 t161 _ A17.out).mono ?_); rintro e w' ⟨rfl, ⟨nd, rfl⟩⟩; refine ⟨_, rfl, ?_⟩))
                      have n0_ : Aside0 (Kd.R k37 37 ((w19.setCell ⟨gb160, 0, none⟩ (.int .i64 ((rd_T37 t154 x29_2).f0))).setCell ⟨gb160, 1, none⟩ (.int .i64 ((rd_T37 t154 x29_2).f1))) w.heap.size (fun k_ => k_ ≠ gb160) (.slice (some ad159) t154.length co12) t154) := ⟨Kd.pR (Kd.R_mono (Kd.R_far (p := ⟨gb160, 1, none⟩) (Kd.R_far (p := ⟨gb160, 0, none⟩) (Kd.R_mono HO_27.out (fun k_ hk => (⟨hk, hk.2⟩ : _ ∧ k_ ≠ gb160))) (fun _ hk => hk.2) (.int .i64 ((rd_T37 t154 x29_2).f0))) (fun _ hk => hk.2) (.int .i64 ((rd_T37 t154 x29_2).f1))) (fun _ hk => hk.1.2))⟩
                      have n1_ : Aside0 (((w19.setCell ⟨gb160, 0, none⟩ (.int .i64 ((rd_T37 t154 x29_2).f0))).setCell ⟨gb160, 1, none⟩ (.int .i64 ((rd_T37 t154 x29_2).f1))).heap[gb153]? = some (.cells #[.int .i64 x154000_2, .int .i64 x154001_2] 26 (0, 0))) := ⟨by (with_reducible repeat (first | refine blk_drewN ?_ _ | refine blk_drew ?_ | refine blk_alloc ?_ _)); refine blk_far ?_ NB153_160.out _; (with_reducible repeat (first | refine blk_drewN ?_ _ | refine blk_drew ?_ | refine blk_alloc ?_ _)); refine blk_far ?_ NB153_160.out _; (with_reducible repeat (first | refine blk_drewN ?_ _ | refine blk_drew ?_ | refine blk_alloc ?_ _)); exact BK153.out⟩
                      have n2_ : Aside0 (((w19.setCell ⟨gb160, 0, none⟩ (.int .i64 ((rd_T37 t154 x29_2).f0))).setCell ⟨gb160, 1, none⟩ (.int .i64 ((rd_T37 t154 x29_2).f1))).heap[gb160]? = some (.cells #[.int .i64 ((rd_T37 t154 x29_2).f0), .int .i64 ((rd_T37 t154 x29_2).f1)] 37 (0, 0))) := ⟨by (with_reducible repeat (first | refine blk_drewN ?_ _ | refine blk_drew ?_ | refine blk_alloc ?_ _)); refine blk_put (cs := #[.int .i64 ((rd_T37 t154 x29_2).f0), .int .i64 0]) ?_ 1 _ rfl; (with_reducible repeat (first | refine blk_drewN ?_ _ | refine blk_drew ?_ | refine blk_alloc ?_ _)); refine blk_put (cs := #[.int .i64 0, .int .i64 0]) ?_ 0 _ rfl; (with_reducible repeat (first | refine blk_drewN ?_ _ | refine blk_drew ?_ | refine blk_alloc ?_ _)); exact BK160.out⟩
                      have n3_ : Aside0 (Below w.heap.size w ((w19.setCell ⟨gb160, 0, none⟩ (.int .i64 ((rd_T37 t154 x29_2).f0))).setCell ⟨gb160, 1, none⟩ (.int .i64 ((rd_T37 t154 x29_2).f1)))) := ⟨pB HB.out⟩
                      (try clear HO_27)
                      (try clear BK153)
                      (try clear BK160)
                      (try clear HB)
                      generalize ((w19.setCell ⟨gb160, 0, none⟩ (.int .i64 ((rd_T37 t154 x29_2).f0))).setCell ⟨gb160, 1, none⟩ (.int .i64 ((rd_T37 t154 x29_2).f1))) = w22 at n0_ n1_ n2_ n3_ ⊢
                      have HO_27 := n0_
                      have BK153 := n1_
                      have BK160 := n2_
                      have HB := n3_
                      clear n0_ n1_ n2_ n3_
                      (try (rw [drewN_self w22]; generalize hq_ : World.drewN w22 _ = w22; have n0_ : Aside0 (Kd.R k37 37 w22 w.heap.size (fun k_ => k_ ≠ gb160) (.slice (some ad159) t154.length co12) t154) := ⟨by rw [← hq_]; exact (Kd.pR HO_27.out)⟩; have n1_ : Aside0 (w22.heap[gb153]? = some (.cells #[.int .i64 x154000_2, .int .i64 x154001_2] 26 (0, 0))) := ⟨by rw [← hq_]; exact (pK BK153.out)⟩; have n2_ : Aside0 (w22.heap[gb160]? = some (.cells #[.int .i64 ((rd_T37 t154 x29_2).f0), .int .i64 ((rd_T37 t154 x29_2).f1)] 37 (0, 0))) := ⟨by rw [← hq_]; exact (pK BK160.out)⟩; have n3_ : Aside0 (Below w.heap.size w w22) := ⟨by rw [← hq_]; exact (pB HB.out)⟩; clear HO_27 BK153 BK160 HB hq_; have HO_27 := n0_; have BK153 := n1_; have BK160 := n2_; have HB := n3_; clear n0_ n1_ n2_ n3_))
                      have n0_ := Aside0.mk (Kd.R_drew HO_27.out)
                      have n1_ := Aside0.mk (blk_drew BK153.out)
                      have n2_ := Aside0.mk (blk_drew BK160.out)
                      have n3_ := Aside0.mk (below_drew1 HB.out)
                      clear HO_27
                      clear BK153
                      clear BK160
                      clear HB
                      have HO_27 := n0_
                      have BK153 := n1_
                      have BK160 := n2_
                      have HB := n3_
                      clear n0_ n1_ n2_ n3_
                      refine start_ (n := 9) (S := fun w' => True) (ds := []) #[false, false, false, false, false, false, false, false, false] (by kernel_rfl) rfl rfl trivial (fun hHeld => ?_); refine with_tabW share_level.tab13 share_level.bits13 (fun HT_ HW_ => ?_)
                      generalize w22.drew = w23 at HO_27 BK153 BK160 HB hHeld ⊢
                      refine pure_ (i := 0) (N := some 45) (v := ?_) (a' := ?_) #[true, false, false, false, false, false, false, false, false] rfl rfl (any_of HT_.out (by kernel_rfl)) (fun _ _ _ h => h) (Or.inl ⟨by rfl, ?_⟩) ?_ ?_
                      rotate_left
                      · intro w'
                        go_simp
                        with_reducible rfl
                      rotate_left
                      · simp only [Act.put, List.setIfInBounds_toArray, List.set_cons_zero, List.set_cons_succ, i64_w, i32_w]
                        rfl
                      refine pure_ (i := 1) (N := some 46) (v := ?_) (a' := ?_) #[true, true, false, false, false, false, false, false, false] rfl rfl (any_of HT_.out (by kernel_rfl)) (fun _ _ _ h => h) (Or.inl ⟨by rfl, ?_⟩) ?_ ?_
                      rotate_left
                      · intro w'
                        go_simp
                        with_reducible rfl
                      rotate_left
                      · simp only [Act.put, List.setIfInBounds_toArray, List.set_cons_zero, List.set_cons_succ, i64_w, i32_w]
                        rfl
                      refine pure_ (i := 2) (N := some 47) (v := ?_) (a' := ?_) #[true, true, true, false, false, false, false, false, false] rfl rfl (any_of HT_.out (by kernel_rfl)) (fun _ _ _ h => h) (Or.inl ⟨by rfl, ?_⟩) ?_ ?_
                      rotate_left
                      · intro w'
                        go_simp
                        with_reducible rfl
                      rotate_left
                      · simp only [Act.put, List.setIfInBounds_toArray, List.set_cons_zero, List.set_cons_succ, i64_w, i32_w]
                        rfl
                      refine pure_ (i := 3) (N := some 48) (v := ?_) (a' := ?_) #[true, true, true, true, false, false, false, false, false] rfl rfl (any_of HT_.out (by kernel_rfl)) (fun _ _ _ h => h) (Or.inl ⟨by rfl, ?_⟩) ?_ ?_
                      rotate_left
                      · intro w'
                        go_simp
                        with_reducible rfl
                      rotate_left
                      · simp only [Act.put, List.setIfInBounds_toArray, List.set_cons_zero, List.set_cons_succ, i64_w, i32_w]
                        rfl
                      refine pure_ (i := 4) (N := some 49) (v := ?_) (a' := ?_) #[true, true, true, true, true, false, false, false, false] rfl rfl (any_of HT_.out (by kernel_rfl)) (fun _ _ _ h => h) (Or.inl ⟨by rfl, ?_⟩) ?_ ?_
                      rotate_left
                      · intro w'
                        go_simp
                        with_reducible rfl
                      rotate_left
                      · simp only [Act.put, List.setIfInBounds_toArray, List.set_cons_zero, List.set_cons_succ, i64_w, i32_w]
                        rfl
                      refine pure_ (i := 5) (N := some 50) (v := ?_) (a' := ?_) #[true, true, true, true, true, true, false, false, false] rfl rfl (any_of HT_.out (by kernel_rfl)) (fun _ _ _ h => h) (Or.inl ⟨by rfl, ?_⟩) ?_ ?_
                      rotate_left
                      · intro w'
                        go_simp
                        with_reducible rfl
                      rotate_left
                      · simp only [Act.put, List.setIfInBounds_toArray, List.set_cons_zero, List.set_cons_succ, i64_w, i32_w]
                        rfl
                      refine pure_ (i := 6) (N := some 51) (v := ?_) (a' := ?_) #[true, true, true, true, true, true, true, false, false] rfl rfl (any_of HT_.out (by kernel_rfl)) (fun _ _ _ h => h) (Or.inl ⟨by rfl, ?_⟩) ?_ ?_
                      rotate_left
                      · intro w'
                        go_simp
                        with_reducible rfl
                      rotate_left
                      · simp only [Act.put, List.setIfInBounds_toArray, List.set_cons_zero, List.set_cons_succ, i64_w, i32_w]
                        rfl
                      refine one_ (i := 7) (N := none) #[true, true, true, true, true, true, true, true, false] rfl rfl (one_of HT_.out (by kernel_rfl)) (by decide) (fun K hK => ?_)
                      have hs24 : w23.cell? ⟨gb153, 0, none⟩ = some (.int .i64 x154000_2) := (blk_cell BK153.out 0).trans rfl
                      have hfs24 := blk_frozen BK153.out 0
                      have hns24_1 := NB160_153.out
                      have hms24_1 := NB153_160.out
                      have hs25 : w23.cell? ⟨gb153, 1, none⟩ = some (.int .i64 x154001_2) := (blk_cell BK153.out 1).trans rfl
                      have hfs25 := blk_frozen BK153.out 1
                      have hns25_1 := NB160_153.out
                      have hms25_1 := NB153_160.out
                      refine skip_ (w1 := ?_) (by rfl) rfl ?_ ?_
                      rotate_left
                      · go_simp
                        rfl
                      refine hK.out _ _ trivial (fun hHeld => ?_)
                      clear hK K
                      refine pure_ (i := 8) (N := some 5) (v := ?_) (a' := ?_) #[true, true, true, true, true, true, true, true, true] rfl rfl (any_of HT_.out (by kernel_rfl)) (fun _ _ _ h => h) (Or.inl ⟨by rfl, ?_⟩) ?_ ?_
                      rotate_left
                      · intro w'
                        go_simp
                        with_reducible rfl
                      rotate_left
                      · simp only [Act.put, List.setIfInBounds_toArray, List.set_cons_zero, List.set_cons_succ, i64_w, i32_w]
                        rfl
                      refine done_ (done_of HT_.out (by kernel_rfl)) ?_
                      try go_wp2
                      refine bodyPost_ret (results_ct rfl _ _ gb153 26 #[.int .i64 (wrap64 (Int.tdiv x1_2 t161)), .int .i64 (wrap64 (Int.tdiv x7_2 t161))] (0, 0) _ rfl (by (with_reducible repeat (first | refine blk_drewN ?_ _ | refine blk_drew ?_ | refine blk_alloc ?_ _)); refine blk_put (cs := #[.int .i64 (wrap64 (Int.tdiv x1_2 t161)), .int .i64 x154001_2]) ?_ 1 _ rfl; (with_reducible repeat (first | refine blk_drewN ?_ _ | refine blk_drew ?_ | refine blk_alloc ?_ _)); refine blk_put (cs := #[.int .i64 x154000_2, .int .i64 x154001_2]) ?_ 0 _ rfl; (with_reducible repeat (first | refine blk_drewN ?_ _ | refine blk_drew ?_ | refine blk_alloc ?_ _)); exact BK153.out) Try.underlying26 rfl (by kernel_rfl)) rfl ?_
                      exact ⟨by first | rfl | (simp [errW_none, errW_some] <;> rfl) | (simp [*, errW_none, errW_some] <;> rfl), pB HB.out⟩
                  · rw [if_neg c16] at H
                    have c16b0 : decide ((wrap64 (x1_2 * ((rd_T37 t154 x29_2).f1))) < (wrap64 (((rd_T37 t154 x29_2).f0) * x7_2))) = false := decide_eq_false c16
                    (try clear c16)
                    have H' := Aside0.mk H
                    clear H
                    have p159 : 0 ≤ (x29_2 : Int) := od
                    have q159 : x29_2 < (t154.length : Int) := od
                    obtain ⟨ad159, e159, hx159_0, hx159_1⟩ := at_T37 (Kd.R_reads' HO_27.out).2.2 x29_2 p159 q159
                    cases e159
                    replace p159 := eq_true p159
                    replace q159 := eq_true q159
                    go_wp2_with (first | ((with_reducible refine gate_dst (N := 11) rfl ?_); refine boxE (N := 11) (cs := #[.int .i64 0, .int .i64 0]) (t := 37) ?_; intro gb160 hg w26 hbox hb; have n0_ := Aside0.mk (Kd.R_below (Kd.R_elderB (Kd.pR HO_27.out) gb160 (Nat.le_of_eq hg.symm)) hb); have n1_ := Aside0.mk (blk_below (pK BK153.out) hb); have n2_ := Aside0.mk (below_step (pB HB.out) hb); have n3_ := Aside0.mk (hbox); have n5_ := Aside0.mk (pL HB.out hg); have n6_ := Aside0.mk (pNl BK153.out hg); have n7_ := Aside0.mk (pNg BK153.out hg); clear HO_27; clear BK153; clear HB; have HO_27 := n0_; have BK153 := n1_; have HB := n2_; have BK160 := n3_; have GE160 := n5_; have NB153_160 := n6_; have NB160_153 := n7_; clear n0_ n1_ n2_ n3_ n5_ n6_ n7_; clear hb hbox hg; have hnb27 := NB160_153.out; have hnc27 := NB153_160.out; obtain ⟨hcz28_0, hcz28_1, hfz28_0, hfz28_1⟩ := bk2 BK160.out))
                    go_roundg k2
                    case measure => have := HK1.out; have := HK2.out; omega
                    case rel => exact ⟨(wrap64 (x1_2 - ((rd_T37 t154 x29_2).f0))), (wrap64 (x7_2 - ((rd_T37 t154 x29_2).f1))), (wrap64 (x29_2 + 1)), (x154000_2), (x154001_2), (by first | rfl | (simp; done) | (simp [*]; done)), (by first | rfl | (simp; done) | (simp [*]; done)), (by first | rfl | (simp; done) | (simp [*]; done)), H', ⟨by have := HK1.out; have := HK2.out; omega⟩, ⟨Kd.pR (Kd.R_mono (Kd.R_far (p := ⟨gb160, 1, none⟩) (Kd.R_far (p := ⟨gb160, 0, none⟩) (Kd.R_mono HO_27.out (fun k_ hk => (⟨hk, hk.2⟩ : _ ∧ k_ ≠ gb160))) (fun _ hk => hk.2) (.int .i64 ((rd_T37 t154 x29_2).f0))) (fun _ hk => hk.2) (.int .i64 ((rd_T37 t154 x29_2).f1))) (fun _ hk => trivial))⟩, ⟨by (with_reducible repeat (first | refine blk_drewN ?_ _ | refine blk_drew ?_ | refine blk_alloc ?_ _)); refine blk_far ?_ NB153_160.out _; (with_reducible repeat (first | refine blk_drewN ?_ _ | refine blk_drew ?_ | refine blk_alloc ?_ _)); refine blk_far ?_ NB153_160.out _; (with_reducible repeat (first | refine blk_drewN ?_ _ | refine blk_drew ?_ | refine blk_alloc ?_ _)); exact BK153.out⟩, ⟨pB HB.out⟩⟩
                · rw [if_neg c15] at H
                  exact absurd H (by simp)
              · rw [if_neg c14] at H
                exact absurd H (by simp)
            · rw [if_neg c13] at H
              have c13b0 : decide (x29_2 < (t154.length : Int)) = false := decide_eq_false c13
              clear c13
              simp only [Option.some.injEq, Prod.mk.injEq] at H
              obtain ⟨rfl, rfl, rfl⟩ := H
              obtain ⟨hcz29_0, hcz29_1, hfz29_0, hfz29_1⟩ := bk2 BK153.out
              go_wp2
              refine bodyPost_ret (results_ct rfl _ _ gb153 26 #[.int .i64 0, .int .i64 0] (0, 0) _ rfl (by (with_reducible repeat (first | refine blk_drewN ?_ _ | refine blk_drew ?_ | refine blk_alloc ?_ _)); refine blk_put (cs := #[.int .i64 0, .int .i64 x154001_2]) ?_ 1 _ rfl; (with_reducible repeat (first | refine blk_drewN ?_ _ | refine blk_drew ?_ | refine blk_alloc ?_ _)); refine blk_put (cs := #[.int .i64 x154000_2, .int .i64 x154001_2]) ?_ 0 _ rfl; (with_reducible repeat (first | refine blk_drewN ?_ _ | refine blk_drew ?_ | refine blk_alloc ?_ _)); exact BK153.out) Try.underlying26 rfl (by kernel_rfl)) rfl ?_
              exact ⟨by first | rfl | (simp [errW_none, errW_some] <;> rfl) | (simp [*, errW_none, errW_some] <;> rfl), pB HB.out⟩

end Go.Proofs.Yteeceppbnkkfpaa.PShare
