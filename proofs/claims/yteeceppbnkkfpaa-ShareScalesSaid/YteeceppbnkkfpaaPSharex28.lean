-- printed by a program of this session (a turned copy of the kit's print); Lean checks it
import Derived.Test.YteeceppbnkkfpaaPSharex0
import Derived.Test.YteeceppbnkkfpaaPSharex19
import Derived.Test.YteeceppbnkkfpaaPSharex26
import Derived.Test.YteeceppbnkkfpaaPSharex27
namespace Go.Proofs.Yteeceppbnkkfpaa.PShare
open Go.RowKit Go.Proofs.YteeceppbnkkfpaaW.PrintWords Go.Proofs.YteeceppbnkkfpaaW.PrintLast Go.Proofs.YteeceppbnkkfpaaW.PrintMore
attribute [local go_sem] max2_int min2_int max_two min_two max_three min_three max_four min_four   -- for this text's walks alone
set_option linter.unusedVariables false
set_option linter.unusedSimpArgs false

/-! ### spigotref36_Split: function 17 -/
mutual
def spigotref36_Split.l0 : Nat → List (S37) → Int → List Int → Int → Int → Int → Int → Int → Option (List Int × Int)
  | 0, _, _, _, _, _, _, _, _ => none
  | k + 1, x0, x1, x7, x8, x10, x11, x523000, x523001 => if x11 < (x0.length : Int) then (if 0 ≤ x11 then (if x10 = 0 then (if (wrap64 (((rd_T37 x0 x11).f0) * x523001)) > (wrap64 (x523000 * ((rd_T37 x0 x11).f1))) then (if x523001 = 0 then (none) else (if x7.length < 17592186044416 then (spigotref36_Split.l0 k x0 x1 (x7 ++ [wrap64 (Int.tdiv (wrap64 (x523000 * ((rd_T37 x0 x11).f1))) x523001)]) (wrap64 (x8 - (wrap64 (Int.tdiv (wrap64 (x523000 * ((rd_T37 x0 x11).f1))) x523001)))) x10 (wrap64 (x11 + 1)) x523000 x523001) else (none))) else (if x7.length < 17592186044416 then (spigotref36_Split.l0 k x0 x1 (x7 ++ [(rd_T37 x0 x11).f0]) (wrap64 (x8 - ((rd_T37 x0 x11).f0))) x10 (wrap64 (x11 + 1)) x523000 x523001) else (none))) else (if x7.length < 17592186044416 then (spigotref36_Split.l0 k x0 x1 (x7 ++ [(rd_T37 x0 x11).f0]) (wrap64 (x8 - ((rd_T37 x0 x11).f0))) x10 (wrap64 (x11 + 1)) x523000 x523001) else (none))) else (none)) else ((spigotref36_Short.f k x0 x1).bind fun bt535 => (spigotref36_Split.l1 k x7 x8 bt535.1 0))
def spigotref36_Split.l1 : Nat → List Int → Int → List Int → Int → Option (List Int × Int)
  | 0, _, _, _, _ => none
  | k + 1, x7, x8, x13, x15 => if x15 < (x13.length : Int) then (if x8 > 0 then (if 0 ≤ x15 then (if 0 ≤ (rd x13 x15) then (if (rd x13 x15) < (x7.length : Int) then (spigotref36_Split.l1 k (x7.set ((rd x13 x15) : Int).toNat (wrap64 ((rd x7 (rd x13 x15)) + 1))) (wrap64 (x8 - 1)) x13 (wrap64 (x15 + 1))) else (none)) else (none)) else (none)) else (some (x7, 0))) else (some (x7, 0))
end
def spigotref36_Split.f (k : Nat) (l0 : List (S37)) (a1 : Int) : Option (List Int × Int) := (spigotref36_Asked.f k l0 a1).bind fun t518 => (if t518 = 0 then ((spigotref36_Level.f k l0 a1).bind fun bt519 => (spigotref36_Split.l0 k l0 a1 ([] : List Int) a1 bt519.2.2 0 bt519.1 bt519.2.1)) else (some (([] : List Int), t518)))
theorem spigotref36_Split.mono_l : ∀ k, (∀ y0 y1 y2 y3 y4 y5 y6 y7, LeO (spigotref36_Split.l0 k y0 y1 y2 y3 y4 y5 y6 y7) (spigotref36_Split.l0 (k + 1) y0 y1 y2 y3 y4 y5 y6 y7)) ∧ (∀ y0 y1 y2 y3, LeO (spigotref36_Split.l1 k y0 y1 y2 y3) (spigotref36_Split.l1 (k + 1) y0 y1 y2 y3))
  | 0 => ⟨fun _ _ _ _ _ _ _ _ r h => by simp [spigotref36_Split.l0] at h, fun _ _ _ _ r h => by simp [spigotref36_Split.l1] at h⟩
  | k + 1 => by
    obtain ⟨ih0, ih1⟩ := spigotref36_Split.mono_l k
    refine ⟨?_, ?_⟩
    · intro y0 y1 y2 y3 y4 y5 y6 y7
      unfold spigotref36_Split.l0
      repeat' first
      | (with_reducible exact ih0 _ _ _ _ _ _ _ _)
      | (with_reducible exact ih1 _ _ _ _)
      | (with_reducible exact spigotref36_Asked.mono _ _ _)
      | (with_reducible exact spigotref36_Level.mono _ _ _)
      | (with_reducible exact spigotref36_Short.mono _ _ _)
      | (with_reducible exact LeO.refl _)
      | (with_reducible exact LeO.none _)
      | (with_reducible refine LeO.ite ?_ ?_)
      | (with_reducible refine LeO.bind ?_ (fun _ => ?_))
      | exact ih0 _ _ _ _ _ _ _ _
      | exact ih1 _ _ _ _
      | exact spigotref36_Asked.mono _ _ _
      | exact spigotref36_Level.mono _ _ _
      | exact spigotref36_Short.mono _ _ _
      | exact LeO.none _
      | refine LeO.ite ?_ ?_
      | refine LeO.bind ?_ (fun _ => ?_)
    · intro y0 y1 y2 y3
      unfold spigotref36_Split.l1
      repeat' first
      | (with_reducible exact ih0 _ _ _ _ _ _ _ _)
      | (with_reducible exact ih1 _ _ _ _)
      | (with_reducible exact spigotref36_Asked.mono _ _ _)
      | (with_reducible exact spigotref36_Level.mono _ _ _)
      | (with_reducible exact spigotref36_Short.mono _ _ _)
      | (with_reducible exact LeO.refl _)
      | (with_reducible exact LeO.none _)
      | (with_reducible refine LeO.ite ?_ ?_)
      | (with_reducible refine LeO.bind ?_ (fun _ => ?_))
      | exact ih0 _ _ _ _ _ _ _ _
      | exact ih1 _ _ _ _
      | exact spigotref36_Asked.mono _ _ _
      | exact spigotref36_Level.mono _ _ _
      | exact spigotref36_Short.mono _ _ _
      | exact LeO.none _
      | refine LeO.ite ?_ ?_
      | refine LeO.bind ?_ (fun _ => ?_)
theorem spigotref36_Split.mono : ∀ a0 a1 k, LeO (spigotref36_Split.f k a0 a1) (spigotref36_Split.f (k + 1) a0 a1) := by
  intro a0 a1 k
  obtain ⟨ih0, ih1⟩ := spigotref36_Split.mono_l k
  unfold spigotref36_Split.f
  repeat' first
      | (with_reducible exact ih0 _ _ _ _ _ _ _ _)
      | (with_reducible exact ih1 _ _ _ _)
      | (with_reducible exact spigotref36_Asked.mono _ _ _)
      | (with_reducible exact spigotref36_Level.mono _ _ _)
      | (with_reducible exact spigotref36_Short.mono _ _ _)
      | (with_reducible exact LeO.refl _)
      | (with_reducible exact LeO.none _)
      | (with_reducible refine LeO.ite ?_ ?_)
      | (with_reducible refine LeO.bind ?_ (fun _ => ?_))
      | exact ih0 _ _ _ _ _ _ _ _
      | exact ih1 _ _ _ _
      | exact spigotref36_Asked.mono _ _ _
      | exact spigotref36_Level.mono _ _ _
      | exact spigotref36_Short.mono _ _ _
      | exact LeO.none _
      | refine LeO.ite ?_ ?_
      | refine LeO.bind ?_ (fun _ => ?_)
set_option maxHeartbeats 8000000 in
set_option maxRecDepth 100000 in
theorem spigotref36_Split.calls (k : Nat) (A0 : Option Addr) (c0 : Nat) (l0 : List (S37)) (a1 : Int) (r1 : List Int) (r2 : Int) (w : World) (hr0 : Kd.C k37 w A0 l0.length l0) (hc0 : l0.length ≤ c0) (h : spigotref36_Split.f k l0 a1 = some (r1, r2)) :
    Calls Try.prog 17 #[.slice A0 l0.length c0, .int .i64 a1] w fun e w' => ∃ v0_ : Value, e = .returned (.tuple #[v0_, .int .i64 r2]) ∧ Kd.R (Kd.int .i64) 2 w' w.heap.size (fun _ => True) v0_ r1 ∧ Below w.heap.size w w' := by
  have hu26 := Try.underlying26
  have HR0 := Aside0.mk hr0
  have HC0 := Aside0.mk hc0
  clear hr0 hc0
  have HB := Aside0.mk (Below.refl w.heap.size w)
  have H : ((spigotref36_Asked.f k l0 a1).bind fun t518 => (if t518 = 0 then ((spigotref36_Level.f k l0 a1).bind fun bt519 => (spigotref36_Split.l0 k l0 a1 ([] : List Int) a1 bt519.2.2 0 bt519.1 bt519.2.1)) else (some (([] : List Int), t518)))) = some (r1, r2) := h
  (try clear h)
  replace H := Option.bind_eq_some_iff.mp H
  obtain ⟨t518, A30, H⟩ := H
  replace H : (if t518 = 0 then ((spigotref36_Level.f k l0 a1).bind fun bt519 => (spigotref36_Split.l0 k l0 a1 ([] : List Int) a1 bt519.2.2 0 bt519.1 bt519.2.1)) else (some (([] : List Int), t518))) = some (r1, r2) := H
  have A3 := Aside0.mk A30
  (try clear A30)
  by_cases c4 : t518 = 0
  · rw [if_pos c4] at H
    have c4b0 : (t518 == 0) = true := beq_iff_eq.mpr c4
    have c4b1 : (t518 != 0) = false := bne_eq_false_iff_eq.mpr c4
    clear c4
    replace H := Option.bind_eq_some_iff.mp H
    obtain ⟨⟨t519, t520, t521⟩, A50, H⟩ := H
    replace H : (spigotref36_Split.l0 k l0 a1 ([] : List Int) a1 t521 0 t519 t520) = some (r1, r2) := H
    have A5 := Aside0.mk A50
    (try clear A50)
    have H' := Aside0.mk H
    clear H
    go_enter Try.func17, Try.ntmps17
    go_wp2_with (first | (go_at_call 10; (with_reducible refine (spigotref36_Asked.calls k _ _ l0 a1 t518 _ ?side1 ?side2 A3.out).mono ?_); (case side1 => exact Kd.pC HR0.out); (case side2 => exact HC0.out); rintro e w' ⟨rfl, ⟨nd, rfl⟩⟩; (try first | exact ⟨rfl, _, World.drewN_drewN _ _ _⟩ | exact ⟨rfl, _, Eq.trans (World.drewN_drewN _ _ _) (congrArg (World.drewN _) (Nat.add_assoc _ _ _))⟩)) | (go_at_call 15; (with_reducible refine (spigotref36_Level.calls k _ _ l0 a1 t519 t520 t521 _ ?side1 ?side2 A5.out).mono ?_); (case side1 => exact Kd.pC HR0.out); (case side2 => exact HC0.out); rintro e w6 ⟨rfl, hb⟩; have n0_ := Aside0.mk (below_step (pB HB.out) hb); clear HB; have HB := n0_; clear n0_; (try clear hb); (try clear hb2); (try clear hk); (try clear hi)) | ((with_reducible refine gate_dst (N := 9) rfl ?_); refine boxE (N := 9) (cs := #[.int .i64 0, .int .i64 0]) (t := 26) ?_; intro gb522 hg w7 hbox hb; have n0_ := Aside0.mk (below_step (pB HB.out) hb); have n1_ := Aside0.mk (hbox); have n2_ := Aside0.mk (pL HB.out hg); have n3_ := Aside0.mk (pL HB.out hg); clear HB; have HB := n0_; have BK522 := n1_; have GW522 := n2_; have GE522 := n3_; clear n0_ n1_ n2_ n3_; clear hb hbox hg; obtain ⟨hcz8_0, hcz8_1, hfz8_0, hfz8_1⟩ := bk2 BK522.out))
    repeat (go_quiet (first | (go_at_call 10; (with_reducible refine (spigotref36_Asked.calls k _ _ l0 a1 t518 _ ?side1 ?side2 A3.out).mono ?_); (case side1 => exact Kd.pC HR0.out); (case side2 => exact HC0.out); rintro e w' ⟨rfl, ⟨nd, rfl⟩⟩; (try first | exact ⟨rfl, _, World.drewN_drewN _ _ _⟩ | exact ⟨rfl, _, Eq.trans (World.drewN_drewN _ _ _) (congrArg (World.drewN _) (Nat.add_assoc _ _ _))⟩)) | (go_at_call 15; (with_reducible refine (spigotref36_Level.calls k _ _ l0 a1 t519 t520 t521 _ ?side1 ?side2 A5.out).mono ?_); (case side1 => exact Kd.pC HR0.out); (case side2 => exact HC0.out); rintro e w6 ⟨rfl, hb⟩; have n0_ := Aside0.mk (below_step (pB HB.out) hb); clear HB; have HB := n0_; clear n0_; (try clear hb); (try clear hb2); (try clear hk); (try clear hi)) | ((with_reducible refine gate_dst (N := 9) rfl ?_); refine boxE (N := 9) (cs := #[.int .i64 0, .int .i64 0]) (t := 26) ?_; intro gb522 hg w7 hbox hb; have n0_ := Aside0.mk (below_step (pB HB.out) hb); have n1_ := Aside0.mk (hbox); have n2_ := Aside0.mk (pL HB.out hg); have n3_ := Aside0.mk (pL HB.out hg); clear HB; have HB := n0_; have BK522 := n1_; have GW522 := n2_; have GE522 := n3_; clear n0_ n1_ n2_ n3_; clear hb hbox hg; obtain ⟨hcz8_0, hcz8_1, hfz8_0, hfz8_1⟩ := bk2 BK522.out)); try go_wp2_with (first | (go_at_call 10; (with_reducible refine (spigotref36_Asked.calls k _ _ l0 a1 t518 _ ?side1 ?side2 A3.out).mono ?_); (case side1 => exact Kd.pC HR0.out); (case side2 => exact HC0.out); rintro e w' ⟨rfl, ⟨nd, rfl⟩⟩; (try first | exact ⟨rfl, _, World.drewN_drewN _ _ _⟩ | exact ⟨rfl, _, Eq.trans (World.drewN_drewN _ _ _) (congrArg (World.drewN _) (Nat.add_assoc _ _ _))⟩)) | (go_at_call 15; (with_reducible refine (spigotref36_Level.calls k _ _ l0 a1 t519 t520 t521 _ ?side1 ?side2 A5.out).mono ?_); (case side1 => exact Kd.pC HR0.out); (case side2 => exact HC0.out); rintro e w6 ⟨rfl, hb⟩; have n0_ := Aside0.mk (below_step (pB HB.out) hb); clear HB; have HB := n0_; clear n0_; (try clear hb); (try clear hb2); (try clear hk); (try clear hi)) | ((with_reducible refine gate_dst (N := 9) rfl ?_); refine boxE (N := 9) (cs := #[.int .i64 0, .int .i64 0]) (t := 26) ?_; intro gb522 hg w7 hbox hb; have n0_ := Aside0.mk (below_step (pB HB.out) hb); have n1_ := Aside0.mk (hbox); have n2_ := Aside0.mk (pL HB.out hg); have n3_ := Aside0.mk (pL HB.out hg); clear HB; have HB := n0_; have BK522 := n1_; have GW522 := n2_; have GE522 := n3_; clear n0_ n1_ n2_ n3_; clear hb hbox hg; obtain ⟨hcz8_0, hcz8_1, hfz8_0, hfz8_1⟩ := bk2 BK522.out)))
    go_loopg [7, 8, 11] k (fun kq v7 v8 v11 w' => ∃ (x7_1 : List Int) (x8_1 : Int) (x11_1 : Int), v8 = .int .i64 x8_1 ∧ v11 = .int .i64 x11_1 ∧ Aside0 (spigotref36_Split.l0 kq l0 a1 x7_1 x8_1 t521 x11_1 t519 t520 = some (r1, r2)) ∧ Aside0 (kq ≤ k) ∧ Aside0 (Kd.R (Kd.int .i64) 2 w' w.heap.size (fun _ => True) v7 x7_1) ∧ Aside0 (w'.heap[gb522]? = some (.cells #[.int .i64 t519, .int .i64 t520] 26 (0, 0))) ∧ Aside0 (Below w.heap.size w w'))
    case atStart => exact ⟨(([] : List Int)), (a1), (0), (by first | rfl | (simp; done) | (simp [*]; done)), (by first | rfl | (simp; done) | (simp [*]; done)), H', ⟨Nat.le_refl _⟩, ⟨by first | exact Kd.R_nil _ _ _ _ _ | exact Kd.N_nil _ _ _ _ _ | exact Kd.V_nil _ _ _ _ _ | exact Kd.Q_nil _ _ _ _ _ | exact Kd.S_nil _ _ _ _ _⟩, ⟨by (with_reducible repeat (first | refine blk_drewN ?_ _ | refine blk_drew ?_ | refine blk_alloc ?_ _)); refine blk_put (cs := #[.int .i64 t519, .int .i64 0]) ?_ 1 _ rfl; (with_reducible repeat (first | refine blk_drewN ?_ _ | refine blk_drew ?_ | refine blk_alloc ?_ _)); refine blk_put (cs := #[.int .i64 0, .int .i64 0]) ?_ 0 _ rfl; (with_reducible repeat (first | refine blk_drewN ?_ _ | refine blk_drew ?_ | refine blk_alloc ?_ _)); exact BK522.out⟩, ⟨pB HB.out⟩⟩
    case round =>
      clear H'
      try clear c1
      try clear p2
      try clear c4
      try clear c4b0
      try clear c4b1
      try clear hcz8_0
      try clear hcz8_1
      try clear hfz8_0
      try clear hfz8_1
      obtain ⟨x7_1, x8_1, x11_1, rfl, rfl, HA, HK1, HO_7, BK522, HB⟩ := hrel
      cases gk with
      | zero => exact absurd HA.out (by simp [spigotref36_Split.l0])
      | succ k1 =>
        have H := HA.out
        clear HA
        simp only [spigotref36_Split.l0] at H
        by_cases c9 : x11_1 < (l0.length : Int)
        · rw [if_pos c9] at H
          have c9b0 : decide (x11_1 < (l0.length : Int)) = true := decide_eq_true c9
          clear c9
          by_cases c10 : 0 ≤ x11_1
          · rw [if_pos c10] at H
            have c10b0 : decide (0 ≤ x11_1) = true := decide_eq_true c10
            clear c10
            by_cases c11 : t521 = 0
            · rw [if_pos c11] at H
              have c11b0 : (t521 == 0) = true := beq_iff_eq.mpr c11
              have c11b1 : (t521 != 0) = false := bne_eq_false_iff_eq.mpr c11
              clear c11
              by_cases c12 : (wrap64 (((rd_T37 l0 x11_1).f0) * t520)) > (wrap64 (t519 * ((rd_T37 l0 x11_1).f1)))
              · rw [if_pos c12] at H
                have c12b0 : decide ((wrap64 (t519 * ((rd_T37 l0 x11_1).f1))) < (wrap64 (((rd_T37 l0 x11_1).f0) * t520))) = true := decide_eq_true c12
                clear c12
                by_cases c13 : t520 = 0
                · rw [if_pos c13] at H
                  exact absurd H (by simp)
                · rw [if_neg c13] at H
                  have c13b0 : (t520 == 0) = false := beq_eq_false_iff_ne.mpr c13
                  have c13b1 : (t520 != 0) = true := bne_iff_ne.mpr c13
                  by_cases c14 : x7_1.length < 17592186044416
                  · rw [if_pos c14] at H
                    have LMc14 := Aside0.mk c14
                    clear c14
                    obtain ⟨y526, hy526⟩ : ∃ y_ : List Int, y_ = (x7_1 ++ [wrap64 (Int.tdiv (wrap64 (t519 * ((rd_T37 l0 x11_1).f1))) t520)]) := ⟨_, rfl⟩
                    replace H : (spigotref36_Split.l0 k1 l0 a1 y526 (wrap64 (x8_1 - (wrap64 (Int.tdiv (wrap64 (t519 * ((rd_T37 l0 x11_1).f1))) t520)))) t521 (wrap64 (x11_1 + 1)) t519 t520) = some (r1, r2) := by first | (rw [hy526]; with_reducible exact H) | (have H2_ := (Option.bind_some _ _).symm.trans H; rw [hy526]; with_reducible exact H2_) | (have H2_ := (Option.bind_some _ _).symm.trans H; with_reducible exact H2_) | with_reducible exact H | (rw [hy526]; exact H) | exact H
                    have Ny526 := Aside0.mk hy526
                    (try clear hy526)
                    have H' := Aside0.mk H
                    clear H
                    have p523 : 0 ≤ (x11_1 : Int) := od
                    have q523 : x11_1 < (l0.length : Int) := od
                    obtain ⟨ad523, e523, hx523_0, hx523_1⟩ := at_T37 HR0.out x11_1 p523 q523
                    cases e523
                    replace hx523_0 := (HB.out.cell (World.block_lt_of_cell? w _ hx523_0)).trans hx523_0
                    replace hx523_1 := (HB.out.cell (World.block_lt_of_cell? w _ hx523_1)).trans hx523_1
                    replace p523 := eq_true p523
                    replace q523 := eq_true q523
                    obtain ⟨hcz15_0, hcz15_1, hfz15_0, hfz15_1⟩ := bk2 BK522.out
                    have p524 : 0 ≤ (x11_1 : Int) := od
                    have q524 : x11_1 < (l0.length : Int) := od
                    obtain ⟨ad524, e524, hx524_0, hx524_1⟩ := at_T37 HR0.out x11_1 p524 q524
                    obtain rfl : ad523 = ad524 := (by injection e524)
                    replace hx524_0 := (HB.out.cell (World.block_lt_of_cell? w _ hx524_0)).trans hx524_0
                    replace hx524_1 := (HB.out.cell (World.block_lt_of_cell? w _ hx524_1)).trans hx524_1
                    replace p524 := eq_true p524
                    replace q524 := eq_true q524
                    have p525 : 0 ≤ (x11_1 : Int) := od
                    have q525 : x11_1 < (l0.length : Int) := od
                    obtain ⟨ad525, e525, hx525_0, hx525_1⟩ := at_T37 HR0.out x11_1 p525 q525
                    obtain rfl : ad523 = ad525 := (by injection e525)
                    replace hx525_0 := (HB.out.cell (World.block_lt_of_cell? w _ hx525_0)).trans hx525_0
                    replace hx525_1 := (HB.out.cell (World.block_lt_of_cell? w _ hx525_1)).trans hx525_1
                    replace p525 := eq_true p525
                    replace q525 := eq_true q525
                    go_wp2_with (first | ((with_reducible refine gate_builtin (b := .append) (xs := #[.tmp 68, .tmp 70]) rfl ?_); at_builtin; refine Kd.R_append (Kd.int .i64) (w0 := w) w.heap.size rfl (.tmp 68) (.tmp 70) 33 2 (.int .i64 0) 8 rfl Try.underlying33 info2 rfl (by decide) (by omega) u7 x7_1 (wrap64 (Int.tdiv (wrap64 (t519 * ((rd_T37 l0 x11_1).f1))) t520)) [.int .i64 (wrap64 (Int.tdiv (wrap64 (t519 * ((rd_T37 l0 x11_1).f1))) t520))] (fun _ => True) (fun _ => False) rfl rfl ?aP (fun _ hk => hk.elim) ?aF ?aO ?aB ?aS ?aL ?_; (case aP => exact rfl); (case aB => exact (pB HB.out)); (case aF => exact (fun _ _ => trivial)); (case aO => exact (Kd.pR HO_7.out)); (case aS => exact (below_size (pB HB.out))); (case aL => have := LMc14.out; omega); intro v527 w16 ho hb hg hat; rw [← Ny526.out] at ho; have n0_ := Aside0.mk (blk_grown (pK BK522.out) hg (Kd.R_ne HO_7.out BK522.out (by decide))); have n1_ := Aside0.mk (hb); have n2_ := Aside0.mk (ho); clear BK522; clear HB; clear HO_7; have BK522 := n0_; have HB := n1_; have HO528 := n2_; clear n0_ n1_ n2_; clear ho hb hg hat))
                    repeat (go_quiet (first | ((with_reducible refine gate_builtin (b := .append) (xs := #[.tmp 68, .tmp 70]) rfl ?_); at_builtin; refine Kd.R_append (Kd.int .i64) (w0 := w) w.heap.size rfl (.tmp 68) (.tmp 70) 33 2 (.int .i64 0) 8 rfl Try.underlying33 info2 rfl (by decide) (by omega) u7 x7_1 (wrap64 (Int.tdiv (wrap64 (t519 * ((rd_T37 l0 x11_1).f1))) t520)) [.int .i64 (wrap64 (Int.tdiv (wrap64 (t519 * ((rd_T37 l0 x11_1).f1))) t520))] (fun _ => True) (fun _ => False) rfl rfl ?aP (fun _ hk => hk.elim) ?aF ?aO ?aB ?aS ?aL ?_; (case aP => exact rfl); (case aB => exact (pB HB.out)); (case aF => exact (fun _ _ => trivial)); (case aO => exact (Kd.pR HO_7.out)); (case aS => exact (below_size (pB HB.out))); (case aL => have := LMc14.out; omega); intro v527 w16 ho hb hg hat; rw [← Ny526.out] at ho; have n0_ := Aside0.mk (blk_grown (pK BK522.out) hg (Kd.R_ne HO_7.out BK522.out (by decide))); have n1_ := Aside0.mk (hb); have n2_ := Aside0.mk (ho); clear BK522; clear HB; clear HO_7; have BK522 := n0_; have HB := n1_; have HO528 := n2_; clear n0_ n1_ n2_; clear ho hb hg hat)); try go_wp2_with (first | ((with_reducible refine gate_builtin (b := .append) (xs := #[.tmp 68, .tmp 70]) rfl ?_); at_builtin; refine Kd.R_append (Kd.int .i64) (w0 := w) w.heap.size rfl (.tmp 68) (.tmp 70) 33 2 (.int .i64 0) 8 rfl Try.underlying33 info2 rfl (by decide) (by omega) u7 x7_1 (wrap64 (Int.tdiv (wrap64 (t519 * ((rd_T37 l0 x11_1).f1))) t520)) [.int .i64 (wrap64 (Int.tdiv (wrap64 (t519 * ((rd_T37 l0 x11_1).f1))) t520))] (fun _ => True) (fun _ => False) rfl rfl ?aP (fun _ hk => hk.elim) ?aF ?aO ?aB ?aS ?aL ?_; (case aP => exact rfl); (case aB => exact (pB HB.out)); (case aF => exact (fun _ _ => trivial)); (case aO => exact (Kd.pR HO_7.out)); (case aS => exact (below_size (pB HB.out))); (case aL => have := LMc14.out; omega); intro v527 w16 ho hb hg hat; rw [← Ny526.out] at ho; have n0_ := Aside0.mk (blk_grown (pK BK522.out) hg (Kd.R_ne HO_7.out BK522.out (by decide))); have n1_ := Aside0.mk (hb); have n2_ := Aside0.mk (ho); clear BK522; clear HB; clear HO_7; have BK522 := n0_; have HB := n1_; have HO528 := n2_; clear n0_ n1_ n2_; clear ho hb hg hat)))
                    go_roundg k1
                    case measure => have := HK1.out; omega
                    case rel => exact ⟨(y526), (wrap64 (x8_1 - (wrap64 (Int.tdiv (wrap64 (t519 * ((rd_T37 l0 x11_1).f1))) t520)))), (wrap64 (x11_1 + 1)), (by first | rfl | (simp; done) | (simp [*]; done)), (by first | rfl | (simp; done) | (simp [*]; done)), H', ⟨by have := HK1.out; omega⟩, ⟨Kd.pR HO528.out⟩, ⟨pK BK522.out⟩, ⟨pB HB.out⟩⟩
                  · rw [if_neg c14] at H
                    exact absurd H (by simp)
              · rw [if_neg c12] at H
                have c12b0 : decide ((wrap64 (t519 * ((rd_T37 l0 x11_1).f1))) < (wrap64 (((rd_T37 l0 x11_1).f0) * t520))) = false := decide_eq_false c12
                clear c12
                by_cases c17 : x7_1.length < 17592186044416
                · rw [if_pos c17] at H
                  have LMc17 := Aside0.mk c17
                  clear c17
                  obtain ⟨y529, hy529⟩ : ∃ y_ : List Int, y_ = (x7_1 ++ [(rd_T37 l0 x11_1).f0]) := ⟨_, rfl⟩
                  replace H : (spigotref36_Split.l0 k1 l0 a1 y529 (wrap64 (x8_1 - ((rd_T37 l0 x11_1).f0))) t521 (wrap64 (x11_1 + 1)) t519 t520) = some (r1, r2) := by first | (rw [hy529]; with_reducible exact H) | (have H2_ := (Option.bind_some _ _).symm.trans H; rw [hy529]; with_reducible exact H2_) | (have H2_ := (Option.bind_some _ _).symm.trans H; with_reducible exact H2_) | with_reducible exact H | (rw [hy529]; exact H) | exact H
                  have Ny529 := Aside0.mk hy529
                  (try clear hy529)
                  have H' := Aside0.mk H
                  clear H
                  have p523 : 0 ≤ (x11_1 : Int) := od
                  have q523 : x11_1 < (l0.length : Int) := od
                  obtain ⟨ad523, e523, hx523_0, hx523_1⟩ := at_T37 HR0.out x11_1 p523 q523
                  cases e523
                  replace hx523_0 := (HB.out.cell (World.block_lt_of_cell? w _ hx523_0)).trans hx523_0
                  replace hx523_1 := (HB.out.cell (World.block_lt_of_cell? w _ hx523_1)).trans hx523_1
                  replace p523 := eq_true p523
                  replace q523 := eq_true q523
                  obtain ⟨hcz18_0, hcz18_1, hfz18_0, hfz18_1⟩ := bk2 BK522.out
                  have p524 : 0 ≤ (x11_1 : Int) := od
                  have q524 : x11_1 < (l0.length : Int) := od
                  obtain ⟨ad524, e524, hx524_0, hx524_1⟩ := at_T37 HR0.out x11_1 p524 q524
                  obtain rfl : ad523 = ad524 := (by injection e524)
                  replace hx524_0 := (HB.out.cell (World.block_lt_of_cell? w _ hx524_0)).trans hx524_0
                  replace hx524_1 := (HB.out.cell (World.block_lt_of_cell? w _ hx524_1)).trans hx524_1
                  replace p524 := eq_true p524
                  replace q524 := eq_true q524
                  go_wp2_with (first | ((with_reducible refine gate_builtin (b := .append) (xs := #[.tmp 68, .tmp 70]) rfl ?_); at_builtin; refine Kd.R_append (Kd.int .i64) (w0 := w) w.heap.size rfl (.tmp 68) (.tmp 70) 33 2 (.int .i64 0) 8 rfl Try.underlying33 info2 rfl (by decide) (by omega) u7 x7_1 ((rd_T37 l0 x11_1).f0) [.int .i64 ((rd_T37 l0 x11_1).f0)] (fun _ => True) (fun _ => False) rfl rfl ?aP (fun _ hk => hk.elim) ?aF ?aO ?aB ?aS ?aL ?_; (case aP => exact rfl); (case aB => exact (pB HB.out)); (case aF => exact (fun _ _ => trivial)); (case aO => exact (Kd.pR HO_7.out)); (case aS => exact (below_size (pB HB.out))); (case aL => have := LMc17.out; omega); intro v530 w19 ho hb hg hat; rw [← Ny529.out] at ho; have n0_ := Aside0.mk (blk_grown (pK BK522.out) hg (Kd.R_ne HO_7.out BK522.out (by decide))); have n1_ := Aside0.mk (hb); have n2_ := Aside0.mk (ho); clear BK522; clear HB; clear HO_7; have BK522 := n0_; have HB := n1_; have HO531 := n2_; clear n0_ n1_ n2_; clear ho hb hg hat))
                  repeat (go_quiet (first | ((with_reducible refine gate_builtin (b := .append) (xs := #[.tmp 68, .tmp 70]) rfl ?_); at_builtin; refine Kd.R_append (Kd.int .i64) (w0 := w) w.heap.size rfl (.tmp 68) (.tmp 70) 33 2 (.int .i64 0) 8 rfl Try.underlying33 info2 rfl (by decide) (by omega) u7 x7_1 ((rd_T37 l0 x11_1).f0) [.int .i64 ((rd_T37 l0 x11_1).f0)] (fun _ => True) (fun _ => False) rfl rfl ?aP (fun _ hk => hk.elim) ?aF ?aO ?aB ?aS ?aL ?_; (case aP => exact rfl); (case aB => exact (pB HB.out)); (case aF => exact (fun _ _ => trivial)); (case aO => exact (Kd.pR HO_7.out)); (case aS => exact (below_size (pB HB.out))); (case aL => have := LMc17.out; omega); intro v530 w19 ho hb hg hat; rw [← Ny529.out] at ho; have n0_ := Aside0.mk (blk_grown (pK BK522.out) hg (Kd.R_ne HO_7.out BK522.out (by decide))); have n1_ := Aside0.mk (hb); have n2_ := Aside0.mk (ho); clear BK522; clear HB; clear HO_7; have BK522 := n0_; have HB := n1_; have HO531 := n2_; clear n0_ n1_ n2_; clear ho hb hg hat)); try go_wp2_with (first | ((with_reducible refine gate_builtin (b := .append) (xs := #[.tmp 68, .tmp 70]) rfl ?_); at_builtin; refine Kd.R_append (Kd.int .i64) (w0 := w) w.heap.size rfl (.tmp 68) (.tmp 70) 33 2 (.int .i64 0) 8 rfl Try.underlying33 info2 rfl (by decide) (by omega) u7 x7_1 ((rd_T37 l0 x11_1).f0) [.int .i64 ((rd_T37 l0 x11_1).f0)] (fun _ => True) (fun _ => False) rfl rfl ?aP (fun _ hk => hk.elim) ?aF ?aO ?aB ?aS ?aL ?_; (case aP => exact rfl); (case aB => exact (pB HB.out)); (case aF => exact (fun _ _ => trivial)); (case aO => exact (Kd.pR HO_7.out)); (case aS => exact (below_size (pB HB.out))); (case aL => have := LMc17.out; omega); intro v530 w19 ho hb hg hat; rw [← Ny529.out] at ho; have n0_ := Aside0.mk (blk_grown (pK BK522.out) hg (Kd.R_ne HO_7.out BK522.out (by decide))); have n1_ := Aside0.mk (hb); have n2_ := Aside0.mk (ho); clear BK522; clear HB; clear HO_7; have BK522 := n0_; have HB := n1_; have HO531 := n2_; clear n0_ n1_ n2_; clear ho hb hg hat)))
                  go_roundg k1
                  case measure => have := HK1.out; omega
                  case rel => exact ⟨(y529), (wrap64 (x8_1 - ((rd_T37 l0 x11_1).f0))), (wrap64 (x11_1 + 1)), (by first | rfl | (simp; done) | (simp [*]; done)), (by first | rfl | (simp; done) | (simp [*]; done)), H', ⟨by have := HK1.out; omega⟩, ⟨Kd.pR HO531.out⟩, ⟨pK BK522.out⟩, ⟨pB HB.out⟩⟩
                · rw [if_neg c17] at H
                  exact absurd H (by simp)
            · rw [if_neg c11] at H
              have c11b0 : (t521 == 0) = false := beq_eq_false_iff_ne.mpr c11
              have c11b1 : (t521 != 0) = true := bne_iff_ne.mpr c11
              by_cases c20 : x7_1.length < 17592186044416
              · rw [if_pos c20] at H
                have LMc20 := Aside0.mk c20
                clear c20
                obtain ⟨y532, hy532⟩ : ∃ y_ : List Int, y_ = (x7_1 ++ [(rd_T37 l0 x11_1).f0]) := ⟨_, rfl⟩
                replace H : (spigotref36_Split.l0 k1 l0 a1 y532 (wrap64 (x8_1 - ((rd_T37 l0 x11_1).f0))) t521 (wrap64 (x11_1 + 1)) t519 t520) = some (r1, r2) := by first | (rw [hy532]; with_reducible exact H) | (have H2_ := (Option.bind_some _ _).symm.trans H; rw [hy532]; with_reducible exact H2_) | (have H2_ := (Option.bind_some _ _).symm.trans H; with_reducible exact H2_) | with_reducible exact H | (rw [hy532]; exact H) | exact H
                have Ny532 := Aside0.mk hy532
                (try clear hy532)
                have H' := Aside0.mk H
                clear H
                have p523 : 0 ≤ (x11_1 : Int) := od
                have q523 : x11_1 < (l0.length : Int) := od
                obtain ⟨ad523, e523, hx523_0, hx523_1⟩ := at_T37 HR0.out x11_1 p523 q523
                cases e523
                replace hx523_0 := (HB.out.cell (World.block_lt_of_cell? w _ hx523_0)).trans hx523_0
                replace hx523_1 := (HB.out.cell (World.block_lt_of_cell? w _ hx523_1)).trans hx523_1
                replace p523 := eq_true p523
                replace q523 := eq_true q523
                go_wp2_with (first | ((with_reducible refine gate_builtin (b := .append) (xs := #[.tmp 68, .tmp 70]) rfl ?_); at_builtin; refine Kd.R_append (Kd.int .i64) (w0 := w) w.heap.size rfl (.tmp 68) (.tmp 70) 33 2 (.int .i64 0) 8 rfl Try.underlying33 info2 rfl (by decide) (by omega) u7 x7_1 ((rd_T37 l0 x11_1).f0) [.int .i64 ((rd_T37 l0 x11_1).f0)] (fun _ => True) (fun _ => False) rfl rfl ?aP (fun _ hk => hk.elim) ?aF ?aO ?aB ?aS ?aL ?_; (case aP => exact rfl); (case aB => exact (pB HB.out)); (case aF => exact (fun _ _ => trivial)); (case aO => exact (Kd.pR HO_7.out)); (case aS => exact (below_size (pB HB.out))); (case aL => have := LMc20.out; omega); intro v533 w21 ho hb hg hat; rw [← Ny532.out] at ho; have n0_ := Aside0.mk (blk_grown (pK BK522.out) hg (Kd.R_ne HO_7.out BK522.out (by decide))); have n1_ := Aside0.mk (hb); have n2_ := Aside0.mk (ho); clear BK522; clear HB; clear HO_7; have BK522 := n0_; have HB := n1_; have HO534 := n2_; clear n0_ n1_ n2_; clear ho hb hg hat))
                repeat (go_quiet (first | ((with_reducible refine gate_builtin (b := .append) (xs := #[.tmp 68, .tmp 70]) rfl ?_); at_builtin; refine Kd.R_append (Kd.int .i64) (w0 := w) w.heap.size rfl (.tmp 68) (.tmp 70) 33 2 (.int .i64 0) 8 rfl Try.underlying33 info2 rfl (by decide) (by omega) u7 x7_1 ((rd_T37 l0 x11_1).f0) [.int .i64 ((rd_T37 l0 x11_1).f0)] (fun _ => True) (fun _ => False) rfl rfl ?aP (fun _ hk => hk.elim) ?aF ?aO ?aB ?aS ?aL ?_; (case aP => exact rfl); (case aB => exact (pB HB.out)); (case aF => exact (fun _ _ => trivial)); (case aO => exact (Kd.pR HO_7.out)); (case aS => exact (below_size (pB HB.out))); (case aL => have := LMc20.out; omega); intro v533 w21 ho hb hg hat; rw [← Ny532.out] at ho; have n0_ := Aside0.mk (blk_grown (pK BK522.out) hg (Kd.R_ne HO_7.out BK522.out (by decide))); have n1_ := Aside0.mk (hb); have n2_ := Aside0.mk (ho); clear BK522; clear HB; clear HO_7; have BK522 := n0_; have HB := n1_; have HO534 := n2_; clear n0_ n1_ n2_; clear ho hb hg hat)); try go_wp2_with (first | ((with_reducible refine gate_builtin (b := .append) (xs := #[.tmp 68, .tmp 70]) rfl ?_); at_builtin; refine Kd.R_append (Kd.int .i64) (w0 := w) w.heap.size rfl (.tmp 68) (.tmp 70) 33 2 (.int .i64 0) 8 rfl Try.underlying33 info2 rfl (by decide) (by omega) u7 x7_1 ((rd_T37 l0 x11_1).f0) [.int .i64 ((rd_T37 l0 x11_1).f0)] (fun _ => True) (fun _ => False) rfl rfl ?aP (fun _ hk => hk.elim) ?aF ?aO ?aB ?aS ?aL ?_; (case aP => exact rfl); (case aB => exact (pB HB.out)); (case aF => exact (fun _ _ => trivial)); (case aO => exact (Kd.pR HO_7.out)); (case aS => exact (below_size (pB HB.out))); (case aL => have := LMc20.out; omega); intro v533 w21 ho hb hg hat; rw [← Ny532.out] at ho; have n0_ := Aside0.mk (blk_grown (pK BK522.out) hg (Kd.R_ne HO_7.out BK522.out (by decide))); have n1_ := Aside0.mk (hb); have n2_ := Aside0.mk (ho); clear BK522; clear HB; clear HO_7; have BK522 := n0_; have HB := n1_; have HO534 := n2_; clear n0_ n1_ n2_; clear ho hb hg hat)))
                go_roundg k1
                case measure => have := HK1.out; omega
                case rel => exact ⟨(y532), (wrap64 (x8_1 - ((rd_T37 l0 x11_1).f0))), (wrap64 (x11_1 + 1)), (by first | rfl | (simp; done) | (simp [*]; done)), (by first | rfl | (simp; done) | (simp [*]; done)), H', ⟨by have := HK1.out; omega⟩, ⟨Kd.pR HO534.out⟩, ⟨pK BK522.out⟩, ⟨pB HB.out⟩⟩
              · rw [if_neg c20] at H
                exact absurd H (by simp)
          · rw [if_neg c10] at H
            exact absurd H (by simp)
        · rw [if_neg c9] at H
          have c9b0 : decide (x11_1 < (l0.length : Int)) = false := decide_eq_false c9
          clear c9
          replace H := Option.bind_eq_some_iff.mp H
          obtain ⟨⟨t535, t536⟩, A220, H⟩ := H
          replace H : (spigotref36_Split.l1 k1 x7_1 x8_1 t535 0) = some (r1, r2) := H
          have A22 := Aside0.mk A220
          (try clear A220)
          have H' := Aside0.mk H
          clear H
          go_wp2_with (first | (go_at_call 16; (with_reducible refine (spigotref36_Short.calls k1 _ _ l0 a1 t535 t536 _ ?side1 ?side2 A22.out).mono ?_); (case side1 => exact Kd.pC ((Kd.C_below HR0.out HB.out))); (case side2 => exact HC0.out); rintro e w23 ⟨v537, rfl, ho0, hb⟩; have n0_ := Aside0.mk (Kd.R_below (Kd.pR HO_7.out) hb); have n1_ := Aside0.mk (Kd.R_lower ho0 (below_size (pB HB.out))); have n2_ := Aside0.mk (blk_below (pK BK522.out) hb); have n3_ := Aside0.mk (below_step (pB HB.out) hb); clear HO_7; clear BK522; clear HB; have HO_7 := n0_; have HO538 := n1_; have BK522 := n2_; have HB := n3_; clear n0_ n1_ n2_ n3_; (try clear hb); (try clear hb2); (try clear hk); (try clear hi); (try clear ho0)))
          repeat (go_quiet (first | (go_at_call 16; (with_reducible refine (spigotref36_Short.calls k1 _ _ l0 a1 t535 t536 _ ?side1 ?side2 A22.out).mono ?_); (case side1 => exact Kd.pC ((Kd.C_below HR0.out HB.out))); (case side2 => exact HC0.out); rintro e w23 ⟨v537, rfl, ho0, hb⟩; have n0_ := Aside0.mk (Kd.R_below (Kd.pR HO_7.out) hb); have n1_ := Aside0.mk (Kd.R_lower ho0 (below_size (pB HB.out))); have n2_ := Aside0.mk (blk_below (pK BK522.out) hb); have n3_ := Aside0.mk (below_step (pB HB.out) hb); clear HO_7; clear BK522; clear HB; have HO_7 := n0_; have HO538 := n1_; have BK522 := n2_; have HB := n3_; clear n0_ n1_ n2_ n3_; (try clear hb); (try clear hb2); (try clear hk); (try clear hi); (try clear ho0))); try go_wp2_with (first | (go_at_call 16; (with_reducible refine (spigotref36_Short.calls k1 _ _ l0 a1 t535 t536 _ ?side1 ?side2 A22.out).mono ?_); (case side1 => exact Kd.pC ((Kd.C_below HR0.out HB.out))); (case side2 => exact HC0.out); rintro e w23 ⟨v537, rfl, ho0, hb⟩; have n0_ := Aside0.mk (Kd.R_below (Kd.pR HO_7.out) hb); have n1_ := Aside0.mk (Kd.R_lower ho0 (below_size (pB HB.out))); have n2_ := Aside0.mk (blk_below (pK BK522.out) hb); have n3_ := Aside0.mk (below_step (pB HB.out) hb); clear HO_7; clear BK522; clear HB; have HO_7 := n0_; have HO538 := n1_; have BK522 := n2_; have HB := n3_; clear n0_ n1_ n2_ n3_; (try clear hb); (try clear hb2); (try clear hk); (try clear hi); (try clear ho0))))
          go_loopg [8, 15] k1 (fun kq v8 v15 w' => ∃ (x7_2 : List Int) (x8_2 : Int) (x15_2 : Int), v8 = .int .i64 x8_2 ∧ v15 = .int .i64 x15_2 ∧ Aside0 (spigotref36_Split.l1 kq x7_2 x8_2 t535 x15_2 = some (r1, r2)) ∧ Aside0 (kq ≤ k1) ∧ Aside0 (Kd.R (Kd.int .i64) 2 w' w.heap.size (fun _ => True) u7 x7_2) ∧ Aside0 (Kd.R (Kd.int .i64) 3 w' w.heap.size (fun _ => True) v537 t535) ∧ Aside0 (w'.heap[gb522]? = some (.cells #[.int .i64 t519, .int .i64 t520] 26 (0, 0))) ∧ Aside0 (Below w.heap.size w w'))
          case atStart => exact ⟨(x7_1), (x8_1), (0), (by first | rfl | (simp; done) | (simp [*]; done)), (by first | rfl | (simp; done) | (simp [*]; done)), H', ⟨Nat.le_refl _⟩, ⟨Kd.pR HO_7.out⟩, ⟨Kd.pR HO538.out⟩, ⟨pK BK522.out⟩, ⟨pB HB.out⟩⟩
          case round =>
            clear H'
            try clear c1
            try clear c2
            try clear p2
            try clear c4
            try clear c4b0
            try clear c4b1
            try clear p5
            try clear q5
            try clear hx5
            try clear p6
            try clear c9
            try clear c9b0
            try clear c10
            try clear c10b0
            try clear c11
            try clear c11b0
            try clear c11b1
            try clear c12
            try clear c12b0
            try clear c13
            try clear c13b0
            try clear c13b1
            try clear c14
            try clear c17
            try clear c20
            try clear hcz15_0
            try clear hcz15_1
            try clear hcz18_0
            try clear hcz18_1
            try clear hcz8_0
            try clear hcz8_1
            try clear hfz15_0
            try clear hfz15_1
            try clear hfz18_0
            try clear hfz18_1
            try clear hfz8_0
            try clear hfz8_1
            try clear hx523_0
            try clear hx523_1
            try clear hx524_0
            try clear hx524_1
            try clear hx525_0
            try clear hx525_1
            try clear p2
            try clear p523
            try clear p524
            try clear p525
            try clear q523
            try clear q524
            try clear q525
            obtain ⟨x7_2, x8_2, x15_2, rfl, rfl, HA, HK2, HO_7, HO_13, BK522, HB⟩ := hrel
            cases gk with
            | zero => exact absurd HA.out (by simp [spigotref36_Split.l1])
            | succ k2 =>
              have H := HA.out
              (try clear HA)
              simp only [spigotref36_Split.l1] at H
              by_cases c24 : x15_2 < (t535.length : Int)
              · rw [if_pos c24] at H
                have c24b0 : decide (x15_2 < (t535.length : Int)) = true := decide_eq_true c24
                clear c24
                by_cases c25 : x8_2 > 0
                · rw [if_pos c25] at H
                  have c25b0 : decide (0 < x8_2) = true := decide_eq_true c25
                  clear c25
                  by_cases c26 : 0 ≤ x15_2
                  · rw [if_pos c26] at H
                    have c26b0 : decide (0 ≤ x15_2) = true := decide_eq_true c26
                    clear c26
                    by_cases c27 : 0 ≤ (rd t535 x15_2)
                    · rw [if_pos c27] at H
                      have c27b0 : decide (0 ≤ (rd t535 x15_2)) = true := decide_eq_true c27
                      clear c27
                      by_cases c28 : (rd t535 x15_2) < (x7_2.length : Int)
                      · rw [if_pos c28] at H
                        have c28b0 : decide ((rd t535 x15_2) < (x7_2.length : Int)) = true := decide_eq_true c28
                        clear c28
                        obtain ⟨y541, hy541⟩ : ∃ y_ : List Int, y_ = (x7_2.set ((rd t535 x15_2) : Int).toNat (wrap64 ((rd x7_2 (rd t535 x15_2)) + 1))) := ⟨_, rfl⟩
                        replace H : (spigotref36_Split.l1 k2 y541 (wrap64 (x8_2 - 1)) t535 (wrap64 (x15_2 + 1))) = some (r1, r2) := by first | (rw [hy541]; with_reducible exact H) | (have H2_ := (Option.bind_some _ _).symm.trans H; rw [hy541]; with_reducible exact H2_) | (have H2_ := (Option.bind_some _ _).symm.trans H; with_reducible exact H2_) | with_reducible exact H | (rw [hy541]; exact H) | exact H
                        have Ny541 := Aside0.mk hy541
                        (try clear hy541)
                        have H' := Aside0.mk H
                        clear H
                        obtain ⟨Ao30, co30, eo30⟩ := Kd.R_slice HO_13.out
                        subst eo30
                        have p539 : 0 ≤ (x15_2 : Int) := od
                        have q539 : x15_2 < (t535.length : Int) := od
                        obtain ⟨ad539, e539, hx539_0⟩ := Kd.at_int (Kd.R_reads' HO_13.out).2.2 x15_2 p539 q539
                        cases e539
                        replace p539 := eq_true p539
                        replace q539 := eq_true q539
                        obtain ⟨Ao31, co31, eo31⟩ := Kd.R_slice HO_7.out
                        subst eo31
                        have p540 : 0 ≤ ((rd t535 x15_2) : Int) := od
                        have q540 : (rd t535 x15_2) < (x7_2.length : Int) := od
                        obtain ⟨ad540, e540, hx540_0⟩ := Kd.at_int (Kd.R_reads' HO_7.out).2.2 (rd t535 x15_2) p540 q540
                        cases e540
                        replace p540 := eq_true p540
                        replace q540 := eq_true q540
                        have p29 : 0 ≤ ((rd t535 x15_2) : Int) := od
                        have q29 : ((rd t535 x15_2) : Int) < ((x7_2.length : Int) : Int) := od
                        obtain ⟨go29, co29, eo29, gb29, gl29, cl29, HG29⟩ := Kd.R_form HO_7.out (by omega)
                        (first | cases eo29 | (injection eo29 with ea_ en_ ec_; (first | subst ea_ | (injection ea_ with ea_; subst ea_)); subst ec_; clear en_))
                        have GB29 := Aside0.mk gb29
                        have GG29 := Aside0.mk HG29
                        clear gb29 gl29 HG29
                        (first | simp only [add_plain] at hx540_0 | skip)
                        obtain ⟨hx29_0, hf29_0⟩ := Kd.R_celln 0 HO_7.out ((rd t535 x15_2) : Int) p29 q29
                        replace p29 := eq_true p29
                        replace q29 := eq_true q29
                        have HP32 := Kd.R_putg HO_7.out ((rd t535 x15_2) : Int) (wrap64 ((rd x7_2 (rd t535 x15_2)) + 1))
                        go_wp2_with (first | ((with_reducible refine gate_store (t := 2) (p := 99) rfl ?_); (try (rw [drewN_self wr]; generalize hq_ : World.drewN wr _ = wr; have n0_ := Aside0.mk (Kd.R_at hq_ HO_7.out); have n1_ := Aside0.mk (Kd.R_at hq_ HO_13.out); have n2_ := Aside0.mk (blk_at hq_ BK522.out); have n3_ := Aside0.mk (below_at hq_ HB.out); clear hq_ HO_7 HO_13 BK522 HB; have HO_7 := n0_; have HO_13 := n1_; have BK522 := n2_; have HB := n3_; clear n0_ n1_ n2_ n3_; (try (have HP32 := Kd.R_putg HO_7.out ((rd t535 x15_2) : Int) (wrap64 ((rd x7_2 (rd t535 x15_2)) + 1)))))); refine store_event (t := 2) (p := 99) (v := ?vo_w33) (w1 := (wr.setCell ⟨go29, ((rd t535 x15_2) : Int).toNat, none⟩ (.int .i64 (wrap64 ((rd x7_2 (rd t535 x15_2)) + 1))))) ?hg ?ho ?hn ?hr ?_; (case ho => rfl); (case hg => rfl); (case hn => rfl); (case hr => first | (go_simp; done) | (go_simp; rfl)); intro w33 hw; have hg : wr.grownBy w33 (some go29) := (by rw [hw]; exact HP32.2); have hp_ : Kd.R (Kd.int .i64) 2 w33 w.heap.size (fun _ => True) (.slice (some ⟨go29, 0, none⟩) x7_2.length co31) y541 := (by rw [hw, Ny541.out]; exact HP32.1); clear HP32; have n0_ := Aside0.mk (hp_); have n1_ := Aside0.mk (Kd.R_over' (v := (.slice (some ⟨go29, 0, none⟩) x7_2.length co31)) (Kd.pR HO_13.out) (Kd.R_typed HO_7.out) (by decide) hg); have n2_ := Aside0.mk (blk_grown (pK BK522.out) hg (Kd.R_ne HO_7.out BK522.out (by decide))); have n3_ := Aside0.mk ((by rw [hw]; exact below_set (HB.out) GB29.out : Below w.heap.size w w33)); clear HO_7; clear HO_13; clear BK522; clear HB; have HO_7 := n0_; have HO_13 := n1_; have BK522 := n2_; have HB := n3_; clear n0_ n1_ n2_ n3_; clear hg hw hp_))
                        repeat (go_quiet (first | ((with_reducible refine gate_store (t := 2) (p := 99) rfl ?_); (try (rw [drewN_self wr]; generalize hq_ : World.drewN wr _ = wr; have n0_ := Aside0.mk (Kd.R_at hq_ HO_7.out); have n1_ := Aside0.mk (Kd.R_at hq_ HO_13.out); have n2_ := Aside0.mk (blk_at hq_ BK522.out); have n3_ := Aside0.mk (below_at hq_ HB.out); clear hq_ HO_7 HO_13 BK522 HB; have HO_7 := n0_; have HO_13 := n1_; have BK522 := n2_; have HB := n3_; clear n0_ n1_ n2_ n3_; (try (have HP32 := Kd.R_putg HO_7.out ((rd t535 x15_2) : Int) (wrap64 ((rd x7_2 (rd t535 x15_2)) + 1)))))); refine store_event (t := 2) (p := 99) (v := ?vo_w33) (w1 := (wr.setCell ⟨go29, ((rd t535 x15_2) : Int).toNat, none⟩ (.int .i64 (wrap64 ((rd x7_2 (rd t535 x15_2)) + 1))))) ?hg ?ho ?hn ?hr ?_; (case ho => rfl); (case hg => rfl); (case hn => rfl); (case hr => first | (go_simp; done) | (go_simp; rfl)); intro w33 hw; have hg : wr.grownBy w33 (some go29) := (by rw [hw]; exact HP32.2); have hp_ : Kd.R (Kd.int .i64) 2 w33 w.heap.size (fun _ => True) (.slice (some ⟨go29, 0, none⟩) x7_2.length co31) y541 := (by rw [hw, Ny541.out]; exact HP32.1); clear HP32; have n0_ := Aside0.mk (hp_); have n1_ := Aside0.mk (Kd.R_over' (v := (.slice (some ⟨go29, 0, none⟩) x7_2.length co31)) (Kd.pR HO_13.out) (Kd.R_typed HO_7.out) (by decide) hg); have n2_ := Aside0.mk (blk_grown (pK BK522.out) hg (Kd.R_ne HO_7.out BK522.out (by decide))); have n3_ := Aside0.mk ((by rw [hw]; exact below_set (HB.out) GB29.out : Below w.heap.size w w33)); clear HO_7; clear HO_13; clear BK522; clear HB; have HO_7 := n0_; have HO_13 := n1_; have BK522 := n2_; have HB := n3_; clear n0_ n1_ n2_ n3_; clear hg hw hp_)); try go_wp2_with (first | ((with_reducible refine gate_store (t := 2) (p := 99) rfl ?_); (try (rw [drewN_self wr]; generalize hq_ : World.drewN wr _ = wr; have n0_ := Aside0.mk (Kd.R_at hq_ HO_7.out); have n1_ := Aside0.mk (Kd.R_at hq_ HO_13.out); have n2_ := Aside0.mk (blk_at hq_ BK522.out); have n3_ := Aside0.mk (below_at hq_ HB.out); clear hq_ HO_7 HO_13 BK522 HB; have HO_7 := n0_; have HO_13 := n1_; have BK522 := n2_; have HB := n3_; clear n0_ n1_ n2_ n3_; (try (have HP32 := Kd.R_putg HO_7.out ((rd t535 x15_2) : Int) (wrap64 ((rd x7_2 (rd t535 x15_2)) + 1)))))); refine store_event (t := 2) (p := 99) (v := ?vo_w33) (w1 := (wr.setCell ⟨go29, ((rd t535 x15_2) : Int).toNat, none⟩ (.int .i64 (wrap64 ((rd x7_2 (rd t535 x15_2)) + 1))))) ?hg ?ho ?hn ?hr ?_; (case ho => rfl); (case hg => rfl); (case hn => rfl); (case hr => first | (go_simp; done) | (go_simp; rfl)); intro w33 hw; have hg : wr.grownBy w33 (some go29) := (by rw [hw]; exact HP32.2); have hp_ : Kd.R (Kd.int .i64) 2 w33 w.heap.size (fun _ => True) (.slice (some ⟨go29, 0, none⟩) x7_2.length co31) y541 := (by rw [hw, Ny541.out]; exact HP32.1); clear HP32; have n0_ := Aside0.mk (hp_); have n1_ := Aside0.mk (Kd.R_over' (v := (.slice (some ⟨go29, 0, none⟩) x7_2.length co31)) (Kd.pR HO_13.out) (Kd.R_typed HO_7.out) (by decide) hg); have n2_ := Aside0.mk (blk_grown (pK BK522.out) hg (Kd.R_ne HO_7.out BK522.out (by decide))); have n3_ := Aside0.mk ((by rw [hw]; exact below_set (HB.out) GB29.out : Below w.heap.size w w33)); clear HO_7; clear HO_13; clear BK522; clear HB; have HO_7 := n0_; have HO_13 := n1_; have BK522 := n2_; have HB := n3_; clear n0_ n1_ n2_ n3_; clear hg hw hp_)))
                        go_roundg k2
                        case measure => have := HK1.out; have := HK2.out; omega
                        case rel => exact ⟨(y541), (wrap64 (x8_2 - 1)), (wrap64 (x15_2 + 1)), (by first | rfl | (simp; done) | (simp [*]; done)), (by first | rfl | (simp; done) | (simp [*]; done)), H', ⟨by have := HK1.out; have := HK2.out; omega⟩, ⟨Kd.pR HO_7.out⟩, ⟨Kd.pR HO_13.out⟩, ⟨pK BK522.out⟩, ⟨pB HB.out⟩⟩
                      · rw [if_neg c28] at H
                        exact absurd H (by simp)
                    · rw [if_neg c27] at H
                      exact absurd H (by simp)
                  · rw [if_neg c26] at H
                    exact absurd H (by simp)
                · rw [if_neg c25] at H
                  have c25b0 : decide (0 < x8_2) = false := decide_eq_false c25
                  clear c25
                  simp only [Option.some.injEq, Prod.mk.injEq] at H
                  obtain ⟨rfl, rfl⟩ := H
                  obtain ⟨Ao34, co34, eo34⟩ := Kd.R_slice HO_13.out
                  subst eo34
                  go_wp2
                  repeat (go_quiet (fail); try go_wp2)
                  go_ret2
                  exact ⟨_, by first | rfl | (simp [errW_none, errW_some] <;> rfl) | (simp [*, errW_none, errW_some] <;> rfl), Kd.pR HO_7.out, pB HB.out⟩
              · rw [if_neg c24] at H
                have c24b0 : decide (x15_2 < (t535.length : Int)) = false := decide_eq_false c24
                clear c24
                simp only [Option.some.injEq, Prod.mk.injEq] at H
                obtain ⟨rfl, rfl⟩ := H
                obtain ⟨Ao35, co35, eo35⟩ := Kd.R_slice HO_13.out
                subst eo35
                go_wp2
                repeat (go_quiet (fail); try go_wp2)
                go_ret2
                exact ⟨_, by first | rfl | (simp [errW_none, errW_some] <;> rfl) | (simp [*, errW_none, errW_some] <;> rfl), Kd.pR HO_7.out, pB HB.out⟩
  · rw [if_neg c4] at H
    have c4b0 : (t518 == 0) = false := beq_eq_false_iff_ne.mpr c4
    have c4b1 : (t518 != 0) = true := bne_iff_ne.mpr c4
    simp only [Option.some.injEq, Prod.mk.injEq] at H
    obtain ⟨rfl, rfl⟩ := H
    go_enter Try.func17, Try.ntmps17
    go_wp2_with (first | (go_at_call 10; (with_reducible refine (spigotref36_Asked.calls k _ _ l0 a1 t518 _ ?side1 ?side2 A3.out).mono ?_); (case side1 => exact Kd.pC HR0.out); (case side2 => exact HC0.out); rintro e w' ⟨rfl, ⟨nd, rfl⟩⟩; (try first | exact ⟨rfl, _, World.drewN_drewN _ _ _⟩ | exact ⟨rfl, _, Eq.trans (World.drewN_drewN _ _ _) (congrArg (World.drewN _) (Nat.add_assoc _ _ _))⟩)))
    repeat (go_quiet (first | (go_at_call 10; (with_reducible refine (spigotref36_Asked.calls k _ _ l0 a1 t518 _ ?side1 ?side2 A3.out).mono ?_); (case side1 => exact Kd.pC HR0.out); (case side2 => exact HC0.out); rintro e w' ⟨rfl, ⟨nd, rfl⟩⟩; (try first | exact ⟨rfl, _, World.drewN_drewN _ _ _⟩ | exact ⟨rfl, _, Eq.trans (World.drewN_drewN _ _ _) (congrArg (World.drewN _) (Nat.add_assoc _ _ _))⟩))); try go_wp2_with (first | (go_at_call 10; (with_reducible refine (spigotref36_Asked.calls k _ _ l0 a1 t518 _ ?side1 ?side2 A3.out).mono ?_); (case side1 => exact Kd.pC HR0.out); (case side2 => exact HC0.out); rintro e w' ⟨rfl, ⟨nd, rfl⟩⟩; (try first | exact ⟨rfl, _, World.drewN_drewN _ _ _⟩ | exact ⟨rfl, _, Eq.trans (World.drewN_drewN _ _ _) (congrArg (World.drewN _) (Nat.add_assoc _ _ _))⟩))))
    go_ret2
    exact ⟨_, by first | rfl | (simp [errW_none, errW_some] <;> rfl) | (simp [*, errW_none, errW_some] <;> rfl), by first | exact Kd.R_nil _ _ _ _ _ | exact Kd.N_nil _ _ _ _ _ | exact Kd.V_nil _ _ _ _ _ | exact Kd.Q_nil _ _ _ _ _ | exact Kd.S_nil _ _ _ _ _, pB HB.out⟩

end Go.Proofs.Yteeceppbnkkfpaa.PShare
