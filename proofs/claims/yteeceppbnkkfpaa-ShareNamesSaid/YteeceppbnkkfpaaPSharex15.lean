-- printed by a program of this session (a turned copy of the kit's print); Lean checks it
import Derived.Test.YteeceppbnkkfpaaPSharex0
import Derived.Test.YteeceppbnkkfpaaPSharex4
import Derived.Test.YteeceppbnkkfpaaPSharex11
import Derived.Test.YteeceppbnkkfpaaPSharex12
namespace Go.Proofs.Yteeceppbnkkfpaa.PShare
open Go.RowKit Go.Proofs.YteeceppbnkkfpaaW.PrintWords Go.Proofs.YteeceppbnkkfpaaW.PrintLast Go.Proofs.YteeceppbnkkfpaaW.PrintMore
attribute [local go_sem] max2_int min2_int max_two min_two max_three min_three max_four min_four   -- for this text's walks alone
set_option linter.unusedVariables false
set_option linter.unusedSimpArgs false

/-! ### share_Split: function 13 -/
mutual
def share_Split.l0 : Nat → List (S37) → Int → Bool → List Int → List (S37) → Int → Int → Int → Int → Option (List Int × Int)
  | 0, _, _, _, _, _, _, _, _, _ => none
  | k + 1, x0, x1, x8, x9, x29, x30, x31, x191000, x191001 => if x31 < x30 then (if 0 ≤ x31 then (if x31 < (x29.length : Int) then (if x31 < (x9.length : Int) then ((some (x9.set (x31 : Int).toNat ((rd_T37 x29 x31).f0) : List Int)).bind fun y196 => (if x8 = true then ((share_isShort.f ((rd_T37 x29 x31).f0) ((rd_T37 x29 x31).f1) x191000 x191001).bind fun t197 => (if t197 = true then (if x191001 = 0 then (none) else ((some (y196.set (x31 : Int).toNat (wrap64 (Int.tdiv (wrap64 (x191000 * ((rd_T37 x29 x31).f1))) x191001)) : List Int)).bind fun y198 => (share_Split.l0 k x0 (wrap64 (x1 - (rd y198 x31))) x8 y198 x29 x30 (wrap64 (x31 + 1)) x191000 x191001))) else (share_Split.l0 k x0 (wrap64 (x1 - (rd y196 x31))) x8 y196 x29 x30 (wrap64 (x31 + 1)) x191000 x191001))) else (share_Split.l0 k x0 (wrap64 (x1 - (rd y196 x31))) x8 y196 x29 x30 (wrap64 (x31 + 1)) x191000 x191001))) else (none)) else (none)) else (none)) else (share_Split.l1 k x1 x8 x9 x0 (x0.length : Int) 0 x191000 x191001)
def share_Split.l1 : Nat → Int → Bool → List Int → List (S37) → Int → Int → Int → Int → Option (List Int × Int)
  | 0, _, _, _, _, _, _, _, _ => none
  | k + 1, x1, x8, x9, x65, x66, x67, x191000, x191001 => if x67 < x66 then (if 0 ≤ x67 then (if x67 < (x65.length : Int) then (if x8 = true then (if x1 > 0 then ((share_isShort.f ((rd_T37 x65 x67).f0) ((rd_T37 x65 x67).f1) x191000 x191001).bind fun t204 => (if t204 = true then (if x67 < (x9.length : Int) then (share_Split.l1 k (wrap64 (x1 - 1)) x8 (x9.set (x67 : Int).toNat (wrap64 ((rd x9 x67) + 1))) x65 x66 (wrap64 (x67 + 1)) x191000 x191001) else (none)) else (share_Split.l1 k x1 x8 x9 x65 x66 (wrap64 (x67 + 1)) x191000 x191001))) else (share_Split.l1 k x1 x8 x9 x65 x66 (wrap64 (x67 + 1)) x191000 x191001)) else (share_Split.l1 k x1 x8 x9 x65 x66 (wrap64 (x67 + 1)) x191000 x191001)) else (none)) else (none)) else (some (x9, 0))
end
def share_Split.f (k : Nat) (l0 : List (S37)) (a1 : Int) : Option (List Int × Int) := (share_asked.f k l0 a1).bind fun t186 => (if t186 = 0 then ((share_level.f k l0 a1).bind fun bt187 => (if 0 ≤ (l0.length : Int) then (if ((l0.length : Int) : Int).toNat ≤ 35184372088832 then (share_Split.l0 k l0 a1 bt187.2.2 (List.replicate ((l0.length : Int) : Int).toNat 0) l0 (l0.length : Int) 0 bt187.1 bt187.2.1) else (none)) else (none))) else (some (([] : List Int), t186)))
theorem share_Split.mono_l : ∀ k, (∀ y0 y1 y2 y3 y4 y5 y6 y7 y8, LeO (share_Split.l0 k y0 y1 y2 y3 y4 y5 y6 y7 y8) (share_Split.l0 (k + 1) y0 y1 y2 y3 y4 y5 y6 y7 y8)) ∧ (∀ y0 y1 y2 y3 y4 y5 y6 y7, LeO (share_Split.l1 k y0 y1 y2 y3 y4 y5 y6 y7) (share_Split.l1 (k + 1) y0 y1 y2 y3 y4 y5 y6 y7))
  | 0 => ⟨fun _ _ _ _ _ _ _ _ _ r h => by simp [share_Split.l0] at h, fun _ _ _ _ _ _ _ _ r h => by simp [share_Split.l1] at h⟩
  | k + 1 => by
    obtain ⟨ih0, ih1⟩ := share_Split.mono_l k
    refine ⟨?_, ?_⟩
    · intro y0 y1 y2 y3 y4 y5 y6 y7 y8
      unfold share_Split.l0
      repeat' first
      | (with_reducible exact ih0 _ _ _ _ _ _ _ _ _)
      | (with_reducible exact ih1 _ _ _ _ _ _ _ _)
      | (with_reducible exact share_asked.mono _ _ _)
      | (with_reducible exact share_level.mono _ _ _)
      | (with_reducible exact LeO.refl _)
      | (with_reducible exact LeO.none _)
      | (with_reducible refine LeO.ite ?_ ?_)
      | (with_reducible refine LeO.bind ?_ (fun _ => ?_))
      | exact ih0 _ _ _ _ _ _ _ _ _
      | exact ih1 _ _ _ _ _ _ _ _
      | exact share_asked.mono _ _ _
      | exact share_level.mono _ _ _
      | exact LeO.none _
      | refine LeO.ite ?_ ?_
      | refine LeO.bind ?_ (fun _ => ?_)
    · intro y0 y1 y2 y3 y4 y5 y6 y7
      unfold share_Split.l1
      repeat' first
      | (with_reducible exact ih0 _ _ _ _ _ _ _ _ _)
      | (with_reducible exact ih1 _ _ _ _ _ _ _ _)
      | (with_reducible exact share_asked.mono _ _ _)
      | (with_reducible exact share_level.mono _ _ _)
      | (with_reducible exact LeO.refl _)
      | (with_reducible exact LeO.none _)
      | (with_reducible refine LeO.ite ?_ ?_)
      | (with_reducible refine LeO.bind ?_ (fun _ => ?_))
      | exact ih0 _ _ _ _ _ _ _ _ _
      | exact ih1 _ _ _ _ _ _ _ _
      | exact share_asked.mono _ _ _
      | exact share_level.mono _ _ _
      | exact LeO.none _
      | refine LeO.ite ?_ ?_
      | refine LeO.bind ?_ (fun _ => ?_)
theorem share_Split.mono : ∀ a0 a1 k, LeO (share_Split.f k a0 a1) (share_Split.f (k + 1) a0 a1) := by
  intro a0 a1 k
  obtain ⟨ih0, ih1⟩ := share_Split.mono_l k
  unfold share_Split.f
  repeat' first
      | (with_reducible exact ih0 _ _ _ _ _ _ _ _ _)
      | (with_reducible exact ih1 _ _ _ _ _ _ _ _)
      | (with_reducible exact share_asked.mono _ _ _)
      | (with_reducible exact share_level.mono _ _ _)
      | (with_reducible exact LeO.refl _)
      | (with_reducible exact LeO.none _)
      | (with_reducible refine LeO.ite ?_ ?_)
      | (with_reducible refine LeO.bind ?_ (fun _ => ?_))
      | exact ih0 _ _ _ _ _ _ _ _ _
      | exact ih1 _ _ _ _ _ _ _ _
      | exact share_asked.mono _ _ _
      | exact share_level.mono _ _ _
      | exact LeO.none _
      | refine LeO.ite ?_ ?_
      | refine LeO.bind ?_ (fun _ => ?_)
set_option maxHeartbeats 8000000 in
set_option maxRecDepth 100000 in
theorem share_Split.calls (k : Nat) (A0 : Option Addr) (c0 : Nat) (l0 : List (S37)) (a1 : Int) (r1 : List Int) (r2 : Int) (w : World) (hr0 : Kd.C k37 w A0 l0.length l0) (hc0 : l0.length ≤ c0) (h : share_Split.f k l0 a1 = some (r1, r2)) :
    Calls Try.prog 13 #[.slice A0 l0.length c0, .int .i64 a1] w fun e w' => ∃ v0_ : Value, e = .returned (.tuple #[v0_, .int .i64 r2]) ∧ Kd.R (Kd.int .i64) 2 w' w.heap.size (fun _ => True) v0_ r1 ∧ Below w.heap.size w w' := by
  have hu26 := Try.underlying26
  have hu37 := Try.underlying37
  have HR0 := Aside0.mk hr0
  have HC0 := Aside0.mk hc0
  clear hr0 hc0
  have HB := Aside0.mk (Below.refl w.heap.size w)
  have H : ((share_asked.f k l0 a1).bind fun t186 => (if t186 = 0 then ((share_level.f k l0 a1).bind fun bt187 => (if 0 ≤ (l0.length : Int) then (if ((l0.length : Int) : Int).toNat ≤ 35184372088832 then (share_Split.l0 k l0 a1 bt187.2.2 (List.replicate ((l0.length : Int) : Int).toNat 0) l0 (l0.length : Int) 0 bt187.1 bt187.2.1) else (none)) else (none))) else (some (([] : List Int), t186)))) = some (r1, r2) := h
  (try clear h)
  replace H := Option.bind_eq_some_iff.mp H
  obtain ⟨t186, A30, H⟩ := H
  replace H : (if t186 = 0 then ((share_level.f k l0 a1).bind fun bt187 => (if 0 ≤ (l0.length : Int) then (if ((l0.length : Int) : Int).toNat ≤ 35184372088832 then (share_Split.l0 k l0 a1 bt187.2.2 (List.replicate ((l0.length : Int) : Int).toNat 0) l0 (l0.length : Int) 0 bt187.1 bt187.2.1) else (none)) else (none))) else (some (([] : List Int), t186))) = some (r1, r2) := H
  have A3 := Aside0.mk A30
  (try clear A30)
  by_cases c4 : t186 = 0
  · rw [if_pos c4] at H
    have c4b0 : (t186 == 0) = true := beq_iff_eq.mpr c4
    have c4b1 : (t186 != 0) = false := bne_eq_false_iff_eq.mpr c4
    clear c4
    replace H := Option.bind_eq_some_iff.mp H
    obtain ⟨⟨t187, t188, t189⟩, A50, H⟩ := H
    replace H : (if 0 ≤ (l0.length : Int) then (if ((l0.length : Int) : Int).toNat ≤ 35184372088832 then (share_Split.l0 k l0 a1 t189 (List.replicate ((l0.length : Int) : Int).toNat 0) l0 (l0.length : Int) 0 t187 t188) else (none)) else (none)) = some (r1, r2) := H
    have A5 := Aside0.mk A50
    (try clear A50)
    by_cases c6 : 0 ≤ (l0.length : Int)
    · rw [if_pos c6] at H
      have c6b0 := eq_true c6
      have c6b1 : decide (0 ≤ (l0.length : Int)) = true := decide_eq_true c6
      clear c6
      by_cases c7 : ((l0.length : Int) : Int).toNat ≤ 35184372088832
      · rw [if_pos c7] at H
        have c7b0 := eq_true c7
        have c7b1 : decide (((l0.length : Int) : Int).toNat ≤ 35184372088832) = true := decide_eq_true c7
        clear c7
        obtain ⟨y191, hy191⟩ : ∃ y_ : List Int, y_ = (List.replicate ((l0.length : Int) : Int).toNat 0) := ⟨_, rfl⟩
        replace H : (share_Split.l0 k l0 a1 t189 y191 l0 (l0.length : Int) 0 t187 t188) = some (r1, r2) := by first | (rw [hy191]; with_reducible exact H) | (have H2_ := (Option.bind_some _ _).symm.trans H; rw [hy191]; with_reducible exact H2_) | (have H2_ := (Option.bind_some _ _).symm.trans H; with_reducible exact H2_) | with_reducible exact H | (rw [hy191]; exact H) | exact H
        have Ny191 := Aside0.mk hy191
        (try clear hy191)
        have H' := Aside0.mk H
        clear H
        go_enter Try.func13, Try.ntmps13
        go_wp2_with (first | ((with_reducible refine gate_callee (f := 25) rfl ?_); refine goesE (some 16) rfl rfl Try.func25 (by kernel_rfl) rfl #[.slice A0 l0.length c0, .int .i64 a1] rfl ?_; (with_reducible refine (share_asked.calls k _ _ l0 a1 t186 _ ?side1 ?side2 A3.out).mono ?_); (case side1 => exact Kd.pC HR0.out); (case side2 => exact HC0.out); rintro e w8 ⟨rfl, hb⟩; refine ⟨_, rfl, ?_⟩; have n0_ := Aside0.mk (below_step (pB HB.out) hb); clear HB; have HB := n0_; clear n0_; (try clear hb); (try clear hb2); (try clear hk); (try clear hi)) | ((with_reducible refine gate_callee (f := 26) rfl ?_); refine goesE (some 23) rfl rfl Try.func26 (by kernel_rfl) rfl #[.slice A0 l0.length c0, .int .i64 a1] rfl ?_; (with_reducible refine (share_level.calls k _ _ l0 a1 t187 t188 t189 _ ?side1 ?side2 A5.out).mono ?_); (case side1 => exact Kd.pC ((Kd.C_below HR0.out HB.out))); (case side2 => exact HC0.out); rintro e w9 ⟨rfl, hb⟩; refine ⟨_, rfl, ?_⟩; have n0_ := Aside0.mk (below_step (pB HB.out) hb); clear HB; have HB := n0_; clear n0_; (try clear hb); (try clear hb2); (try clear hk); (try clear hi)) | ((with_reducible refine gate_dst (N := 7) rfl ?_); refine boxE (N := 7) (cs := #[.int .i64 0, .int .i64 0]) (t := 26) ?_; intro gb190 hg w10 hbox hb; have n0_ := Aside0.mk (below_step (pB HB.out) hb); have n1_ := Aside0.mk (hbox); have n3_ := Aside0.mk (pL HB.out hg); clear HB; have HB := n0_; have BK190 := n1_; have GE190 := n3_; clear n0_ n1_ n3_; clear hb hbox hg; obtain ⟨hcz11_0, hcz11_1, hfz11_0, hfz11_1⟩ := bk2 BK190.out) | ((with_reducible refine gate_dst (N := 28) rfl ?_); refine Kd.R_make (Kd.int .i64) _ 2 rfl (N := 28) rfl 33 _ _ rfl (l0.length : Int) rfl rfl Try.underlying33 (.int .i64 0) 8 info2 rfl (by decide) (by omega) 0 (ok := fun _ => True) (okp := fun _ => True) rfl (fun _ hk => hk) trivial od (Nat.le_trans (Nat.mul_le_mul_right _ (od : (l0.length : Int).toNat ≤ 35184372088832)) (by omega)) (Below.refl _ _) (Nat.le_refl _) ?_; intro v192 w12 ho13 hb hg_ hnew_; clear hg_ hnew_; (first | rw [← Ny191.out] at ho13 | (simp only [Int.reduceToNat] at ho13; rw [← Ny191.out] at ho13)); have n0_ := Aside0.mk (Kd.R_lower ho13 (below_size (pB HB.out))); have n1_ := Aside0.mk (blk_below (g := gb190) (o := .cells #[.int .i64 t187, .int .i64 t188] 26 (0, 0)) (by (with_reducible repeat (first | refine blk_drewN ?_ _ | refine blk_drew ?_ | refine blk_alloc ?_ _)); refine blk_put (cs := #[.int .i64 t187, .int .i64 0]) ?_ 1 _ rfl; (with_reducible repeat (first | refine blk_drewN ?_ _ | refine blk_drew ?_ | refine blk_alloc ?_ _)); refine blk_put (cs := #[.int .i64 0, .int .i64 0]) ?_ 0 _ rfl; (with_reducible repeat (first | refine blk_drewN ?_ _ | refine blk_drew ?_ | refine blk_alloc ?_ _)); exact BK190.out) hb); have n2_ := Aside0.mk (below_step (pB HB.out) hb); clear BK190; clear HB; have HO193 := n0_; have BK190 := n1_; have HB := n2_; clear n0_ n1_ n2_; clear hb ho13))
        go_loopg [1, 31] k (fun kq v1 v31 w' => ∃ (x1_1 : Int) (x9_1 : List Int) (x31_1 : Int), v1 = .int .i64 x1_1 ∧ v31 = .int .i64 x31_1 ∧ Aside0 (share_Split.l0 kq l0 x1_1 t189 x9_1 l0 (l0.length : Int) x31_1 t187 t188 = some (r1, r2)) ∧ Aside0 (kq ≤ k) ∧ Aside0 (Kd.R (Kd.int .i64) 2 w' w.heap.size (fun _ => True) v192 x9_1) ∧ Aside0 (w'.heap[gb190]? = some (.cells #[.int .i64 t187, .int .i64 t188] 26 (0, 0))) ∧ Aside0 (Below w.heap.size w w'))
        case atStart => exact ⟨(a1), (y191), (0), (by first | rfl | (simp; done) | (simp [*]; done)), (by first | rfl | (simp; done) | (simp [*]; done)), H', ⟨Nat.le_refl _⟩, ⟨Kd.pR HO193.out⟩, ⟨pK BK190.out⟩, ⟨pB HB.out⟩⟩
        case round =>
          clear H'
          try clear c1
          try clear c2
          try clear p2
          try clear c4
          try clear c4b0
          try clear c4b1
          try clear c6
          try clear c6b0
          try clear c6b1
          try clear c7
          try clear c7b0
          try clear c7b1
          try clear c13
          try clear hcz11_0
          try clear hcz11_1
          try clear hfz11_0
          try clear hfz11_1
          obtain ⟨x1_1, x9_1, x31_1, rfl, rfl, HA, HK1, HO_9, BK190, HB⟩ := hrel
          cases gk with
          | zero => exact absurd HA.out (by simp [share_Split.l0])
          | succ k1 =>
            have H := HA.out
            clear HA
            simp only [share_Split.l0] at H
            by_cases c14 : x31_1 < (l0.length : Int)
            · rw [if_pos c14] at H
              have c14b0 : decide (x31_1 < (l0.length : Int)) = true := decide_eq_true c14
              clear c14
              by_cases c15 : 0 ≤ x31_1
              · rw [if_pos c15] at H
                have c15b0 : decide (0 ≤ x31_1) = true := decide_eq_true c15
                clear c15
                by_cases c16 : x31_1 < (l0.length : Int)
                · rw [if_pos c16] at H
                  have c16b0 : decide (x31_1 < (l0.length : Int)) = true := decide_eq_true c16
                  clear c16
                  by_cases c17 : x31_1 < (x9_1.length : Int)
                  · rw [if_pos c17] at H
                    have c17b0 : decide (x31_1 < (x9_1.length : Int)) = true := decide_eq_true c17
                    clear c17
                    obtain ⟨y196, hy196⟩ : ∃ y_ : List Int, y_ = (x9_1.set (x31_1 : Int).toNat ((rd_T37 l0 x31_1).f0)) := ⟨_, rfl⟩
                    replace H : (if t189 = true then ((share_isShort.f ((rd_T37 l0 x31_1).f0) ((rd_T37 l0 x31_1).f1) t187 t188).bind fun t197 => (if t197 = true then (if t188 = 0 then (none) else ((some (y196.set (x31_1 : Int).toNat (wrap64 (Int.tdiv (wrap64 (t187 * ((rd_T37 l0 x31_1).f1))) t188)) : List Int)).bind fun y198 => (share_Split.l0 k1 l0 (wrap64 (x1_1 - (rd y198 x31_1))) t189 y198 l0 (l0.length : Int) (wrap64 (x31_1 + 1)) t187 t188))) else (share_Split.l0 k1 l0 (wrap64 (x1_1 - (rd y196 x31_1))) t189 y196 l0 (l0.length : Int) (wrap64 (x31_1 + 1)) t187 t188))) else (share_Split.l0 k1 l0 (wrap64 (x1_1 - (rd y196 x31_1))) t189 y196 l0 (l0.length : Int) (wrap64 (x31_1 + 1)) t187 t188)) = some (r1, r2) := by first | (rw [hy196]; with_reducible exact H) | (have H2_ := (Option.bind_some _ _).symm.trans H; rw [hy196]; with_reducible exact H2_) | (have H2_ := (Option.bind_some _ _).symm.trans H; with_reducible exact H2_) | with_reducible exact H | (rw [hy196]; exact H) | exact H
                    have Ny196 := Aside0.mk hy196
                    (try clear hy196)
                    by_cases c19 : t189 = true
                    · subst c19
                      have H1 : ((share_isShort.f ((rd_T37 l0 x31_1).f0) ((rd_T37 l0 x31_1).f1) t187 t188).bind fun t197 => (if t197 = true then (if t188 = 0 then (none) else ((some (y196.set (x31_1 : Int).toNat (wrap64 (Int.tdiv (wrap64 (t187 * ((rd_T37 l0 x31_1).f1))) t188)) : List Int)).bind fun y198 => (share_Split.l0 k1 l0 (wrap64 (x1_1 - (rd y198 x31_1))) true y198 l0 (l0.length : Int) (wrap64 (x31_1 + 1)) t187 t188))) else (share_Split.l0 k1 l0 (wrap64 (x1_1 - (rd y196 x31_1))) true y196 l0 (l0.length : Int) (wrap64 (x31_1 + 1)) t187 t188))) = some (r1, r2) := by rw [if_pos rfl] at H; exact H
                      clear H
                      have H := H1
                      clear H1
                      replace H := Option.bind_eq_some_iff.mp H
                      obtain ⟨t197, A200, H⟩ := H
                      replace H : (if t197 = true then (if t188 = 0 then (none) else ((some (y196.set (x31_1 : Int).toNat (wrap64 (Int.tdiv (wrap64 (t187 * ((rd_T37 l0 x31_1).f1))) t188)) : List Int)).bind fun y198 => (share_Split.l0 k1 l0 (wrap64 (x1_1 - (rd y198 x31_1))) true y198 l0 (l0.length : Int) (wrap64 (x31_1 + 1)) t187 t188))) else (share_Split.l0 k1 l0 (wrap64 (x1_1 - (rd y196 x31_1))) true y196 l0 (l0.length : Int) (wrap64 (x31_1 + 1)) t187 t188)) = some (r1, r2) := H
                      have A20 := Aside0.mk A200
                      (try clear A200)
                      by_cases c21 : t197 = true
                      · subst c21
                        have H1 : (if t188 = 0 then (none) else ((some (y196.set (x31_1 : Int).toNat (wrap64 (Int.tdiv (wrap64 (t187 * ((rd_T37 l0 x31_1).f1))) t188)) : List Int)).bind fun y198 => (share_Split.l0 k1 l0 (wrap64 (x1_1 - (rd y198 x31_1))) true y198 l0 (l0.length : Int) (wrap64 (x31_1 + 1)) t187 t188))) = some (r1, r2) := by rw [if_pos rfl] at H; exact H
                        clear H
                        have H := H1
                        clear H1
                        by_cases c22 : t188 = 0
                        · rw [if_pos c22] at H
                          exact absurd H (by simp)
                        · rw [if_neg c22] at H
                          have c22b0 : (t188 == 0) = false := beq_eq_false_iff_ne.mpr c22
                          have c22b1 : (t188 != 0) = true := bne_iff_ne.mpr c22
                          obtain ⟨y198, hy198⟩ : ∃ y_ : List Int, y_ = (y196.set (x31_1 : Int).toNat (wrap64 (Int.tdiv (wrap64 (t187 * ((rd_T37 l0 x31_1).f1))) t188))) := ⟨_, rfl⟩
                          replace H : (share_Split.l0 k1 l0 (wrap64 (x1_1 - (rd y198 x31_1))) true y198 l0 (l0.length : Int) (wrap64 (x31_1 + 1)) t187 t188) = some (r1, r2) := by first | (rw [hy198]; with_reducible exact H) | (have H2_ := (Option.bind_some _ _).symm.trans H; rw [hy198]; with_reducible exact H2_) | (have H2_ := (Option.bind_some _ _).symm.trans H; with_reducible exact H2_) | with_reducible exact H | (rw [hy198]; exact H) | exact H
                          have Ny198 := Aside0.mk hy198
                          (try clear hy198)
                          have H' := Aside0.mk H
                          clear H
                          have p194 : 0 ≤ (x31_1 : Int) := od
                          have q194 : x31_1 < (l0.length : Int) := od
                          obtain ⟨ad194, e194, hx194_0, hx194_1⟩ := at_T37 HR0.out x31_1 p194 q194
                          cases e194
                          replace hx194_0 := (HB.out.cell (World.block_lt_of_cell? w _ hx194_0)).trans hx194_0
                          replace hx194_1 := (HB.out.cell (World.block_lt_of_cell? w _ hx194_1)).trans hx194_1
                          replace p194 := eq_true p194
                          replace q194 := eq_true q194
                          go_wp2_with (first | ((with_reducible refine gate_dst (N := 11) rfl ?_); refine boxE (N := 11) (cs := #[.int .i64 0, .int .i64 0]) (t := 37) ?_; intro gb195 hg w24 hbox hb; have n0_ := Aside0.mk (Kd.R_below (Kd.pR HO_9.out) hb); have n1_ := Aside0.mk (blk_below (pK BK190.out) hb); have n2_ := Aside0.mk (below_step (pB HB.out) hb); have n3_ := Aside0.mk (hbox); have n5_ := Aside0.mk (pL HB.out hg); have n6_ := Aside0.mk (pNl BK190.out hg); have n7_ := Aside0.mk (pNg BK190.out hg); clear HO_9; clear BK190; clear HB; have HO_9 := n0_; have BK190 := n1_; have HB := n2_; have BK195 := n3_; have GE195 := n5_; have NB190_195 := n6_; have NB195_190 := n7_; clear n0_ n1_ n2_ n3_ n5_ n6_ n7_; clear hb hbox hg; have hnb25 := NB195_190.out; have hnc25 := NB190_195.out; obtain ⟨hcz26_0, hcz26_1, hfz26_0, hfz26_1⟩ := bk2 BK195.out) | ((with_reducible refine gate_store (t := 37) (p := 11) rfl ?_); refine store_event (t := 37) (p := 11) (v := ?vo_w27) (w1 := ((w24.setCell ⟨gb195, 0, none⟩ (.int .i64 ((rd_T37 l0 x31_1).f0))).setCell ⟨gb195, 1, none⟩ (.int .i64 ((rd_T37 l0 x31_1).f1)))) ?hg ?ho ?hn ?hr ?_; (case ho => rfl); (case hg => rfl); (case hn => rfl); (case hr => first | (go_simp; done) | (go_simp; rfl)); intro w27 hw; have n0_ : Aside0 (Kd.R (Kd.int .i64) 2 w27 w.heap.size (fun _ => True) v192 x9_1) := ⟨(by rw [hw]; exact (Kd.pR (Kd.R_mono (Kd.R_far (p := ⟨gb195, 1, none⟩) (Kd.R_far (p := ⟨gb195, 0, none⟩) (Kd.R_types HO_9.out BK195.out (by decide)) (fun _ hk => hk.2) (.int .i64 ((rd_T37 l0 x31_1).f0))) (fun _ hk => hk.2) (.int .i64 ((rd_T37 l0 x31_1).f1))) (fun _ hk => trivial))))⟩; have n1_ : Aside0 (w27.heap[gb190]? = some (.cells #[.int .i64 t187, .int .i64 t188] 26 (0, 0))) := ⟨(by rw [hw]; exact (by (with_reducible repeat (first | refine blk_drewN ?_ _ | refine blk_drew ?_ | refine blk_alloc ?_ _)); refine blk_far ?_ NB190_195.out _; (with_reducible repeat (first | refine blk_drewN ?_ _ | refine blk_drew ?_ | refine blk_alloc ?_ _)); refine blk_far ?_ NB190_195.out _; (with_reducible repeat (first | refine blk_drewN ?_ _ | refine blk_drew ?_ | refine blk_alloc ?_ _)); exact BK190.out))⟩; have n2_ : Aside0 (w27.heap[gb195]? = some (.cells #[.int .i64 ((rd_T37 l0 x31_1).f0), .int .i64 ((rd_T37 l0 x31_1).f1)] 37 (0, 0))) := ⟨(by rw [hw]; exact (by (with_reducible repeat (first | refine blk_drewN ?_ _ | refine blk_drew ?_ | refine blk_alloc ?_ _)); refine blk_put (cs := #[.int .i64 ((rd_T37 l0 x31_1).f0), .int .i64 0]) ?_ 1 _ rfl; (with_reducible repeat (first | refine blk_drewN ?_ _ | refine blk_drew ?_ | refine blk_alloc ?_ _)); refine blk_put (cs := #[.int .i64 0, .int .i64 0]) ?_ 0 _ rfl; (with_reducible repeat (first | refine blk_drewN ?_ _ | refine blk_drew ?_ | refine blk_alloc ?_ _)); exact BK195.out))⟩; have n3_ : Aside0 (Below w.heap.size w w27) := ⟨(by rw [hw]; exact (pB HB.out))⟩; clear hw; clear HO_9; clear BK190; clear BK195; clear HB; have HO_9 := n0_; have BK190 := n1_; have BK195 := n2_; have HB := n3_; clear n0_ n1_ n2_ n3_; obtain ⟨hcz28_0, hcz28_1, hfz28_0, hfz28_1⟩ := bk2 BK195.out; have p18 : 0 ≤ (x31_1 : Int) := od; have q18 : (x31_1 : Int) < ((x9_1.length : Int) : Int) := od; obtain ⟨go18, co18, eo18, gb18, gl18, cl18, HG18⟩ := Kd.R_form HO_9.out (by omega); (first | cases eo18 | (injection eo18 with ea_ en_ ec_; (first | subst ea_ | (injection ea_ with ea_; subst ea_)); subst ec_; clear en_)); have GB18 := Aside0.mk gb18; have GG18 := Aside0.mk HG18; clear gb18 gl18 HG18; obtain ⟨hx18_0, hf18_0⟩ := Kd.R_celln 0 HO_9.out (x31_1 : Int) p18 q18; replace p18 := eq_true p18; replace q18 := eq_true q18; obtain ⟨hy29_, hz29_⟩ := Kd.R_celln 0 HO_9.out (x31_1 : Int) od od; have HP29 := Kd.R_putg HO_9.out (x31_1 : Int) ((rd_T37 l0 x31_1).f0)) | ((with_reducible refine gate_store (t := 2) (p := 40) rfl ?_); refine store_event (t := 2) (p := 40) (v := ?vo_w30) (w1 := (w27.setCell ⟨go18, (x31_1 : Int).toNat, none⟩ (.int .i64 ((rd_T37 l0 x31_1).f0)))) ?hg ?ho ?hn ?hr ?_; (case ho => rfl); (case hg => rfl); (case hn => rfl); (case hr => first | (go_simp; done) | (go_simp; rfl)); intro w30 hw; have hg : w27.grownBy w30 (some go18) := (by rw [hw]; exact HP29.2); have hp_ : Kd.R (Kd.int .i64) 2 w30 w.heap.size (fun _ => True) (.slice (some ⟨go18, 0, none⟩) x9_1.length co18) y196 := (by rw [hw, Ny196.out]; exact HP29.1); (try clear HP29); have n0_ := Aside0.mk (hp_); have n1_ := Aside0.mk (blk_grown (pK BK190.out) hg (Kd.R_ne HO_9.out BK190.out (by decide))); have n2_ := Aside0.mk (blk_grown (pK BK195.out) hg (Kd.R_ne HO_9.out BK195.out (by decide))); have n3_ := Aside0.mk ((by rw [hw]; exact below_set (HB.out) GB18.out : Below w.heap.size w w30)); clear HO_9; clear BK190; clear BK195; clear HB; have HO_9 := n0_; have BK190 := n1_; have BK195 := n2_; have HB := n3_; clear n0_ n1_ n2_ n3_; clear hg hw hp_; obtain ⟨hcz31_0, hcz31_1, hfz31_0, hfz31_1⟩ := bk2 BK195.out; obtain ⟨hcz32_0, hcz32_1, hfz32_0, hfz32_1⟩ := bk2 BK190.out) | (go_at_call 27; (with_reducible refine (share_isShort.calls ((rd_T37 l0 x31_1).f0) ((rd_T37 l0 x31_1).f1) t187 t188 true _ A20.out).mono ?_); rintro e w33 ⟨rfl, hb⟩; have n0_ := Aside0.mk (Kd.R_below (Kd.pR HO_9.out) hb); have n1_ := Aside0.mk (blk_below (pK BK190.out) hb); have n2_ := Aside0.mk (blk_below (pK BK195.out) hb); have n3_ := Aside0.mk (below_step (pB HB.out) hb); clear HO_9; clear BK190; clear BK195; clear HB; have HO_9 := n0_; have BK190 := n1_; have BK195 := n2_; have HB := n3_; clear n0_ n1_ n2_ n3_; (try clear hb); (try clear hb2); (try clear hk); (try clear hi); obtain ⟨hcz34_0, hcz34_1, hfz34_0, hfz34_1⟩ := bk2 BK190.out; obtain ⟨hcz35_0, hcz35_1, hfz35_0, hfz35_1⟩ := bk2 BK195.out; have p23 : 0 ≤ (x31_1 : Int) := od; have q23 : (x31_1 : Int) < ((x9_1.length : Int) : Int) := od; obtain ⟨hx23_0, hf23_0⟩ := Kd.R_celln 0 HO_9.out (x31_1 : Int) p23 q23; replace p23 := eq_true p23; replace q23 := eq_true q23; obtain ⟨hy36_, hz36_⟩ := Kd.R_celln 0 HO_9.out (x31_1 : Int) od od; have HP36 := Kd.R_putg HO_9.out (x31_1 : Int) (wrap64 (Int.tdiv (wrap64 (t187 * ((rd_T37 l0 x31_1).f1))) t188))) | ((with_reducible refine gate_store (t := 2) (p := 57) rfl ?_); refine store_event (t := 2) (p := 57) (v := ?vo_w37) (w1 := (w33.setCell ⟨go18, (x31_1 : Int).toNat, none⟩ (.int .i64 (wrap64 (Int.tdiv (wrap64 (t187 * ((rd_T37 l0 x31_1).f1))) t188))))) ?hg ?ho ?hn ?hr ?_; (case ho => rfl); (case hg => rfl); (case hn => rfl); (case hr => first | (go_simp; done) | (go_simp; rfl)); intro w37 hw; have hg : w33.grownBy w37 (some go18) := (by rw [hw]; exact HP36.2); have hp_ : Kd.R (Kd.int .i64) 2 w37 w.heap.size (fun _ => True) (.slice (some ⟨go18, 0, none⟩) x9_1.length co18) y198 := (by rw [hw, Ny198.out]; exact HP36.1); (try clear HP36); have n0_ := Aside0.mk (hp_); have n1_ := Aside0.mk (blk_grown (pK BK190.out) hg (Kd.R_ne HO_9.out BK190.out (by decide))); have n3_ := Aside0.mk ((by rw [hw]; exact below_set (HB.out) GB18.out : Below w.heap.size w w37)); clear HO_9; clear BK190; (try clear BK195); clear HB; have HO_9 := n0_; have BK190 := n1_; have HB := n3_; clear n0_ n1_ n3_; clear hg hw hp_; have p199 : 0 ≤ (x31_1 : Int) := od; have q199 : x31_1 < (y198.length : Int) := (by have h_ : (x31_1 : Int) < ((x9_1.length : Int) : Int) := od; first | (have e_ := (Kd.R_reads' HO_9.out).1; omega) | simpa only [Ny196.out, Ny198.out, List.length_set] using h_); have ql199 : ((x31_1 : Int) < ((x9_1.length : Int) : Int)) = True := eq_true od; obtain ⟨ad199, e199, hx199_0⟩ := Kd.at_int (Kd.R_reads' HO_9.out).2.2 x31_1 p199 q199; obtain rfl : (⟨go18, 0, none⟩ : Addr) = ad199 := (by injection e199); (first | simp only [add_plain] at hx199_0 | simp only [add_at] at hx199_0 | simp only [Addr.add, Nat.zero_add] at hx199_0 | skip); replace p199 := eq_true p199; replace q199 := eq_true q199))
                          go_roundg k1
                          case measure => have := HK1.out; omega
                          case rel => exact ⟨(wrap64 (x1_1 - (rd y198 x31_1))), (y198), (wrap64 (x31_1 + 1)), (by first | rfl | (simp; done) | (simp [*]; done)), (by first | rfl | (simp; done) | (simp [*]; done)), H', ⟨by have := HK1.out; omega⟩, ⟨Kd.pR HO_9.out⟩, ⟨pK BK190.out⟩, ⟨pB HB.out⟩⟩
                      · replace c21 := Bool.eq_false_iff.mpr c21
                        subst c21
                        have H1 : (share_Split.l0 k1 l0 (wrap64 (x1_1 - (rd y196 x31_1))) true y196 l0 (l0.length : Int) (wrap64 (x31_1 + 1)) t187 t188) = some (r1, r2) := by rw [if_neg (show ¬ (false = true) by decide)] at H; exact H
                        clear H
                        have H := H1
                        clear H1
                        have H' := Aside0.mk H
                        clear H
                        have p194 : 0 ≤ (x31_1 : Int) := od
                        have q194 : x31_1 < (l0.length : Int) := od
                        obtain ⟨ad194, e194, hx194_0, hx194_1⟩ := at_T37 HR0.out x31_1 p194 q194
                        cases e194
                        replace hx194_0 := (HB.out.cell (World.block_lt_of_cell? w _ hx194_0)).trans hx194_0
                        replace hx194_1 := (HB.out.cell (World.block_lt_of_cell? w _ hx194_1)).trans hx194_1
                        replace p194 := eq_true p194
                        replace q194 := eq_true q194
                        go_wp2_with (first | ((with_reducible refine gate_dst (N := 11) rfl ?_); refine boxE (N := 11) (cs := #[.int .i64 0, .int .i64 0]) (t := 37) ?_; intro gb195 hg w38 hbox hb; have n0_ := Aside0.mk (Kd.R_below (Kd.pR HO_9.out) hb); have n1_ := Aside0.mk (blk_below (pK BK190.out) hb); have n2_ := Aside0.mk (below_step (pB HB.out) hb); have n3_ := Aside0.mk (hbox); have n5_ := Aside0.mk (pL HB.out hg); have n6_ := Aside0.mk (pNl BK190.out hg); have n7_ := Aside0.mk (pNg BK190.out hg); clear HO_9; clear BK190; clear HB; have HO_9 := n0_; have BK190 := n1_; have HB := n2_; have BK195 := n3_; have GE195 := n5_; have NB190_195 := n6_; have NB195_190 := n7_; clear n0_ n1_ n2_ n3_ n5_ n6_ n7_; clear hb hbox hg; have hnb39 := NB195_190.out; have hnc39 := NB190_195.out; obtain ⟨hcz40_0, hcz40_1, hfz40_0, hfz40_1⟩ := bk2 BK195.out) | ((with_reducible refine gate_store (t := 37) (p := 11) rfl ?_); refine store_event (t := 37) (p := 11) (v := ?vo_w41) (w1 := ((w38.setCell ⟨gb195, 0, none⟩ (.int .i64 ((rd_T37 l0 x31_1).f0))).setCell ⟨gb195, 1, none⟩ (.int .i64 ((rd_T37 l0 x31_1).f1)))) ?hg ?ho ?hn ?hr ?_; (case ho => rfl); (case hg => rfl); (case hn => rfl); (case hr => first | (go_simp; done) | (go_simp; rfl)); intro w41 hw; have n0_ : Aside0 (Kd.R (Kd.int .i64) 2 w41 w.heap.size (fun _ => True) v192 x9_1) := ⟨(by rw [hw]; exact (Kd.pR (Kd.R_mono (Kd.R_far (p := ⟨gb195, 1, none⟩) (Kd.R_far (p := ⟨gb195, 0, none⟩) (Kd.R_types HO_9.out BK195.out (by decide)) (fun _ hk => hk.2) (.int .i64 ((rd_T37 l0 x31_1).f0))) (fun _ hk => hk.2) (.int .i64 ((rd_T37 l0 x31_1).f1))) (fun _ hk => trivial))))⟩; have n1_ : Aside0 (w41.heap[gb190]? = some (.cells #[.int .i64 t187, .int .i64 t188] 26 (0, 0))) := ⟨(by rw [hw]; exact (by (with_reducible repeat (first | refine blk_drewN ?_ _ | refine blk_drew ?_ | refine blk_alloc ?_ _)); refine blk_far ?_ NB190_195.out _; (with_reducible repeat (first | refine blk_drewN ?_ _ | refine blk_drew ?_ | refine blk_alloc ?_ _)); refine blk_far ?_ NB190_195.out _; (with_reducible repeat (first | refine blk_drewN ?_ _ | refine blk_drew ?_ | refine blk_alloc ?_ _)); exact BK190.out))⟩; have n2_ : Aside0 (w41.heap[gb195]? = some (.cells #[.int .i64 ((rd_T37 l0 x31_1).f0), .int .i64 ((rd_T37 l0 x31_1).f1)] 37 (0, 0))) := ⟨(by rw [hw]; exact (by (with_reducible repeat (first | refine blk_drewN ?_ _ | refine blk_drew ?_ | refine blk_alloc ?_ _)); refine blk_put (cs := #[.int .i64 ((rd_T37 l0 x31_1).f0), .int .i64 0]) ?_ 1 _ rfl; (with_reducible repeat (first | refine blk_drewN ?_ _ | refine blk_drew ?_ | refine blk_alloc ?_ _)); refine blk_put (cs := #[.int .i64 0, .int .i64 0]) ?_ 0 _ rfl; (with_reducible repeat (first | refine blk_drewN ?_ _ | refine blk_drew ?_ | refine blk_alloc ?_ _)); exact BK195.out))⟩; have n3_ : Aside0 (Below w.heap.size w w41) := ⟨(by rw [hw]; exact (pB HB.out))⟩; clear hw; clear HO_9; clear BK190; clear BK195; clear HB; have HO_9 := n0_; have BK190 := n1_; have BK195 := n2_; have HB := n3_; clear n0_ n1_ n2_ n3_; obtain ⟨hcz42_0, hcz42_1, hfz42_0, hfz42_1⟩ := bk2 BK195.out; have p18 : 0 ≤ (x31_1 : Int) := od; have q18 : (x31_1 : Int) < ((x9_1.length : Int) : Int) := od; obtain ⟨go18, co18, eo18, gb18, gl18, cl18, HG18⟩ := Kd.R_form HO_9.out (by omega); (first | cases eo18 | (injection eo18 with ea_ en_ ec_; (first | subst ea_ | (injection ea_ with ea_; subst ea_)); subst ec_; clear en_)); have GB18 := Aside0.mk gb18; have GG18 := Aside0.mk HG18; clear gb18 gl18 HG18; obtain ⟨hx18_0, hf18_0⟩ := Kd.R_celln 0 HO_9.out (x31_1 : Int) p18 q18; replace p18 := eq_true p18; replace q18 := eq_true q18; obtain ⟨hy43_, hz43_⟩ := Kd.R_celln 0 HO_9.out (x31_1 : Int) od od; have HP43 := Kd.R_putg HO_9.out (x31_1 : Int) ((rd_T37 l0 x31_1).f0)) | ((with_reducible refine gate_store (t := 2) (p := 40) rfl ?_); refine store_event (t := 2) (p := 40) (v := ?vo_w44) (w1 := (w41.setCell ⟨go18, (x31_1 : Int).toNat, none⟩ (.int .i64 ((rd_T37 l0 x31_1).f0)))) ?hg ?ho ?hn ?hr ?_; (case ho => rfl); (case hg => rfl); (case hn => rfl); (case hr => first | (go_simp; done) | (go_simp; rfl)); intro w44 hw; have hg : w41.grownBy w44 (some go18) := (by rw [hw]; exact HP43.2); have hp_ : Kd.R (Kd.int .i64) 2 w44 w.heap.size (fun _ => True) (.slice (some ⟨go18, 0, none⟩) x9_1.length co18) y196 := (by rw [hw, Ny196.out]; exact HP43.1); (try clear HP43); have n0_ := Aside0.mk (hp_); have n1_ := Aside0.mk (blk_grown (pK BK190.out) hg (Kd.R_ne HO_9.out BK190.out (by decide))); have n2_ := Aside0.mk (blk_grown (pK BK195.out) hg (Kd.R_ne HO_9.out BK195.out (by decide))); have n3_ := Aside0.mk ((by rw [hw]; exact below_set (HB.out) GB18.out : Below w.heap.size w w44)); clear HO_9; clear BK190; clear BK195; clear HB; have HO_9 := n0_; have BK190 := n1_; have BK195 := n2_; have HB := n3_; clear n0_ n1_ n2_ n3_; clear hg hw hp_; obtain ⟨hcz45_0, hcz45_1, hfz45_0, hfz45_1⟩ := bk2 BK195.out; obtain ⟨hcz46_0, hcz46_1, hfz46_0, hfz46_1⟩ := bk2 BK190.out) | (go_at_call 27; (with_reducible refine (share_isShort.calls ((rd_T37 l0 x31_1).f0) ((rd_T37 l0 x31_1).f1) t187 t188 false _ A20.out).mono ?_); rintro e w47 ⟨rfl, hb⟩; have n0_ := Aside0.mk (Kd.R_below (Kd.pR HO_9.out) hb); have n1_ := Aside0.mk (blk_below (pK BK190.out) hb); have n3_ := Aside0.mk (below_step (pB HB.out) hb); clear HO_9; clear BK190; (try clear BK195); clear HB; have HO_9 := n0_; have BK190 := n1_; have HB := n3_; clear n0_ n1_ n3_; (try clear hb); (try clear hb2); (try clear hk); (try clear hi); have p200 : 0 ≤ (x31_1 : Int) := od; have q200 : x31_1 < (y196.length : Int) := (by have h_ : (x31_1 : Int) < ((x9_1.length : Int) : Int) := od; first | (have e_ := (Kd.R_reads' HO_9.out).1; omega) | simpa only [Ny196.out, List.length_set] using h_); have ql200 : ((x31_1 : Int) < ((x9_1.length : Int) : Int)) = True := eq_true od; obtain ⟨ad200, e200, hx200_0⟩ := Kd.at_int (Kd.R_reads' HO_9.out).2.2 x31_1 p200 q200; obtain rfl : (⟨go18, 0, none⟩ : Addr) = ad200 := (by injection e200); (first | simp only [add_plain] at hx200_0 | simp only [add_at] at hx200_0 | simp only [Addr.add, Nat.zero_add] at hx200_0 | skip); replace p200 := eq_true p200; replace q200 := eq_true q200))
                        go_roundg k1
                        case measure => have := HK1.out; omega
                        case rel => exact ⟨(wrap64 (x1_1 - (rd y196 x31_1))), (y196), (wrap64 (x31_1 + 1)), (by first | rfl | (simp; done) | (simp [*]; done)), (by first | rfl | (simp; done) | (simp [*]; done)), H', ⟨by have := HK1.out; omega⟩, ⟨Kd.pR HO_9.out⟩, ⟨pK BK190.out⟩, ⟨pB HB.out⟩⟩
                    · replace c19 := Bool.eq_false_iff.mpr c19
                      subst c19
                      have H1 : (share_Split.l0 k1 l0 (wrap64 (x1_1 - (rd y196 x31_1))) false y196 l0 (l0.length : Int) (wrap64 (x31_1 + 1)) t187 t188) = some (r1, r2) := by rw [if_neg (show ¬ (false = true) by decide)] at H; exact H
                      clear H
                      have H := H1
                      clear H1
                      have H' := Aside0.mk H
                      clear H
                      have p194 : 0 ≤ (x31_1 : Int) := od
                      have q194 : x31_1 < (l0.length : Int) := od
                      obtain ⟨ad194, e194, hx194_0, hx194_1⟩ := at_T37 HR0.out x31_1 p194 q194
                      cases e194
                      replace hx194_0 := (HB.out.cell (World.block_lt_of_cell? w _ hx194_0)).trans hx194_0
                      replace hx194_1 := (HB.out.cell (World.block_lt_of_cell? w _ hx194_1)).trans hx194_1
                      replace p194 := eq_true p194
                      replace q194 := eq_true q194
                      go_wp2_with (first | ((with_reducible refine gate_dst (N := 11) rfl ?_); refine boxE (N := 11) (cs := #[.int .i64 0, .int .i64 0]) (t := 37) ?_; intro gb195 hg w48 hbox hb; have n0_ := Aside0.mk (Kd.R_below (Kd.pR HO_9.out) hb); have n1_ := Aside0.mk (blk_below (pK BK190.out) hb); have n2_ := Aside0.mk (below_step (pB HB.out) hb); have n3_ := Aside0.mk (hbox); have n5_ := Aside0.mk (pL HB.out hg); have n6_ := Aside0.mk (pNl BK190.out hg); have n7_ := Aside0.mk (pNg BK190.out hg); clear HO_9; clear BK190; clear HB; have HO_9 := n0_; have BK190 := n1_; have HB := n2_; have BK195 := n3_; have GE195 := n5_; have NB190_195 := n6_; have NB195_190 := n7_; clear n0_ n1_ n2_ n3_ n5_ n6_ n7_; clear hb hbox hg; have hnb49 := NB195_190.out; have hnc49 := NB190_195.out; obtain ⟨hcz50_0, hcz50_1, hfz50_0, hfz50_1⟩ := bk2 BK195.out) | ((with_reducible refine gate_store (t := 37) (p := 11) rfl ?_); refine store_event (t := 37) (p := 11) (v := ?vo_w51) (w1 := ((w48.setCell ⟨gb195, 0, none⟩ (.int .i64 ((rd_T37 l0 x31_1).f0))).setCell ⟨gb195, 1, none⟩ (.int .i64 ((rd_T37 l0 x31_1).f1)))) ?hg ?ho ?hn ?hr ?_; (case ho => rfl); (case hg => rfl); (case hn => rfl); (case hr => first | (go_simp; done) | (go_simp; rfl)); intro w51 hw; have n0_ : Aside0 (Kd.R (Kd.int .i64) 2 w51 w.heap.size (fun _ => True) v192 x9_1) := ⟨(by rw [hw]; exact (Kd.pR (Kd.R_mono (Kd.R_far (p := ⟨gb195, 1, none⟩) (Kd.R_far (p := ⟨gb195, 0, none⟩) (Kd.R_types HO_9.out BK195.out (by decide)) (fun _ hk => hk.2) (.int .i64 ((rd_T37 l0 x31_1).f0))) (fun _ hk => hk.2) (.int .i64 ((rd_T37 l0 x31_1).f1))) (fun _ hk => trivial))))⟩; have n1_ : Aside0 (w51.heap[gb190]? = some (.cells #[.int .i64 t187, .int .i64 t188] 26 (0, 0))) := ⟨(by rw [hw]; exact (by (with_reducible repeat (first | refine blk_drewN ?_ _ | refine blk_drew ?_ | refine blk_alloc ?_ _)); refine blk_far ?_ NB190_195.out _; (with_reducible repeat (first | refine blk_drewN ?_ _ | refine blk_drew ?_ | refine blk_alloc ?_ _)); refine blk_far ?_ NB190_195.out _; (with_reducible repeat (first | refine blk_drewN ?_ _ | refine blk_drew ?_ | refine blk_alloc ?_ _)); exact BK190.out))⟩; have n2_ : Aside0 (w51.heap[gb195]? = some (.cells #[.int .i64 ((rd_T37 l0 x31_1).f0), .int .i64 ((rd_T37 l0 x31_1).f1)] 37 (0, 0))) := ⟨(by rw [hw]; exact (by (with_reducible repeat (first | refine blk_drewN ?_ _ | refine blk_drew ?_ | refine blk_alloc ?_ _)); refine blk_put (cs := #[.int .i64 ((rd_T37 l0 x31_1).f0), .int .i64 0]) ?_ 1 _ rfl; (with_reducible repeat (first | refine blk_drewN ?_ _ | refine blk_drew ?_ | refine blk_alloc ?_ _)); refine blk_put (cs := #[.int .i64 0, .int .i64 0]) ?_ 0 _ rfl; (with_reducible repeat (first | refine blk_drewN ?_ _ | refine blk_drew ?_ | refine blk_alloc ?_ _)); exact BK195.out))⟩; have n3_ : Aside0 (Below w.heap.size w w51) := ⟨(by rw [hw]; exact (pB HB.out))⟩; clear hw; clear HO_9; clear BK190; clear BK195; clear HB; have HO_9 := n0_; have BK190 := n1_; have BK195 := n2_; have HB := n3_; clear n0_ n1_ n2_ n3_; obtain ⟨hcz52_0, hcz52_1, hfz52_0, hfz52_1⟩ := bk2 BK195.out; have p18 : 0 ≤ (x31_1 : Int) := od; have q18 : (x31_1 : Int) < ((x9_1.length : Int) : Int) := od; obtain ⟨go18, co18, eo18, gb18, gl18, cl18, HG18⟩ := Kd.R_form HO_9.out (by omega); (first | cases eo18 | (injection eo18 with ea_ en_ ec_; (first | subst ea_ | (injection ea_ with ea_; subst ea_)); subst ec_; clear en_)); have GB18 := Aside0.mk gb18; have GG18 := Aside0.mk HG18; clear gb18 gl18 HG18; obtain ⟨hx18_0, hf18_0⟩ := Kd.R_celln 0 HO_9.out (x31_1 : Int) p18 q18; replace p18 := eq_true p18; replace q18 := eq_true q18; obtain ⟨hy53_, hz53_⟩ := Kd.R_celln 0 HO_9.out (x31_1 : Int) od od; have HP53 := Kd.R_putg HO_9.out (x31_1 : Int) ((rd_T37 l0 x31_1).f0)) | ((with_reducible refine gate_store (t := 2) (p := 40) rfl ?_); refine store_event (t := 2) (p := 40) (v := ?vo_w54) (w1 := (w51.setCell ⟨go18, (x31_1 : Int).toNat, none⟩ (.int .i64 ((rd_T37 l0 x31_1).f0)))) ?hg ?ho ?hn ?hr ?_; (case ho => rfl); (case hg => rfl); (case hn => rfl); (case hr => first | (go_simp; done) | (go_simp; rfl)); intro w54 hw; have hg : w51.grownBy w54 (some go18) := (by rw [hw]; exact HP53.2); have hp_ : Kd.R (Kd.int .i64) 2 w54 w.heap.size (fun _ => True) (.slice (some ⟨go18, 0, none⟩) x9_1.length co18) y196 := (by rw [hw, Ny196.out]; exact HP53.1); (try clear HP53); have n0_ := Aside0.mk (hp_); have n1_ := Aside0.mk (blk_grown (pK BK190.out) hg (Kd.R_ne HO_9.out BK190.out (by decide))); have n3_ := Aside0.mk ((by rw [hw]; exact below_set (HB.out) GB18.out : Below w.heap.size w w54)); clear HO_9; clear BK190; (try clear BK195); clear HB; have HO_9 := n0_; have BK190 := n1_; have HB := n3_; clear n0_ n1_ n3_; clear hg hw hp_; have p201 : 0 ≤ (x31_1 : Int) := od; have q201 : x31_1 < (y196.length : Int) := (by have h_ : (x31_1 : Int) < ((x9_1.length : Int) : Int) := od; first | (have e_ := (Kd.R_reads' HO_9.out).1; omega) | simpa only [Ny196.out, List.length_set] using h_); have ql201 : ((x31_1 : Int) < ((x9_1.length : Int) : Int)) = True := eq_true od; obtain ⟨ad201, e201, hx201_0⟩ := Kd.at_int (Kd.R_reads' HO_9.out).2.2 x31_1 p201 q201; obtain rfl : (⟨go18, 0, none⟩ : Addr) = ad201 := (by injection e201); (first | simp only [add_plain] at hx201_0 | simp only [add_at] at hx201_0 | simp only [Addr.add, Nat.zero_add] at hx201_0 | skip); replace p201 := eq_true p201; replace q201 := eq_true q201))
                      go_roundg k1
                      case measure => have := HK1.out; omega
                      case rel => exact ⟨(wrap64 (x1_1 - (rd y196 x31_1))), (y196), (wrap64 (x31_1 + 1)), (by first | rfl | (simp; done) | (simp [*]; done)), (by first | rfl | (simp; done) | (simp [*]; done)), H', ⟨by have := HK1.out; omega⟩, ⟨Kd.pR HO_9.out⟩, ⟨pK BK190.out⟩, ⟨pB HB.out⟩⟩
                  · rw [if_neg c17] at H
                    exact absurd H (by simp)
                · rw [if_neg c16] at H
                  exact absurd H (by simp)
              · rw [if_neg c15] at H
                exact absurd H (by simp)
            · rw [if_neg c14] at H
              have c14b0 : decide (x31_1 < (l0.length : Int)) = false := decide_eq_false c14
              clear c14
              have H' := Aside0.mk H
              clear H
              go_wp2
              go_loopg [1, 67] k1 (fun kq v1 v67 w' => ∃ (x1_2 : Int) (x9_2 : List Int) (x67_2 : Int), v1 = .int .i64 x1_2 ∧ v67 = .int .i64 x67_2 ∧ Aside0 (share_Split.l1 kq x1_2 t189 x9_2 l0 (l0.length : Int) x67_2 t187 t188 = some (r1, r2)) ∧ Aside0 (kq ≤ k1) ∧ Aside0 (Kd.R (Kd.int .i64) 2 w' w.heap.size (fun _ => True) v192 x9_2) ∧ Aside0 (w'.heap[gb190]? = some (.cells #[.int .i64 t187, .int .i64 t188] 26 (0, 0))) ∧ Aside0 (Below w.heap.size w w'))
              case atStart => exact ⟨(x1_1), (x9_1), (0), (by first | rfl | (simp; done) | (simp [*]; done)), (by first | rfl | (simp; done) | (simp [*]; done)), H', ⟨Nat.le_refl _⟩, ⟨Kd.pR HO_9.out⟩, ⟨pK BK190.out⟩, ⟨pB HB.out⟩⟩
              case round =>
                clear H'
                try clear c1
                try clear p1
                try clear q1
                try clear hx1
                try clear c2
                try clear p2
                try clear q2
                try clear hx2
                try clear hf2
                try clear c3
                try clear c4
                try clear c4b0
                try clear c4b1
                try clear c6
                try clear c6b0
                try clear c6b1
                try clear p6
                try clear c7
                try clear c7b0
                try clear c7b1
                try clear c13
                try clear c14
                try clear c14b0
                try clear c15
                try clear c15b0
                try clear c16
                try clear c16b0
                try clear c17
                try clear c17b0
                try clear p18
                try clear q18
                try clear hx18
                try clear hf18
                try clear c19
                try clear p19
                try clear q19
                try clear hx19
                try clear p20
                try clear q20
                try clear hx20
                try clear c21
                try clear c22
                try clear c22b0
                try clear c22b1
                try clear p23
                try clear q23
                try clear hx23
                try clear hf23
                try clear c25
                try clear c26
                try clear c39
                try clear c49
                try clear hcz11_0
                try clear hcz11_1
                try clear hcz26_0
                try clear hcz26_1
                try clear hcz28_0
                try clear hcz28_1
                try clear hcz31_0
                try clear hcz31_1
                try clear hcz32_0
                try clear hcz32_1
                try clear hcz34_0
                try clear hcz34_1
                try clear hcz35_0
                try clear hcz35_1
                try clear hcz40_0
                try clear hcz40_1
                try clear hcz42_0
                try clear hcz42_1
                try clear hcz45_0
                try clear hcz45_1
                try clear hcz46_0
                try clear hcz46_1
                try clear hcz50_0
                try clear hcz50_1
                try clear hcz52_0
                try clear hcz52_1
                try clear hfz11_0
                try clear hfz11_1
                try clear hfz26_0
                try clear hfz26_1
                try clear hfz28_0
                try clear hfz28_1
                try clear hfz31_0
                try clear hfz31_1
                try clear hfz32_0
                try clear hfz32_1
                try clear hfz34_0
                try clear hfz34_1
                try clear hfz35_0
                try clear hfz35_1
                try clear hfz40_0
                try clear hfz40_1
                try clear hfz42_0
                try clear hfz42_1
                try clear hfz45_0
                try clear hfz45_1
                try clear hfz46_0
                try clear hfz46_1
                try clear hfz50_0
                try clear hfz50_1
                try clear hfz52_0
                try clear hfz52_1
                try clear hx18_0
                try clear hx194_0
                try clear hx194_1
                try clear hx199_0
                try clear hx200_0
                try clear hx201_0
                try clear hx23_0
                try clear p18
                try clear p194
                try clear p199
                try clear p2
                try clear p200
                try clear p201
                try clear p23
                try clear q18
                try clear q194
                try clear q199
                try clear q200
                try clear q201
                try clear q23
                obtain ⟨x1_2, x9_2, x67_2, rfl, rfl, HA, HK2, HO_9, BK190, HB⟩ := hrel
                cases gk with
                | zero => exact absurd HA.out (by simp [share_Split.l1])
                | succ k2 =>
                  have H := HA.out
                  (try clear HA)
                  simp only [share_Split.l1] at H
                  by_cases c55 : x67_2 < (l0.length : Int)
                  · rw [if_pos c55] at H
                    have c55b0 : decide (x67_2 < (l0.length : Int)) = true := decide_eq_true c55
                    clear c55
                    by_cases c56 : 0 ≤ x67_2
                    · rw [if_pos c56] at H
                      have c56b0 : decide (0 ≤ x67_2) = true := decide_eq_true c56
                      clear c56
                      by_cases c57 : x67_2 < (l0.length : Int)
                      · rw [if_pos c57] at H
                        have c57b0 : decide (x67_2 < (l0.length : Int)) = true := decide_eq_true c57
                        clear c57
                        by_cases c58 : t189 = true
                        · subst c58
                          have H1 : (if x1_2 > 0 then ((share_isShort.f ((rd_T37 l0 x67_2).f0) ((rd_T37 l0 x67_2).f1) t187 t188).bind fun t204 => (if t204 = true then (if x67_2 < (x9_2.length : Int) then (share_Split.l1 k2 (wrap64 (x1_2 - 1)) true (x9_2.set (x67_2 : Int).toNat (wrap64 ((rd x9_2 x67_2) + 1))) l0 (l0.length : Int) (wrap64 (x67_2 + 1)) t187 t188) else (none)) else (share_Split.l1 k2 x1_2 true x9_2 l0 (l0.length : Int) (wrap64 (x67_2 + 1)) t187 t188))) else (share_Split.l1 k2 x1_2 true x9_2 l0 (l0.length : Int) (wrap64 (x67_2 + 1)) t187 t188)) = some (r1, r2) := by rw [if_pos rfl] at H; exact H
                          clear H
                          have H := H1
                          clear H1
                          by_cases c59 : x1_2 > 0
                          · rw [if_pos c59] at H
                            have c59b0 : decide (0 < x1_2) = true := decide_eq_true c59
                            clear c59
                            replace H := Option.bind_eq_some_iff.mp H
                            obtain ⟨t204, A600, H⟩ := H
                            replace H : (if t204 = true then (if x67_2 < (x9_2.length : Int) then (share_Split.l1 k2 (wrap64 (x1_2 - 1)) true (x9_2.set (x67_2 : Int).toNat (wrap64 ((rd x9_2 x67_2) + 1))) l0 (l0.length : Int) (wrap64 (x67_2 + 1)) t187 t188) else (none)) else (share_Split.l1 k2 x1_2 true x9_2 l0 (l0.length : Int) (wrap64 (x67_2 + 1)) t187 t188)) = some (r1, r2) := H
                            have A60 := Aside0.mk A600
                            (try clear A600)
                            by_cases c61 : t204 = true
                            · subst c61
                              have H1 : (if x67_2 < (x9_2.length : Int) then (share_Split.l1 k2 (wrap64 (x1_2 - 1)) true (x9_2.set (x67_2 : Int).toNat (wrap64 ((rd x9_2 x67_2) + 1))) l0 (l0.length : Int) (wrap64 (x67_2 + 1)) t187 t188) else (none)) = some (r1, r2) := by rw [if_pos rfl] at H; exact H
                              clear H
                              have H := H1
                              clear H1
                              by_cases c62 : x67_2 < (x9_2.length : Int)
                              · rw [if_pos c62] at H
                                have c62b0 : decide (x67_2 < (x9_2.length : Int)) = true := decide_eq_true c62
                                clear c62
                                obtain ⟨y206, hy206⟩ : ∃ y_ : List Int, y_ = (x9_2.set (x67_2 : Int).toNat (wrap64 ((rd x9_2 x67_2) + 1))) := ⟨_, rfl⟩
                                replace H : (share_Split.l1 k2 (wrap64 (x1_2 - 1)) true y206 l0 (l0.length : Int) (wrap64 (x67_2 + 1)) t187 t188) = some (r1, r2) := by first | (rw [hy206]; with_reducible exact H) | (have H2_ := (Option.bind_some _ _).symm.trans H; rw [hy206]; with_reducible exact H2_) | (have H2_ := (Option.bind_some _ _).symm.trans H; with_reducible exact H2_) | with_reducible exact H | (rw [hy206]; exact H) | exact H
                                have Ny206 := Aside0.mk hy206
                                (try clear hy206)
                                have H' := Aside0.mk H
                                clear H
                                have p202 : 0 ≤ (x67_2 : Int) := od
                                have q202 : x67_2 < (l0.length : Int) := od
                                obtain ⟨ad202, e202, hx202_0, hx202_1⟩ := at_T37 HR0.out x67_2 p202 q202
                                cases e202
                                replace hx202_0 := (HB.out.cell (World.block_lt_of_cell? w _ hx202_0)).trans hx202_0
                                replace hx202_1 := (HB.out.cell (World.block_lt_of_cell? w _ hx202_1)).trans hx202_1
                                replace p202 := eq_true p202
                                replace q202 := eq_true q202
                                go_wp2_with (first | ((with_reducible refine gate_dst (N := 13) rfl ?_); refine boxE (N := 13) (cs := #[.int .i64 0, .int .i64 0]) (t := 37) ?_; intro gb203 hg w64 hbox hb; have n0_ := Aside0.mk (Kd.R_below (Kd.pR HO_9.out) hb); have n1_ := Aside0.mk (blk_below (pK BK190.out) hb); have n2_ := Aside0.mk (below_step (pB HB.out) hb); have n3_ := Aside0.mk (hbox); have n5_ := Aside0.mk (pL HB.out hg); have n6_ := Aside0.mk (pNl BK190.out hg); have n7_ := Aside0.mk (pNg BK190.out hg); clear HO_9; clear BK190; clear HB; have HO_9 := n0_; have BK190 := n1_; have HB := n2_; have BK203 := n3_; have GE203 := n5_; have NB190_203 := n6_; have NB203_190 := n7_; clear n0_ n1_ n2_ n3_ n5_ n6_ n7_; clear hb hbox hg; have hnb65 := NB203_190.out; have hnc65 := NB190_203.out; obtain ⟨hcz66_0, hcz66_1, hfz66_0, hfz66_1⟩ := bk2 BK203.out; obtain ⟨hcz67_0, hcz67_1, hfz67_0, hfz67_1⟩ := bk2 BK190.out) | (go_at_call 27; (with_reducible refine (share_isShort.calls ((rd_T37 l0 x67_2).f0) ((rd_T37 l0 x67_2).f1) t187 t188 true _ A60.out).mono ?_); rintro e w68 ⟨rfl, hb⟩; have n0_ := Aside0.mk (Kd.R_below (Kd.pR ((Kd.R_mono (Kd.R_far (p := ⟨gb203, 1, none⟩) (Kd.R_far (p := ⟨gb203, 0, none⟩) (Kd.R_types HO_9.out BK203.out (by decide)) (fun _ hk => hk.2) (.int .i64 ((rd_T37 l0 x67_2).f0))) (fun _ hk => hk.2) (.int .i64 ((rd_T37 l0 x67_2).f1))) (fun _ h_ => h_.1)))) hb); have n1_ := Aside0.mk (blk_below (g := gb190) (o := .cells #[.int .i64 t187, .int .i64 t188] 26 (0, 0)) (by (with_reducible repeat (first | refine blk_drewN ?_ _ | refine blk_drew ?_ | refine blk_alloc ?_ _)); refine blk_far ?_ NB190_203.out _; (with_reducible repeat (first | refine blk_drewN ?_ _ | refine blk_drew ?_ | refine blk_alloc ?_ _)); refine blk_far ?_ NB190_203.out _; (with_reducible repeat (first | refine blk_drewN ?_ _ | refine blk_drew ?_ | refine blk_alloc ?_ _)); exact BK190.out) hb); have n3_ := Aside0.mk (below_step (pB HB.out) hb); clear HO_9; clear BK190; (try clear BK203); clear HB; have HO_9 := n0_; have BK190 := n1_; have HB := n3_; clear n0_ n1_ n3_; (try clear hb); (try clear hb2); (try clear hk); (try clear hi); obtain ⟨Ao69, co69, eo69⟩ := Kd.R_slice HO_9.out; subst eo69; have p205 : 0 ≤ (x67_2 : Int) := od; have q205 : x67_2 < (x9_2.length : Int) := od; obtain ⟨ad205, e205, hx205_0⟩ := Kd.at_int (Kd.R_reads' HO_9.out).2.2 x67_2 p205 q205; cases e205; replace p205 := eq_true p205; replace q205 := eq_true q205; have p63 : 0 ≤ (x67_2 : Int) := od; have q63 : (x67_2 : Int) < ((x9_2.length : Int) : Int) := od; obtain ⟨go63, co63, eo63, gb63, gl63, cl63, HG63⟩ := Kd.R_form HO_9.out (by omega); (first | cases eo63 | (injection eo63 with ea_ en_ ec_; (first | subst ea_ | (injection ea_ with ea_; subst ea_)); subst ec_; clear en_)); have GB63 := Aside0.mk gb63; have GG63 := Aside0.mk HG63; clear gb63 gl63 HG63; (first | simp only [add_plain] at hx205_0 | skip); obtain ⟨hx63_0, hf63_0⟩ := Kd.R_celln 0 HO_9.out (x67_2 : Int) p63 q63; replace p63 := eq_true p63; replace q63 := eq_true q63; obtain ⟨hy70_, hz70_⟩ := Kd.R_celln 0 HO_9.out (x67_2 : Int) od od; have HP70 := Kd.R_putg HO_9.out (x67_2 : Int) (wrap64 ((rd x9_2 x67_2) + 1))) | ((with_reducible refine gate_store (t := 2) (p := 87) rfl ?_); refine store_event (t := 2) (p := 87) (v := ?vo_w71) (w1 := (w68.setCell ⟨go63, (x67_2 : Int).toNat, none⟩ (.int .i64 (wrap64 ((rd x9_2 x67_2) + 1))))) ?hg ?ho ?hn ?hr ?_; (case ho => rfl); (case hg => rfl); (case hn => rfl); (case hr => first | (go_simp; done) | (go_simp; rfl)); intro w71 hw; have hg : w68.grownBy w71 (some go63) := (by rw [hw]; exact HP70.2); have hp_ : Kd.R (Kd.int .i64) 2 w71 w.heap.size (fun _ => True) (.slice (some ⟨go63, 0, none⟩) x9_2.length co69) y206 := (by rw [hw, Ny206.out]; exact HP70.1); (try clear HP70); have n0_ := Aside0.mk (hp_); have n1_ := Aside0.mk (blk_grown (pK BK190.out) hg (Kd.R_ne HO_9.out BK190.out (by decide))); have n3_ := Aside0.mk ((by rw [hw]; exact below_set (HB.out) GB63.out : Below w.heap.size w w71)); clear HO_9; clear BK190; (try clear BK203); clear HB; have HO_9 := n0_; have BK190 := n1_; have HB := n3_; clear n0_ n1_ n3_; clear hg hw hp_))
                                go_roundg k2
                                case measure => have := HK1.out; have := HK2.out; omega
                                case rel => exact ⟨(wrap64 (x1_2 - 1)), (y206), (wrap64 (x67_2 + 1)), (by first | rfl | (simp; done) | (simp [*]; done)), (by first | rfl | (simp; done) | (simp [*]; done)), H', ⟨by have := HK1.out; have := HK2.out; omega⟩, ⟨Kd.pR HO_9.out⟩, ⟨pK BK190.out⟩, ⟨pB HB.out⟩⟩
                              · rw [if_neg c62] at H
                                exact absurd H (by simp)
                            · replace c61 := Bool.eq_false_iff.mpr c61
                              subst c61
                              have H1 : (share_Split.l1 k2 x1_2 true x9_2 l0 (l0.length : Int) (wrap64 (x67_2 + 1)) t187 t188) = some (r1, r2) := by rw [if_neg (show ¬ (false = true) by decide)] at H; exact H
                              clear H
                              have H := H1
                              clear H1
                              have H' := Aside0.mk H
                              clear H
                              have p202 : 0 ≤ (x67_2 : Int) := od
                              have q202 : x67_2 < (l0.length : Int) := od
                              obtain ⟨ad202, e202, hx202_0, hx202_1⟩ := at_T37 HR0.out x67_2 p202 q202
                              cases e202
                              replace hx202_0 := (HB.out.cell (World.block_lt_of_cell? w _ hx202_0)).trans hx202_0
                              replace hx202_1 := (HB.out.cell (World.block_lt_of_cell? w _ hx202_1)).trans hx202_1
                              replace p202 := eq_true p202
                              replace q202 := eq_true q202
                              go_wp2_with (first | ((with_reducible refine gate_dst (N := 13) rfl ?_); refine boxE (N := 13) (cs := #[.int .i64 0, .int .i64 0]) (t := 37) ?_; intro gb203 hg w72 hbox hb; have n0_ := Aside0.mk (Kd.R_below (Kd.pR HO_9.out) hb); have n1_ := Aside0.mk (blk_below (pK BK190.out) hb); have n2_ := Aside0.mk (below_step (pB HB.out) hb); have n3_ := Aside0.mk (hbox); have n5_ := Aside0.mk (pL HB.out hg); have n6_ := Aside0.mk (pNl BK190.out hg); have n7_ := Aside0.mk (pNg BK190.out hg); clear HO_9; clear BK190; clear HB; have HO_9 := n0_; have BK190 := n1_; have HB := n2_; have BK203 := n3_; have GE203 := n5_; have NB190_203 := n6_; have NB203_190 := n7_; clear n0_ n1_ n2_ n3_ n5_ n6_ n7_; clear hb hbox hg; have hnb73 := NB203_190.out; have hnc73 := NB190_203.out; obtain ⟨hcz74_0, hcz74_1, hfz74_0, hfz74_1⟩ := bk2 BK203.out; obtain ⟨hcz75_0, hcz75_1, hfz75_0, hfz75_1⟩ := bk2 BK190.out) | (go_at_call 27; (with_reducible refine (share_isShort.calls ((rd_T37 l0 x67_2).f0) ((rd_T37 l0 x67_2).f1) t187 t188 false _ A60.out).mono ?_); rintro e w76 ⟨rfl, hb⟩; have n0_ := Aside0.mk (Kd.R_below (Kd.pR ((Kd.R_mono (Kd.R_far (p := ⟨gb203, 1, none⟩) (Kd.R_far (p := ⟨gb203, 0, none⟩) (Kd.R_types HO_9.out BK203.out (by decide)) (fun _ hk => hk.2) (.int .i64 ((rd_T37 l0 x67_2).f0))) (fun _ hk => hk.2) (.int .i64 ((rd_T37 l0 x67_2).f1))) (fun _ h_ => h_.1)))) hb); have n1_ := Aside0.mk (blk_below (g := gb190) (o := .cells #[.int .i64 t187, .int .i64 t188] 26 (0, 0)) (by (with_reducible repeat (first | refine blk_drewN ?_ _ | refine blk_drew ?_ | refine blk_alloc ?_ _)); refine blk_far ?_ NB190_203.out _; (with_reducible repeat (first | refine blk_drewN ?_ _ | refine blk_drew ?_ | refine blk_alloc ?_ _)); refine blk_far ?_ NB190_203.out _; (with_reducible repeat (first | refine blk_drewN ?_ _ | refine blk_drew ?_ | refine blk_alloc ?_ _)); exact BK190.out) hb); have n3_ := Aside0.mk (below_step (pB HB.out) hb); clear HO_9; clear BK190; (try clear BK203); clear HB; have HO_9 := n0_; have BK190 := n1_; have HB := n3_; clear n0_ n1_ n3_; (try clear hb); (try clear hb2); (try clear hk); (try clear hi)))
                              go_roundg k2
                              case measure => have := HK1.out; have := HK2.out; omega
                              case rel => exact ⟨(x1_2), (x9_2), (wrap64 (x67_2 + 1)), (by first | rfl | (simp; done) | (simp [*]; done)), (by first | rfl | (simp; done) | (simp [*]; done)), H', ⟨by have := HK1.out; have := HK2.out; omega⟩, ⟨Kd.pR HO_9.out⟩, ⟨pK BK190.out⟩, ⟨pB HB.out⟩⟩
                          · rw [if_neg c59] at H
                            have c59b0 : decide (0 < x1_2) = false := decide_eq_false c59
                            (try clear c59)
                            have H' := Aside0.mk H
                            clear H
                            have p202 : 0 ≤ (x67_2 : Int) := od
                            have q202 : x67_2 < (l0.length : Int) := od
                            obtain ⟨ad202, e202, hx202_0, hx202_1⟩ := at_T37 HR0.out x67_2 p202 q202
                            cases e202
                            replace hx202_0 := (HB.out.cell (World.block_lt_of_cell? w _ hx202_0)).trans hx202_0
                            replace hx202_1 := (HB.out.cell (World.block_lt_of_cell? w _ hx202_1)).trans hx202_1
                            replace p202 := eq_true p202
                            replace q202 := eq_true q202
                            go_wp2_with (first | ((with_reducible refine gate_dst (N := 13) rfl ?_); refine boxE (N := 13) (cs := #[.int .i64 0, .int .i64 0]) (t := 37) ?_; intro gb203 hg w77 hbox hb; have n0_ := Aside0.mk (Kd.R_below (Kd.pR HO_9.out) hb); have n1_ := Aside0.mk (blk_below (pK BK190.out) hb); have n2_ := Aside0.mk (below_step (pB HB.out) hb); have n3_ := Aside0.mk (hbox); have n5_ := Aside0.mk (pL HB.out hg); have n6_ := Aside0.mk (pNl BK190.out hg); have n7_ := Aside0.mk (pNg BK190.out hg); clear HO_9; clear BK190; clear HB; have HO_9 := n0_; have BK190 := n1_; have HB := n2_; have BK203 := n3_; have GE203 := n5_; have NB190_203 := n6_; have NB203_190 := n7_; clear n0_ n1_ n2_ n3_ n5_ n6_ n7_; clear hb hbox hg; have hnb78 := NB203_190.out; have hnc78 := NB190_203.out; obtain ⟨hcz79_0, hcz79_1, hfz79_0, hfz79_1⟩ := bk2 BK203.out))
                            go_roundg k2
                            case measure => have := HK1.out; have := HK2.out; omega
                            case rel => exact ⟨(x1_2), (x9_2), (wrap64 (x67_2 + 1)), (by first | rfl | (simp; done) | (simp [*]; done)), (by first | rfl | (simp; done) | (simp [*]; done)), H', ⟨by have := HK1.out; have := HK2.out; omega⟩, ⟨Kd.pR (Kd.R_mono (Kd.R_far (p := ⟨gb203, 1, none⟩) (Kd.R_far (p := ⟨gb203, 0, none⟩) (Kd.R_types HO_9.out BK203.out (by decide)) (fun _ hk => hk.2) (.int .i64 ((rd_T37 l0 x67_2).f0))) (fun _ hk => hk.2) (.int .i64 ((rd_T37 l0 x67_2).f1))) (fun _ hk => trivial))⟩, ⟨by (with_reducible repeat (first | refine blk_drewN ?_ _ | refine blk_drew ?_ | refine blk_alloc ?_ _)); refine blk_far ?_ NB190_203.out _; (with_reducible repeat (first | refine blk_drewN ?_ _ | refine blk_drew ?_ | refine blk_alloc ?_ _)); refine blk_far ?_ NB190_203.out _; (with_reducible repeat (first | refine blk_drewN ?_ _ | refine blk_drew ?_ | refine blk_alloc ?_ _)); exact BK190.out⟩, ⟨pB HB.out⟩⟩
                        · replace c58 := Bool.eq_false_iff.mpr c58
                          subst c58
                          have H1 : (share_Split.l1 k2 x1_2 false x9_2 l0 (l0.length : Int) (wrap64 (x67_2 + 1)) t187 t188) = some (r1, r2) := by rw [if_neg (show ¬ (false = true) by decide)] at H; exact H
                          clear H
                          have H := H1
                          (try clear H1)
                          have H' := Aside0.mk H
                          clear H
                          have p202 : 0 ≤ (x67_2 : Int) := od
                          have q202 : x67_2 < (l0.length : Int) := od
                          obtain ⟨ad202, e202, hx202_0, hx202_1⟩ := at_T37 HR0.out x67_2 p202 q202
                          cases e202
                          replace hx202_0 := (HB.out.cell (World.block_lt_of_cell? w _ hx202_0)).trans hx202_0
                          replace hx202_1 := (HB.out.cell (World.block_lt_of_cell? w _ hx202_1)).trans hx202_1
                          replace p202 := eq_true p202
                          replace q202 := eq_true q202
                          go_wp2_with (first | ((with_reducible refine gate_dst (N := 13) rfl ?_); refine boxE (N := 13) (cs := #[.int .i64 0, .int .i64 0]) (t := 37) ?_; intro gb203 hg w80 hbox hb; have n0_ := Aside0.mk (Kd.R_below (Kd.pR HO_9.out) hb); have n1_ := Aside0.mk (blk_below (pK BK190.out) hb); have n2_ := Aside0.mk (below_step (pB HB.out) hb); have n3_ := Aside0.mk (hbox); have n5_ := Aside0.mk (pL HB.out hg); have n6_ := Aside0.mk (pNl BK190.out hg); have n7_ := Aside0.mk (pNg BK190.out hg); clear HO_9; clear BK190; clear HB; have HO_9 := n0_; have BK190 := n1_; have HB := n2_; have BK203 := n3_; have GE203 := n5_; have NB190_203 := n6_; have NB203_190 := n7_; clear n0_ n1_ n2_ n3_ n5_ n6_ n7_; clear hb hbox hg; have hnb81 := NB203_190.out; have hnc81 := NB190_203.out; obtain ⟨hcz82_0, hcz82_1, hfz82_0, hfz82_1⟩ := bk2 BK203.out))
                          go_roundg k2
                          case measure => have := HK1.out; have := HK2.out; omega
                          case rel => exact ⟨(x1_2), (x9_2), (wrap64 (x67_2 + 1)), (by first | rfl | (simp; done) | (simp [*]; done)), (by first | rfl | (simp; done) | (simp [*]; done)), H', ⟨by have := HK1.out; have := HK2.out; omega⟩, ⟨Kd.pR (Kd.R_mono (Kd.R_far (p := ⟨gb203, 1, none⟩) (Kd.R_far (p := ⟨gb203, 0, none⟩) (Kd.R_types HO_9.out BK203.out (by decide)) (fun _ hk => hk.2) (.int .i64 ((rd_T37 l0 x67_2).f0))) (fun _ hk => hk.2) (.int .i64 ((rd_T37 l0 x67_2).f1))) (fun _ hk => trivial))⟩, ⟨by (with_reducible repeat (first | refine blk_drewN ?_ _ | refine blk_drew ?_ | refine blk_alloc ?_ _)); refine blk_far ?_ NB190_203.out _; (with_reducible repeat (first | refine blk_drewN ?_ _ | refine blk_drew ?_ | refine blk_alloc ?_ _)); refine blk_far ?_ NB190_203.out _; (with_reducible repeat (first | refine blk_drewN ?_ _ | refine blk_drew ?_ | refine blk_alloc ?_ _)); exact BK190.out⟩, ⟨pB HB.out⟩⟩
                      · rw [if_neg c57] at H
                        exact absurd H (by simp)
                    · rw [if_neg c56] at H
                      exact absurd H (by simp)
                  · rw [if_neg c55] at H
                    have c55b0 : decide (x67_2 < (l0.length : Int)) = false := decide_eq_false c55
                    (try clear c55)
                    simp only [Option.some.injEq, Prod.mk.injEq] at H
                    obtain ⟨rfl, rfl⟩ := H
                    go_wp2
                    go_ret2
                    exact ⟨_, by first | rfl | (simp [errW_none, errW_some] <;> rfl) | (simp [*, errW_none, errW_some] <;> rfl), Kd.pR HO_9.out, pB HB.out⟩
      · rw [if_neg c7] at H
        exact absurd H (by simp)
    · rw [if_neg c6] at H
      exact absurd H (by simp)
  · rw [if_neg c4] at H
    have c4b0 : (t186 == 0) = false := beq_eq_false_iff_ne.mpr c4
    have c4b1 : (t186 != 0) = true := bne_iff_ne.mpr c4
    simp only [Option.some.injEq, Prod.mk.injEq] at H
    obtain ⟨rfl, rfl⟩ := H
    go_enter Try.func13, Try.ntmps13
    go_wp2_with (first | ((with_reducible refine gate_callee (f := 25) rfl ?_); refine goesE (some 16) rfl rfl Try.func25 (by kernel_rfl) rfl #[.slice A0 l0.length c0, .int .i64 a1] rfl ?_; (with_reducible refine (share_asked.calls k _ _ l0 a1 t186 _ ?side1 ?side2 A3.out).mono ?_); (case side1 => exact Kd.pC HR0.out); (case side2 => exact HC0.out); rintro e w83 ⟨rfl, hb⟩; refine ⟨_, rfl, ?_⟩; have n0_ := Aside0.mk (below_step (pB HB.out) hb); clear HB; have HB := n0_; clear n0_; (try clear hb); (try clear hb2); (try clear hk); (try clear hi)))
    go_ret2
    exact ⟨_, by first | rfl | (simp [errW_none, errW_some] <;> rfl) | (simp [*, errW_none, errW_some] <;> rfl), by first | exact Kd.R_nil _ _ _ _ _ | exact Kd.N_nil _ _ _ _ _ | exact Kd.V_nil _ _ _ _ _ | exact Kd.Q_nil _ _ _ _ _ | exact Kd.S_nil _ _ _ _ _, pB HB.out⟩

end Go.Proofs.Yteeceppbnkkfpaa.PShare
