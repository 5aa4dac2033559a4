-- printed by a program of this session (a turned copy of the kit's print); Lean checks it
import Derived.Test.YteeceppbnkkfpaaPSharex0
import Derived.Test.YteeceppbnkkfpaaPSharex4
import Derived.Test.YteeceppbnkkfpaaPSharex11
import Derived.Test.YteeceppbnkkfpaaPSharex12
namespace Go.Proofs.Yteeceppbnkkfpaa.PShare
open Go.RowKit Go.Proofs.YteeceppbnkkfpaaW.PrintWords Go.Proofs.YteeceppbnkkfpaaW.PrintLast Go.Proofs.YteeceppbnkkfpaaW.PrintMore
attribute [local go_sem] max2_int min2_int max_two min_two max_three min_three max_four min_four   -- for this text's walks alone
set_option linter.unusedVariables false
set_option linter.unusedSimpArgs false

/-! ### share_Short: function 12 -/
def share_Short.l0 : Nat → Bool → List Int → List (S37) → Int → Int → Int → Int → Option (List Int × Int)
  | 0, _, _, _, _, _, _, _ => none
  | k + 1, x8, x9, x24, x25, x26, x175000, x175001 => if x26 < x25 then (if 0 ≤ x26 then (if x26 < (x24.length : Int) then (if x8 = true then ((share_isShort.f ((rd_T37 x24 x26).f0) ((rd_T37 x24 x26).f1) x175000 x175001).bind fun t177 => (if t177 = true then (if x9.length < 17592186044416 then (share_Short.l0 k x8 (x9 ++ [x26]) x24 x25 (wrap64 (x26 + 1)) x175000 x175001) else (none)) else (share_Short.l0 k x8 x9 x24 x25 (wrap64 (x26 + 1)) x175000 x175001))) else (share_Short.l0 k x8 x9 x24 x25 (wrap64 (x26 + 1)) x175000 x175001)) else (none)) else (none)) else (some (x9, 0))
def share_Short.f (k : Nat) (l0 : List (S37)) (a1 : Int) : Option (List Int × Int) := (share_asked.f k l0 a1).bind fun t170 => (if t170 = 0 then ((share_level.f k l0 a1).bind fun bt171 => (share_Short.l0 k bt171.2.2 ([] : List Int) l0 (l0.length : Int) 0 bt171.1 bt171.2.1)) else (some (([] : List Int), t170)))
theorem share_Short.mono_l : ∀ k, (∀ y0 y1 y2 y3 y4 y5 y6, LeO (share_Short.l0 k y0 y1 y2 y3 y4 y5 y6) (share_Short.l0 (k + 1) y0 y1 y2 y3 y4 y5 y6))
  | 0 => fun _ _ _ _ _ _ _ r h => by simp [share_Short.l0] at h
  | k + 1 => by
    have ih0 := share_Short.mono_l k
    · intro y0 y1 y2 y3 y4 y5 y6
      unfold share_Short.l0
      repeat' first
      | (with_reducible exact ih0 _ _ _ _ _ _ _)
      | (with_reducible exact share_asked.mono _ _ _)
      | (with_reducible exact share_level.mono _ _ _)
      | (with_reducible exact LeO.refl _)
      | (with_reducible exact LeO.none _)
      | (with_reducible refine LeO.ite ?_ ?_)
      | (with_reducible refine LeO.bind ?_ (fun _ => ?_))
      | exact ih0 _ _ _ _ _ _ _
      | exact share_asked.mono _ _ _
      | exact share_level.mono _ _ _
      | exact LeO.none _
      | refine LeO.ite ?_ ?_
      | refine LeO.bind ?_ (fun _ => ?_)
theorem share_Short.mono : ∀ a0 a1 k, LeO (share_Short.f k a0 a1) (share_Short.f (k + 1) a0 a1) := by
  intro a0 a1 k
  have ih0 := share_Short.mono_l k
  unfold share_Short.f
  repeat' first
      | (with_reducible exact ih0 _ _ _ _ _ _ _)
      | (with_reducible exact share_asked.mono _ _ _)
      | (with_reducible exact share_level.mono _ _ _)
      | (with_reducible exact LeO.refl _)
      | (with_reducible exact LeO.none _)
      | (with_reducible refine LeO.ite ?_ ?_)
      | (with_reducible refine LeO.bind ?_ (fun _ => ?_))
      | exact ih0 _ _ _ _ _ _ _
      | exact share_asked.mono _ _ _
      | exact share_level.mono _ _ _
      | exact LeO.none _
      | refine LeO.ite ?_ ?_
      | refine LeO.bind ?_ (fun _ => ?_)
set_option maxHeartbeats 8000000 in
set_option maxRecDepth 100000 in
theorem share_Short.calls (k : Nat) (A0 : Option Addr) (c0 : Nat) (l0 : List (S37)) (a1 : Int) (r1 : List Int) (r2 : Int) (w : World) (hr0 : Kd.C k37 w A0 l0.length l0) (hc0 : l0.length ≤ c0) (h : share_Short.f k l0 a1 = some (r1, r2)) :
    Calls Try.prog 12 #[.slice A0 l0.length c0, .int .i64 a1] w fun e w' => ∃ v0_ : Value, e = .returned (.tuple #[v0_, .int .i64 r2]) ∧ Kd.R (Kd.int .i64) 3 w' w.heap.size (fun _ => True) v0_ r1 ∧ Below w.heap.size w w' := by
  have hu26 := Try.underlying26
  have hu37 := Try.underlying37
  have HR0 := Aside0.mk hr0
  have HC0 := Aside0.mk hc0
  clear hr0 hc0
  have HB := Aside0.mk (Below.refl w.heap.size w)
  have H : ((share_asked.f k l0 a1).bind fun t170 => (if t170 = 0 then ((share_level.f k l0 a1).bind fun bt171 => (share_Short.l0 k bt171.2.2 ([] : List Int) l0 (l0.length : Int) 0 bt171.1 bt171.2.1)) else (some (([] : List Int), t170)))) = some (r1, r2) := h
  (try clear h)
  replace H := Option.bind_eq_some_iff.mp H
  obtain ⟨t170, A30, H⟩ := H
  replace H : (if t170 = 0 then ((share_level.f k l0 a1).bind fun bt171 => (share_Short.l0 k bt171.2.2 ([] : List Int) l0 (l0.length : Int) 0 bt171.1 bt171.2.1)) else (some (([] : List Int), t170))) = some (r1, r2) := H
  have A3 := Aside0.mk A30
  (try clear A30)
  by_cases c4 : t170 = 0
  · rw [if_pos c4] at H
    have c4b0 : (t170 == 0) = true := beq_iff_eq.mpr c4
    have c4b1 : (t170 != 0) = false := bne_eq_false_iff_eq.mpr c4
    clear c4
    replace H := Option.bind_eq_some_iff.mp H
    obtain ⟨⟨t171, t172, t173⟩, A50, H⟩ := H
    replace H : (share_Short.l0 k t173 ([] : List Int) l0 (l0.length : Int) 0 t171 t172) = some (r1, r2) := H
    have A5 := Aside0.mk A50
    (try clear A50)
    have H' := Aside0.mk H
    clear H
    go_enter Try.func12, Try.ntmps12
    go_wp2_with (first | ((with_reducible refine gate_callee (f := 25) rfl ?_); refine goesE (some 14) rfl rfl Try.func25 (by kernel_rfl) rfl #[.slice A0 l0.length c0, .int .i64 a1] rfl ?_; (with_reducible refine (share_asked.calls k _ _ l0 a1 t170 _ ?side1 ?side2 A3.out).mono ?_); (case side1 => exact Kd.pC HR0.out); (case side2 => exact HC0.out); rintro e w6 ⟨rfl, hb⟩; refine ⟨_, rfl, ?_⟩; have n0_ := Aside0.mk (below_step (pB HB.out) hb); clear HB; have HB := n0_; clear n0_; (try clear hb); (try clear hb2); (try clear hk); (try clear hi)) | ((with_reducible refine gate_callee (f := 26) rfl ?_); refine goesE (some 21) rfl rfl Try.func26 (by kernel_rfl) rfl #[.slice A0 l0.length c0, .int .i64 a1] rfl ?_; (with_reducible refine (share_level.calls k _ _ l0 a1 t171 t172 t173 _ ?side1 ?side2 A5.out).mono ?_); (case side1 => exact Kd.pC ((Kd.C_below HR0.out HB.out))); (case side2 => exact HC0.out); rintro e w7 ⟨rfl, hb⟩; refine ⟨_, rfl, ?_⟩; have n0_ := Aside0.mk (below_step (pB HB.out) hb); clear HB; have HB := n0_; clear n0_; (try clear hb); (try clear hb2); (try clear hk); (try clear hi)) | ((with_reducible refine gate_dst (N := 7) rfl ?_); refine boxE (N := 7) (cs := #[.int .i64 0, .int .i64 0]) (t := 26) ?_; intro gb174 hg w8 hbox hb; have n0_ := Aside0.mk (below_step (pB HB.out) hb); have n1_ := Aside0.mk (hbox); have n3_ := Aside0.mk (pL HB.out hg); clear HB; have HB := n0_; have BK174 := n1_; have GE174 := n3_; clear n0_ n1_ n3_; clear hb hbox hg; obtain ⟨hcz9_0, hcz9_1, hfz9_0, hfz9_1⟩ := bk2 BK174.out))
    go_loopg [9, 26] k (fun kq v9 v26 w' => ∃ (x9_1 : List Int) (x26_1 : Int), v26 = .int .i64 x26_1 ∧ Aside0 (share_Short.l0 kq t173 x9_1 l0 (l0.length : Int) x26_1 t171 t172 = some (r1, r2)) ∧ Aside0 (kq ≤ k) ∧ Aside0 (Kd.R (Kd.int .i64) 3 w' w.heap.size (fun _ => True) v9 x9_1) ∧ Aside0 (w'.heap[gb174]? = some (.cells #[.int .i64 t171, .int .i64 t172] 26 (0, 0))) ∧ Aside0 (Below w.heap.size w w'))
    case atStart => exact ⟨(([] : List Int)), (0), (by first | rfl | (simp; done) | (simp [*]; done)), H', ⟨Nat.le_refl _⟩, ⟨by first | exact Kd.R_nil _ _ _ _ _ | exact Kd.N_nil _ _ _ _ _ | exact Kd.V_nil _ _ _ _ _ | exact Kd.Q_nil _ _ _ _ _ | exact Kd.S_nil _ _ _ _ _⟩, ⟨by (with_reducible repeat (first | refine blk_drewN ?_ _ | refine blk_drew ?_ | refine blk_alloc ?_ _)); refine blk_put (cs := #[.int .i64 t171, .int .i64 0]) ?_ 1 _ rfl; (with_reducible repeat (first | refine blk_drewN ?_ _ | refine blk_drew ?_ | refine blk_alloc ?_ _)); refine blk_put (cs := #[.int .i64 0, .int .i64 0]) ?_ 0 _ rfl; (with_reducible repeat (first | refine blk_drewN ?_ _ | refine blk_drew ?_ | refine blk_alloc ?_ _)); exact BK174.out⟩, ⟨pB HB.out⟩⟩
    case round =>
      clear H'
      try clear c1
      try clear c2
      try clear p2
      try clear c4
      try clear c4b0
      try clear c4b1
      try clear hcz9_0
      try clear hcz9_1
      try clear hfz9_0
      try clear hfz9_1
      obtain ⟨x9_1, x26_1, rfl, HA, HK1, HO_9, BK174, HB⟩ := hrel
      cases gk with
      | zero => exact absurd HA.out (by simp [share_Short.l0])
      | succ k1 =>
        have H := HA.out
        (try clear HA)
        simp only [share_Short.l0] at H
        by_cases c10 : x26_1 < (l0.length : Int)
        · rw [if_pos c10] at H
          have c10b0 : decide (x26_1 < (l0.length : Int)) = true := decide_eq_true c10
          clear c10
          by_cases c11 : 0 ≤ x26_1
          · rw [if_pos c11] at H
            have c11b0 : decide (0 ≤ x26_1) = true := decide_eq_true c11
            clear c11
            by_cases c12 : x26_1 < (l0.length : Int)
            · rw [if_pos c12] at H
              have c12b0 : decide (x26_1 < (l0.length : Int)) = true := decide_eq_true c12
              clear c12
              by_cases c13 : t173 = true
              · subst c13
                have H1 : ((share_isShort.f ((rd_T37 l0 x26_1).f0) ((rd_T37 l0 x26_1).f1) t171 t172).bind fun t177 => (if t177 = true then (if x9_1.length < 17592186044416 then (share_Short.l0 k1 true (x9_1 ++ [x26_1]) l0 (l0.length : Int) (wrap64 (x26_1 + 1)) t171 t172) else (none)) else (share_Short.l0 k1 true x9_1 l0 (l0.length : Int) (wrap64 (x26_1 + 1)) t171 t172))) = some (r1, r2) := by rw [if_pos rfl] at H; exact H
                clear H
                have H := H1
                clear H1
                replace H := Option.bind_eq_some_iff.mp H
                obtain ⟨t177, A140, H⟩ := H
                replace H : (if t177 = true then (if x9_1.length < 17592186044416 then (share_Short.l0 k1 true (x9_1 ++ [x26_1]) l0 (l0.length : Int) (wrap64 (x26_1 + 1)) t171 t172) else (none)) else (share_Short.l0 k1 true x9_1 l0 (l0.length : Int) (wrap64 (x26_1 + 1)) t171 t172)) = some (r1, r2) := H
                have A14 := Aside0.mk A140
                (try clear A140)
                by_cases c15 : t177 = true
                · subst c15
                  have H1 : (if x9_1.length < 17592186044416 then (share_Short.l0 k1 true (x9_1 ++ [x26_1]) l0 (l0.length : Int) (wrap64 (x26_1 + 1)) t171 t172) else (none)) = some (r1, r2) := by rw [if_pos rfl] at H; exact H
                  clear H
                  have H := H1
                  clear H1
                  by_cases c16 : x9_1.length < 17592186044416
                  · rw [if_pos c16] at H
                    have LMc16 := Aside0.mk c16
                    clear c16
                    obtain ⟨y178, hy178⟩ : ∃ y_ : List Int, y_ = (x9_1 ++ [x26_1]) := ⟨_, rfl⟩
                    replace H : (share_Short.l0 k1 true y178 l0 (l0.length : Int) (wrap64 (x26_1 + 1)) t171 t172) = some (r1, r2) := by first | (rw [hy178]; with_reducible exact H) | (have H2_ := (Option.bind_some _ _).symm.trans H; rw [hy178]; with_reducible exact H2_) | (have H2_ := (Option.bind_some _ _).symm.trans H; with_reducible exact H2_) | with_reducible exact H | (rw [hy178]; exact H) | exact H
                    have Ny178 := Aside0.mk hy178
                    (try clear hy178)
                    have H' := Aside0.mk H
                    clear H
                    have p175 : 0 ≤ (x26_1 : Int) := od
                    have q175 : x26_1 < (l0.length : Int) := od
                    obtain ⟨ad175, e175, hx175_0, hx175_1⟩ := at_T37 HR0.out x26_1 p175 q175
                    cases e175
                    replace hx175_0 := (HB.out.cell (World.block_lt_of_cell? w _ hx175_0)).trans hx175_0
                    replace hx175_1 := (HB.out.cell (World.block_lt_of_cell? w _ hx175_1)).trans hx175_1
                    replace p175 := eq_true p175
                    replace q175 := eq_true q175
                    go_wp2_with (first | ((with_reducible refine gate_dst (N := 11) rfl ?_); refine boxE (N := 11) (cs := #[.int .i64 0, .int .i64 0]) (t := 37) ?_; intro gb176 hg w17 hbox hb; have n0_ := Aside0.mk (Kd.R_below (Kd.pR HO_9.out) hb); have n1_ := Aside0.mk (blk_below (pK BK174.out) hb); have n2_ := Aside0.mk (below_step (pB HB.out) hb); have n3_ := Aside0.mk (hbox); have n5_ := Aside0.mk (pL HB.out hg); have n6_ := Aside0.mk (pNl BK174.out hg); have n7_ := Aside0.mk (pNg BK174.out hg); clear HO_9; clear BK174; clear HB; have HO_9 := n0_; have BK174 := n1_; have HB := n2_; have BK176 := n3_; have GE176 := n5_; have NB174_176 := n6_; have NB176_174 := n7_; clear n0_ n1_ n2_ n3_ n5_ n6_ n7_; clear hb hbox hg; have hnb18 := NB176_174.out; have hnc18 := NB174_176.out; obtain ⟨hcz19_0, hcz19_1, hfz19_0, hfz19_1⟩ := bk2 BK176.out; obtain ⟨hcz20_0, hcz20_1, hfz20_0, hfz20_1⟩ := bk2 BK174.out) | (go_at_call 27; (with_reducible refine (share_isShort.calls ((rd_T37 l0 x26_1).f0) ((rd_T37 l0 x26_1).f1) t171 t172 true _ A14.out).mono ?_); rintro e w21 ⟨rfl, hb⟩; have n0_ := Aside0.mk (Kd.R_below (Kd.pR ((Kd.R_mono (Kd.R_far (p := ⟨gb176, 1, none⟩) (Kd.R_far (p := ⟨gb176, 0, none⟩) (Kd.R_types HO_9.out BK176.out (by decide)) (fun _ hk => hk.2) (.int .i64 ((rd_T37 l0 x26_1).f0))) (fun _ hk => hk.2) (.int .i64 ((rd_T37 l0 x26_1).f1))) (fun _ h_ => h_.1)))) hb); have n1_ := Aside0.mk (blk_below (g := gb174) (o := .cells #[.int .i64 t171, .int .i64 t172] 26 (0, 0)) (by (with_reducible repeat (first | refine blk_drewN ?_ _ | refine blk_drew ?_ | refine blk_alloc ?_ _)); refine blk_far ?_ NB174_176.out _; (with_reducible repeat (first | refine blk_drewN ?_ _ | refine blk_drew ?_ | refine blk_alloc ?_ _)); refine blk_far ?_ NB174_176.out _; (with_reducible repeat (first | refine blk_drewN ?_ _ | refine blk_drew ?_ | refine blk_alloc ?_ _)); exact BK174.out) hb); have n3_ := Aside0.mk (below_step (pB HB.out) hb); clear HO_9; clear BK174; (try clear BK176); clear HB; have HO_9 := n0_; have BK174 := n1_; have HB := n3_; clear n0_ n1_ n3_; (try clear hb); (try clear hb2); (try clear hk); (try clear hi)) | ((with_reducible refine gate_builtin (b := .append) (xs := #[.tmp 37, .tmp 39]) rfl ?_); at_builtin; refine Kd.R_append (Kd.int .i64) (w0 := w) w.heap.size rfl (.tmp 37) (.tmp 39) 30 3 (.int .i64 0) 8 rfl Try.underlying30 info3 rfl (by decide) (by omega) u9 x9_1 x26_1 [.int .i64 x26_1] (fun _ => True) (fun _ => False) rfl rfl ?aP (fun _ hk => hk.elim) ?aF ?aO ?aB ?aS ?aL ?_; (case aP => exact rfl); (case aB => exact (pB HB.out)); (case aF => exact (fun _ _ => trivial)); (case aO => exact (Kd.pR HO_9.out)); (case aS => exact (below_size (pB HB.out))); (case aL => have := LMc16.out; omega); intro v179 w22 ho hb hg hat; rw [← Ny178.out] at ho; have n0_ := Aside0.mk (blk_grown (pK BK174.out) hg (Kd.R_ne HO_9.out BK174.out (by decide))); have n2_ := Aside0.mk (hb); have n3_ := Aside0.mk (ho); clear BK174; (try clear BK176); clear HB; clear HO_9; have BK174 := n0_; have HB := n2_; have HO180 := n3_; clear n0_ n2_ n3_; clear ho hb hg hat))
                    go_roundg k1
                    case measure => have := HK1.out; omega
                    case rel => exact ⟨(y178), (wrap64 (x26_1 + 1)), (by first | rfl | (simp; done) | (simp [*]; done)), H', ⟨by have := HK1.out; omega⟩, ⟨Kd.pR HO180.out⟩, ⟨pK BK174.out⟩, ⟨pB HB.out⟩⟩
                  · rw [if_neg c16] at H
                    exact absurd H (by simp)
                · replace c15 := Bool.eq_false_iff.mpr c15
                  subst c15
                  have H1 : (share_Short.l0 k1 true x9_1 l0 (l0.length : Int) (wrap64 (x26_1 + 1)) t171 t172) = some (r1, r2) := by rw [if_neg (show ¬ (false = true) by decide)] at H; exact H
                  clear H
                  have H := H1
                  clear H1
                  have H' := Aside0.mk H
                  clear H
                  have p175 : 0 ≤ (x26_1 : Int) := od
                  have q175 : x26_1 < (l0.length : Int) := od
                  obtain ⟨ad175, e175, hx175_0, hx175_1⟩ := at_T37 HR0.out x26_1 p175 q175
                  cases e175
                  replace hx175_0 := (HB.out.cell (World.block_lt_of_cell? w _ hx175_0)).trans hx175_0
                  replace hx175_1 := (HB.out.cell (World.block_lt_of_cell? w _ hx175_1)).trans hx175_1
                  replace p175 := eq_true p175
                  replace q175 := eq_true q175
                  go_wp2_with (first | ((with_reducible refine gate_dst (N := 11) rfl ?_); refine boxE (N := 11) (cs := #[.int .i64 0, .int .i64 0]) (t := 37) ?_; intro gb176 hg w23 hbox hb; have n0_ := Aside0.mk (Kd.R_below (Kd.pR HO_9.out) hb); have n1_ := Aside0.mk (blk_below (pK BK174.out) hb); have n2_ := Aside0.mk (below_step (pB HB.out) hb); have n3_ := Aside0.mk (hbox); have n5_ := Aside0.mk (pL HB.out hg); have n6_ := Aside0.mk (pNl BK174.out hg); have n7_ := Aside0.mk (pNg BK174.out hg); clear HO_9; clear BK174; clear HB; have HO_9 := n0_; have BK174 := n1_; have HB := n2_; have BK176 := n3_; have GE176 := n5_; have NB174_176 := n6_; have NB176_174 := n7_; clear n0_ n1_ n2_ n3_ n5_ n6_ n7_; clear hb hbox hg; have hnb24 := NB176_174.out; have hnc24 := NB174_176.out; obtain ⟨hcz25_0, hcz25_1, hfz25_0, hfz25_1⟩ := bk2 BK176.out; obtain ⟨hcz26_0, hcz26_1, hfz26_0, hfz26_1⟩ := bk2 BK174.out) | (go_at_call 27; (with_reducible refine (share_isShort.calls ((rd_T37 l0 x26_1).f0) ((rd_T37 l0 x26_1).f1) t171 t172 false _ A14.out).mono ?_); rintro e w27 ⟨rfl, hb⟩; have n0_ := Aside0.mk (Kd.R_below (Kd.pR ((Kd.R_mono (Kd.R_far (p := ⟨gb176, 1, none⟩) (Kd.R_far (p := ⟨gb176, 0, none⟩) (Kd.R_types HO_9.out BK176.out (by decide)) (fun _ hk => hk.2) (.int .i64 ((rd_T37 l0 x26_1).f0))) (fun _ hk => hk.2) (.int .i64 ((rd_T37 l0 x26_1).f1))) (fun _ h_ => h_.1)))) hb); have n1_ := Aside0.mk (blk_below (g := gb174) (o := .cells #[.int .i64 t171, .int .i64 t172] 26 (0, 0)) (by (with_reducible repeat (first | refine blk_drewN ?_ _ | refine blk_drew ?_ | refine blk_alloc ?_ _)); refine blk_far ?_ NB174_176.out _; (with_reducible repeat (first | refine blk_drewN ?_ _ | refine blk_drew ?_ | refine blk_alloc ?_ _)); refine blk_far ?_ NB174_176.out _; (with_reducible repeat (first | refine blk_drewN ?_ _ | refine blk_drew ?_ | refine blk_alloc ?_ _)); exact BK174.out) hb); have n3_ := Aside0.mk (below_step (pB HB.out) hb); clear HO_9; clear BK174; (try clear BK176); clear HB; have HO_9 := n0_; have BK174 := n1_; have HB := n3_; clear n0_ n1_ n3_; (try clear hb); (try clear hb2); (try clear hk); (try clear hi)))
                  go_roundg k1
                  case measure => have := HK1.out; omega
                  case rel => exact ⟨(x9_1), (wrap64 (x26_1 + 1)), (by first | rfl | (simp; done) | (simp [*]; done)), H', ⟨by have := HK1.out; omega⟩, ⟨Kd.pR HO_9.out⟩, ⟨pK BK174.out⟩, ⟨pB HB.out⟩⟩
              · replace c13 := Bool.eq_false_iff.mpr c13
                subst c13
                have H1 : (share_Short.l0 k1 false x9_1 l0 (l0.length : Int) (wrap64 (x26_1 + 1)) t171 t172) = some (r1, r2) := by rw [if_neg (show ¬ (false = true) by decide)] at H; exact H
                clear H
                have H := H1
                (try clear H1)
                have H' := Aside0.mk H
                clear H
                have p175 : 0 ≤ (x26_1 : Int) := od
                have q175 : x26_1 < (l0.length : Int) := od
                obtain ⟨ad175, e175, hx175_0, hx175_1⟩ := at_T37 HR0.out x26_1 p175 q175
                cases e175
                replace hx175_0 := (HB.out.cell (World.block_lt_of_cell? w _ hx175_0)).trans hx175_0
                replace hx175_1 := (HB.out.cell (World.block_lt_of_cell? w _ hx175_1)).trans hx175_1
                replace p175 := eq_true p175
                replace q175 := eq_true q175
                go_wp2_with (first | ((with_reducible refine gate_dst (N := 11) rfl ?_); refine boxE (N := 11) (cs := #[.int .i64 0, .int .i64 0]) (t := 37) ?_; intro gb176 hg w28 hbox hb; have n0_ := Aside0.mk (Kd.R_below (Kd.pR HO_9.out) hb); have n1_ := Aside0.mk (blk_below (pK BK174.out) hb); have n2_ := Aside0.mk (below_step (pB HB.out) hb); have n3_ := Aside0.mk (hbox); have n5_ := Aside0.mk (pL HB.out hg); have n6_ := Aside0.mk (pNl BK174.out hg); have n7_ := Aside0.mk (pNg BK174.out hg); clear HO_9; clear BK174; clear HB; have HO_9 := n0_; have BK174 := n1_; have HB := n2_; have BK176 := n3_; have GE176 := n5_; have NB174_176 := n6_; have NB176_174 := n7_; clear n0_ n1_ n2_ n3_ n5_ n6_ n7_; clear hb hbox hg; have hnb29 := NB176_174.out; have hnc29 := NB174_176.out; obtain ⟨hcz30_0, hcz30_1, hfz30_0, hfz30_1⟩ := bk2 BK176.out))
                go_roundg k1
                case measure => have := HK1.out; omega
                case rel => exact ⟨(x9_1), (wrap64 (x26_1 + 1)), (by first | rfl | (simp; done) | (simp [*]; done)), H', ⟨by have := HK1.out; omega⟩, ⟨Kd.pR (Kd.R_mono (Kd.R_far (p := ⟨gb176, 1, none⟩) (Kd.R_far (p := ⟨gb176, 0, none⟩) (Kd.R_types HO_9.out BK176.out (by decide)) (fun _ hk => hk.2) (.int .i64 ((rd_T37 l0 x26_1).f0))) (fun _ hk => hk.2) (.int .i64 ((rd_T37 l0 x26_1).f1))) (fun _ hk => trivial))⟩, ⟨by (with_reducible repeat (first | refine blk_drewN ?_ _ | refine blk_drew ?_ | refine blk_alloc ?_ _)); refine blk_far ?_ NB174_176.out _; (with_reducible repeat (first | refine blk_drewN ?_ _ | refine blk_drew ?_ | refine blk_alloc ?_ _)); refine blk_far ?_ NB174_176.out _; (with_reducible repeat (first | refine blk_drewN ?_ _ | refine blk_drew ?_ | refine blk_alloc ?_ _)); exact BK174.out⟩, ⟨pB HB.out⟩⟩
            · rw [if_neg c12] at H
              exact absurd H (by simp)
          · rw [if_neg c11] at H
            exact absurd H (by simp)
        · rw [if_neg c10] at H
          have c10b0 : decide (x26_1 < (l0.length : Int)) = false := decide_eq_false c10
          (try clear c10)
          simp only [Option.some.injEq, Prod.mk.injEq] at H
          obtain ⟨rfl, rfl⟩ := H
          go_wp2
          go_ret2
          exact ⟨_, by first | rfl | (simp [errW_none, errW_some] <;> rfl) | (simp [*, errW_none, errW_some] <;> rfl), Kd.pR HO_9.out, pB HB.out⟩
  · rw [if_neg c4] at H
    have c4b0 : (t170 == 0) = false := beq_eq_false_iff_ne.mpr c4
    have c4b1 : (t170 != 0) = true := bne_iff_ne.mpr c4
    simp only [Option.some.injEq, Prod.mk.injEq] at H
    obtain ⟨rfl, rfl⟩ := H
    go_enter Try.func12, Try.ntmps12
    go_wp2_with (first | ((with_reducible refine gate_callee (f := 25) rfl ?_); refine goesE (some 14) rfl rfl Try.func25 (by kernel_rfl) rfl #[.slice A0 l0.length c0, .int .i64 a1] rfl ?_; (with_reducible refine (share_asked.calls k _ _ l0 a1 t170 _ ?side1 ?side2 A3.out).mono ?_); (case side1 => exact Kd.pC HR0.out); (case side2 => exact HC0.out); rintro e w31 ⟨rfl, hb⟩; refine ⟨_, rfl, ?_⟩; have n0_ := Aside0.mk (below_step (pB HB.out) hb); clear HB; have HB := n0_; clear n0_; (try clear hb); (try clear hb2); (try clear hk); (try clear hi)))
    go_ret2
    exact ⟨_, by first | rfl | (simp [errW_none, errW_some] <;> rfl) | (simp [*, errW_none, errW_some] <;> rfl), by first | exact Kd.R_nil _ _ _ _ _ | exact Kd.N_nil _ _ _ _ _ | exact Kd.V_nil _ _ _ _ _ | exact Kd.Q_nil _ _ _ _ _ | exact Kd.S_nil _ _ _ _ _, pB HB.out⟩

end Go.Proofs.Yteeceppbnkkfpaa.PShare
