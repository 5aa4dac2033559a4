-- printed by a program of this session (a turned copy of the kit's print); Lean checks it
import Derived.Test.YtlgfopdindklnaaPArenax0
import Derived.Test.YtlgfopdindklnaaPArenax2
import Derived.Test.YtlgfopdindklnaaPArenax3
namespace Go.Proofs.Ytlgfopdindklnaa.PArena
open Go.RowKit Go.Proofs.YtlgfopdindklnaaW.PrintWords Go.Proofs.YtlgfopdindklnaaW.PrintLast Go.Proofs.YtlgfopdindklnaaW.PrintMore
attribute [local go_sem] max2_int min2_int max_two min_two max_three min_three max_four min_four   -- for this text's walks alone
set_option linter.unusedVariables false
set_option linter.unusedSimpArgs false

/-! ### arena_Give: function 26 -/
def arena_Give.j0 : Nat → Int → Bool → List Int → List Bool → Int → Option (List Int × List Bool × Int × Int)
  | 0, _, _, _, _, _ => none
  | k + 1, x1, x15, x146000, x146001, x146002 => if x15 = true then (some (([] : List Int), ([] : List Bool), 0, 2)) else (if 0 ≤ x1 then (if x1 < (x146001.length : Int) then (if rdOf false x146001 x1 = true then ((arena_twin.f x146000 x146001 x146002).bind fun bt149 => (if x1 < (bt149.1.length : Int) then (if x1 < (bt149.2.1.length : Int) then (some ((bt149.1.set (x1 : Int).toNat x146002), (bt149.2.1.set (x1 : Int).toNat false), x1, 0)) else (none)) else (none))) else (some (([] : List Int), ([] : List Bool), 0, 36))) else (none)) else (none))
def arena_Give.f (k : Nat) (l0_0 : List Int) (l0_1 : List Bool) (a0_2 : Int) (a1 : Int) : Option (List Int × List Bool × Int × Int) := (arena_Check.f k l0_0 l0_1 a0_2).bind fun t147 => (if t147 = 0 then (if a1 < 0 then (arena_Give.j0 k a1 true l0_0 l0_1 a0_2) else (arena_Give.j0 k a1 (decide (a1 ≥ (l0_0.length : Int))) l0_0 l0_1 a0_2)) else (some (([] : List Int), ([] : List Bool), 0, t147)))
theorem arena_Give.mono_l : ∀ k, (∀ y0 y1 y2 y3 y4, LeO (arena_Give.j0 k y0 y1 y2 y3 y4) (arena_Give.j0 (k + 1) y0 y1 y2 y3 y4))
  | 0 => fun _ _ _ _ _ r h => by simp [arena_Give.j0] at h
  | k + 1 => by
    have ih0 := arena_Give.mono_l k
    · intro y0 y1 y2 y3 y4
      unfold arena_Give.j0
      repeat' first
      | (with_reducible exact ih0 _ _ _ _ _)
      | (with_reducible exact arena_Check.mono _ _ _ _)
      | (with_reducible exact LeO.refl _)
      | (with_reducible exact LeO.none _)
      | (with_reducible refine LeO.ite ?_ ?_)
      | (with_reducible refine LeO.bind ?_ (fun _ => ?_))
      | exact ih0 _ _ _ _ _
      | exact arena_Check.mono _ _ _ _
      | exact LeO.none _
      | refine LeO.ite ?_ ?_
      | refine LeO.bind ?_ (fun _ => ?_)
theorem arena_Give.mono : ∀ a0 a1 a2 a3 k, LeO (arena_Give.f k a0 a1 a2 a3) (arena_Give.f (k + 1) a0 a1 a2 a3) := by
  intro a0 a1 a2 a3 k
  have ih0 := arena_Give.mono_l k
  unfold arena_Give.f
  repeat' first
      | (with_reducible exact ih0 _ _ _ _ _)
      | (with_reducible exact arena_Check.mono _ _ _ _)
      | (with_reducible exact LeO.refl _)
      | (with_reducible exact LeO.none _)
      | (with_reducible refine LeO.ite ?_ ?_)
      | (with_reducible refine LeO.bind ?_ (fun _ => ?_))
      | exact ih0 _ _ _ _ _
      | exact arena_Check.mono _ _ _ _
      | exact LeO.none _
      | refine LeO.ite ?_ ?_
      | refine LeO.bind ?_ (fun _ => ?_)
set_option maxHeartbeats 8000000 in
set_option maxRecDepth 100000 in
theorem arena_Give.calls (k : Nat) (A0_0 : Option Addr) (c0_0 : Nat) (l0_0 : List Int) (A0_1 : Option Addr) (c0_1 : Nat) (l0_1 : List Bool) (a0_2 : Int) (a1 : Int) (r1 : List Int) (r2 : List Bool) (r3 : Int) (r4 : Int) (w : World) (hr0_0 : Kd.C (Kd.int .i64) w A0_0 l0_0.length l0_0) (hc0_0 : l0_0.length ≤ c0_0) (hr0_1 : Kd.C Kd.bool w A0_1 l0_1.length l0_1) (hc0_1 : l0_1.length ≤ c0_1) (h : arena_Give.f k l0_0 l0_1 a0_2 a1 = some (r1, r2, r3, r4)) :
    Calls Try.prog 26 #[.agg #[.slice A0_0 l0_0.length c0_0, .slice A0_1 l0_1.length c0_1, .int .i64 a0_2], .int .i64 a1] w fun e w' => ∃ v0_ v1_ : Value, e = .returned (.tuple #[.agg #[v0_, v1_, .int .i64 r3], .int .i64 r4]) ∧ Kd.R (Kd.int .i64) 3 w' w.heap.size (fun _ => True) v0_ r1 ∧ Kd.R Kd.bool 4 w' w.heap.size (fun _ => True) v1_ r2 ∧ Below w.heap.size w w' := by
  have hu36 := Try.underlying36
  have HR0_0 := Aside0.mk hr0_0
  have HC0_0 := Aside0.mk hc0_0
  clear hr0_0 hc0_0
  have HR0_1 := Aside0.mk hr0_1
  have HC0_1 := Aside0.mk hc0_1
  clear hr0_1 hc0_1
  have HB := Aside0.mk (Below.refl w.heap.size w)
  have H : ((arena_Check.f k l0_0 l0_1 a0_2).bind fun t147 => (if t147 = 0 then (if a1 < 0 then (arena_Give.j0 k a1 true l0_0 l0_1 a0_2) else (arena_Give.j0 k a1 (decide (a1 ≥ (l0_0.length : Int))) l0_0 l0_1 a0_2)) else (some (([] : List Int), ([] : List Bool), 0, t147)))) = some (r1, r2, r3, r4) := h
  clear h
  replace H := Option.bind_eq_some_iff.mp H
  obtain ⟨t147, A30, H⟩ := H
  replace H : (if t147 = 0 then (if a1 < 0 then (arena_Give.j0 k a1 true l0_0 l0_1 a0_2) else (arena_Give.j0 k a1 (decide (a1 ≥ (l0_0.length : Int))) l0_0 l0_1 a0_2)) else (some (([] : List Int), ([] : List Bool), 0, t147))) = some (r1, r2, r3, r4) := H
  have A3 := Aside0.mk A30
  (try clear A30)
  by_cases c4 : t147 = 0
  · rw [if_pos c4] at H
    have c4b0 : (t147 == 0) = true := beq_iff_eq.mpr c4
    have c4b1 : (t147 != 0) = false := bne_eq_false_iff_eq.mpr c4
    clear c4
    have HC5 := Aside0.mk H
    clear H
    go_enter Try.func26, Try.ntmps26
    go_upto_region 4 with (first | ((with_reducible refine gate_dst (N := 2) rfl ?_); (try (refine gate_guard (by rfl) ?_; dsimp only)); refine boxE (N := 2) (cs := #[.slice A0_0 l0_0.length c0_0, .slice A0_1 l0_1.length c0_1, .int .i64 a0_2]) (t := 36) ?_; intro gb145 hg w6 hbox hb; have n0_ := Aside0.mk (below_step (pB HB.out) hb); have n1_ := Aside0.mk (hbox); have n3_ := Aside0.mk (pL HB.out hg); clear HB; have HB := n0_; have BK145 := n1_; have GE145 := n3_; clear n0_ n1_ n3_; clear hb hbox hg) | ((with_reducible refine gate_dst (N := 4) rfl ?_); (try (refine gate_guard (by rfl) ?_; dsimp only)); refine boxE (N := 4) (cs := #[.slice none 0 0, .slice none 0 0, .int .i64 0]) (t := 36) ?_; intro gb146 hg w7 hbox hb; have n0_ := Aside0.mk (blk_below (pK BK145.out) hb); have n1_ := Aside0.mk (below_step (pB HB.out) hb); have n2_ := Aside0.mk (hbox); have n4_ := Aside0.mk (pL HB.out hg); have n5_ := Aside0.mk (pNl BK145.out hg); have n6_ := Aside0.mk (pNg BK145.out hg); clear BK145; clear HB; have BK145 := n0_; have HB := n1_; have BK146 := n2_; have GE146 := n4_; have NB145_146 := n5_; have NB146_145 := n6_; clear n0_ n1_ n2_ n4_ n5_ n6_; clear hb hbox hg; have hnb8 := NB145_146.out; have hnc8 := NB146_145.out; obtain ⟨hcz9_0, hcz9_1, hcz9_2, hfz9_0, hfz9_1, hfz9_2⟩ := bk3 BK145.out) | ((with_reducible refine gate_callee (f := 35) rfl ?_); refine goesE (some 9) rfl rfl Try.func35 (by kernel_rfl) rfl #[.agg #[.slice A0_0 l0_0.length c0_0, .slice A0_1 l0_1.length c0_1, .int .i64 a0_2]] rfl ?_; (with_reducible refine (arena_Check.calls k _ _ l0_0 _ _ l0_1 a0_2 t147 _ ?side1 ?side2 ?side3 ?side4 A3.out).mono ?_); (case side1 => exact Kd.pC ((Kd.C_below HR0_0.out HB.out))); (case side2 => exact HC0_0.out); (case side3 => exact Kd.pC ((Kd.C_below HR0_1.out HB.out))); (case side4 => exact HC0_1.out); rintro e w10 ⟨rfl, hb⟩; refine ⟨_, rfl, ?_⟩; have n0_ := Aside0.mk (blk_below (pK BK145.out) hb); have n1_ := Aside0.mk (blk_below (pK BK146.out) hb); have n2_ := Aside0.mk (below_step (pB HB.out) hb); clear BK145; clear BK146; clear HB; have BK145 := n0_; have BK146 := n1_; have HB := n2_; clear n0_ n1_ n2_; (try clear hb); (try clear hb2); (try clear hk); (try clear hi)))
    (try simp only [Act.put, List.setIfInBounds_toArray, List.set_cons_zero, List.set_cons_succ])
    go_cut [15] (fun v15 wc => ∃ (kq : Nat) (x15_4 : Bool), v15 = .bool x15_4 ∧ Aside0 (arena_Give.j0 kq a1 x15_4 l0_0 l0_1 a0_2 = some (r1, r2, r3, r4)) ∧ Aside0 (kq ≤ k) ∧ Aside0 (wc.heap[gb145]? = some (.cells #[(.slice A0_0 l0_0.length c0_0), (.slice A0_1 l0_1.length c0_1), .int .i64 a0_2] 36 (0, 0))) ∧ Aside0 (wc.heap[gb146]? = some (.cells #[(.slice none 0 0), (.slice none 0 0), .int .i64 0] 36 (0, 0))) ∧ Aside0 (Below w.heap.size w wc))
    case first =>
      have H := HC5.out
      (try clear HC5)
      by_cases c11 : a1 < 0
      · rw [if_pos c11] at H
        have c11b0 : decide (a1 < 0) = true := decide_eq_true c11
        clear c11
        (first | rw [c11b0] | (simp only [i64_w, i32_w]; rw [c11b0]) | skip)
        have H' := Aside0.mk H
        clear H
        go_wp2
        go_meet
        case rel => exact ⟨_, (true), (by first | rfl | (simp; done) | (simp [*]; done)), H', ⟨by first | omega | exact Nat.le_refl _⟩, ⟨pK BK145.out⟩, ⟨pK BK146.out⟩, ⟨pB HB.out⟩⟩
      · rw [if_neg c11] at H
        have c11b0 : decide (a1 < 0) = false := decide_eq_false c11
        clear c11
        (first | rw [c11b0] | (simp only [i64_w, i32_w]; rw [c11b0]) | skip)
        have H' := Aside0.mk H
        clear H
        have hnb12 := NB145_146.out
        have hnc12 := NB146_145.out
        obtain ⟨hcz13_0, hcz13_1, hcz13_2, hfz13_0, hfz13_1, hfz13_2⟩ := bk3 BK145.out
        go_wp2
        go_meet
        case rel => exact ⟨_, (decide (a1 ≥ (l0_0.length : Int))), (by first | rfl | (simp; done) | (simp [*]; done)), H', ⟨by first | omega | exact Nat.le_refl _⟩, ⟨pK BK145.out⟩, ⟨pK BK146.out⟩, ⟨pB HB.out⟩⟩
    case rest =>
      (try clear HC5)
      try clear c1
      try clear c2
      try clear p2
      try clear c3
      try clear c4
      try clear c4b0
      try clear c4b1
      try clear c8
      try clear c11
      try clear c11b0
      try clear c12
      try clear hcz13_0
      try clear hcz13_1
      try clear hcz13_2
      try clear hcz9_0
      try clear hcz9_1
      try clear hcz9_2
      try clear hfz13_0
      try clear hfz13_1
      try clear hfz13_2
      try clear hfz9_0
      try clear hfz9_1
      try clear hfz9_2
      obtain ⟨kq, x15_4, rfl, HA, HJ4, BK145, BK146, HB⟩ := hcut
      cases kq with
      | zero => exact absurd HA.out (by simp [arena_Give.j0])
      | succ kj4 =>
        have H := HA.out
        (try clear HA)
        simp only [arena_Give.j0] at H
        by_cases c14 : x15_4 = true
        · subst c14
          have H1 : (some (([] : List Int), ([] : List Bool), 0, 2)) = some (r1, r2, r3, r4) := by rw [if_pos rfl] at H; exact H
          clear H
          have H := H1
          clear H1
          simp only [Option.some.injEq, Prod.mk.injEq] at H
          obtain ⟨rfl, rfl, rfl, rfl⟩ := H
          have hnb15 := NB146_145.out
          have hnc15 := NB145_146.out
          obtain ⟨hcz16_0, hcz16_1, hcz16_2, hfz16_0, hfz16_1, hfz16_2⟩ := bk3 BK146.out
          go_wp2
          refine bodyPost_ret (results_ct rfl _ _ gb146 36 #[.slice none 0 0, .slice none 0 0, .int .i64 0] (0, 0) _ rfl (by (with_reducible repeat (first | refine blk_drewN ?_ _ | refine blk_drew ?_ | refine blk_alloc ?_ _)); refine blk_put (cs := #[.slice none 0 0, .slice none 0 0, .int .i64 0]) ?_ 2 _ rfl; (with_reducible repeat (first | refine blk_drewN ?_ _ | refine blk_drew ?_ | refine blk_alloc ?_ _)); refine blk_put (cs := #[.slice none 0 0, .slice none 0 0, .int .i64 0]) ?_ 1 _ rfl; (with_reducible repeat (first | refine blk_drewN ?_ _ | refine blk_drew ?_ | refine blk_alloc ?_ _)); refine blk_put (cs := #[.slice none 0 0, .slice none 0 0, .int .i64 0]) ?_ 0 _ rfl; (with_reducible repeat (first | refine blk_drewN ?_ _ | refine blk_drew ?_ | refine blk_alloc ?_ _)); exact BK146.out) Try.underlying36 rfl (by kernel_rfl)) rfl ?_
          exact ⟨_, _, by first | rfl | (simp [errW_none, errW_some] <;> rfl) | (simp [*, errW_none, errW_some] <;> rfl), by first | exact Kd.R_nil _ _ _ _ _ | exact Kd.N_nil _ _ _ _ _ | exact Kd.V_nil _ _ _ _ _ | exact Kd.Q_nil _ _ _ _ _ | exact Kd.S_nil _ _ _ _ _, by first | exact Kd.R_nil _ _ _ _ _ | exact Kd.N_nil _ _ _ _ _ | exact Kd.V_nil _ _ _ _ _ | exact Kd.Q_nil _ _ _ _ _ | exact Kd.S_nil _ _ _ _ _, pB HB.out⟩
        · replace c14 := Bool.eq_false_iff.mpr c14
          subst c14
          have H1 : (if 0 ≤ a1 then (if a1 < (l0_1.length : Int) then (if rdOf false l0_1 a1 = true then ((arena_twin.f l0_0 l0_1 a0_2).bind fun bt149 => (if a1 < (bt149.1.length : Int) then (if a1 < (bt149.2.1.length : Int) then (some ((bt149.1.set (a1 : Int).toNat a0_2), (bt149.2.1.set (a1 : Int).toNat false), a1, 0)) else (none)) else (none))) else (some (([] : List Int), ([] : List Bool), 0, 36))) else (none)) else (none)) = some (r1, r2, r3, r4) := by rw [if_neg (show ¬ (false = true) by decide)] at H; exact H
          clear H
          have H := H1
          clear H1
          by_cases c17 : 0 ≤ a1
          · rw [if_pos c17] at H
            have c17b0 : decide (0 ≤ a1) = true := decide_eq_true c17
            clear c17
            by_cases c18 : a1 < (l0_1.length : Int)
            · rw [if_pos c18] at H
              have c18b0 : decide (a1 < (l0_1.length : Int)) = true := decide_eq_true c18
              clear c18
              obtain ⟨bq19, hbq19⟩ : ∃ b_ : Bool, b_ = (rdOf false l0_1 a1) := ⟨_, rfl⟩
              replace H : (if bq19 = true then ((arena_twin.f l0_0 l0_1 a0_2).bind fun bt149 => (if a1 < (bt149.1.length : Int) then (if a1 < (bt149.2.1.length : Int) then (some ((bt149.1.set (a1 : Int).toNat a0_2), (bt149.2.1.set (a1 : Int).toNat false), a1, 0)) else (none)) else (none))) else (some (([] : List Int), ([] : List Bool), 0, 36))) = some (r1, r2, r3, r4) := by rw [← hbq19] at H; exact H
              have Nbq19 := Aside0.mk hbq19
              (try clear hbq19)
              by_cases c20 : bq19 = true
              · subst c20
                have H1 : ((arena_twin.f l0_0 l0_1 a0_2).bind fun bt149 => (if a1 < (bt149.1.length : Int) then (if a1 < (bt149.2.1.length : Int) then (some ((bt149.1.set (a1 : Int).toNat a0_2), (bt149.2.1.set (a1 : Int).toNat false), a1, 0)) else (none)) else (none))) = some (r1, r2, r3, r4) := by rw [if_pos rfl] at H; exact H
                clear H
                have H := H1
                clear H1
                replace H := Option.bind_eq_some_iff.mp H
                obtain ⟨⟨t149, t152, t155⟩, A210, H⟩ := H
                replace H : (if a1 < (t149.length : Int) then (if a1 < (t152.length : Int) then (some ((t149.set (a1 : Int).toNat a0_2), (t152.set (a1 : Int).toNat false), a1, 0)) else (none)) else (none)) = some (r1, r2, r3, r4) := H
                have A21 := Aside0.mk A210
                (try clear A210)
                by_cases c22 : a1 < (t149.length : Int)
                · rw [if_pos c22] at H
                  have c22b0 : decide (a1 < (t149.length : Int)) = true := decide_eq_true c22
                  clear c22
                  obtain ⟨y157, hy157⟩ : ∃ y_ : List Int, y_ = (t149.set (a1 : Int).toNat a0_2) := ⟨_, rfl⟩
                  replace H : (if a1 < (t152.length : Int) then (some (y157, (t152.set (a1 : Int).toNat false), a1, 0)) else (none)) = some (r1, r2, r3, r4) := by first | (rw [hy157]; with_reducible exact H) | (have H2_ := (Option.bind_some _ _).symm.trans H; rw [hy157]; with_reducible exact H2_) | (have H2_ := (Option.bind_some _ _).symm.trans H; with_reducible exact H2_) | with_reducible exact H | (rw [hy157]; exact H) | exact H
                  have Ny157 := Aside0.mk hy157
                  (try clear hy157)
                  by_cases c24 : a1 < (t152.length : Int)
                  · rw [if_pos c24] at H
                    have c24b0 : decide (a1 < (t152.length : Int)) = true := decide_eq_true c24
                    clear c24
                    obtain ⟨y158, hy158⟩ : ∃ y_ : List Bool, y_ = (t152.set (a1 : Int).toNat false) := ⟨_, rfl⟩
                    replace H : (some (y157, y158, a1, 0)) = some (r1, r2, r3, r4) := by first | (rw [hy158]; with_reducible exact H) | (have H2_ := (Option.bind_some _ _).symm.trans H; rw [hy158]; with_reducible exact H2_) | (have H2_ := (Option.bind_some _ _).symm.trans H; with_reducible exact H2_) | with_reducible exact H | (rw [hy158]; exact H) | exact H
                    have Ny158 := Aside0.mk hy158
                    (try clear hy158)
                    simp only [Option.some.injEq, Prod.mk.injEq] at H
                    obtain ⟨rfl, rfl, rfl, rfl⟩ := H
                    have hnb26 := NB145_146.out
                    have hnc26 := NB146_145.out
                    obtain ⟨hcz27_0, hcz27_1, hcz27_2, hfz27_0, hfz27_1, hfz27_2⟩ := bk3 BK145.out
                    have p148 : 0 ≤ (a1 : Int) := od
                    have q148 : a1 < (l0_1.length : Int) := od
                    obtain ⟨ad148, e148, hx148_0⟩ := Kd.at_bool HR0_1.out a1 p148 q148
                    (try rw [← Nbq19.out] at hx148_0)
                    cases e148
                    replace hx148_0 := (HB.out.cell (World.block_lt_of_cell? w _ hx148_0)).trans hx148_0
                    replace p148 := eq_true p148
                    replace q148 := eq_true q148
                    go_wp2_with (first | ((with_reducible refine gate_callee (f := 49) rfl ?_); refine goesE (some 35) rfl rfl Try.func49 (by kernel_rfl) rfl #[.agg #[.slice A0_0 l0_0.length c0_0, .slice (some ad148) l0_1.length c0_1, .int .i64 a0_2]] rfl ?_; (with_reducible refine (arena_twin.calls _ _ l0_0 _ _ l0_1 a0_2 t149 t152 t155 _ ?side1 ?side2 ?side3 ?side4 A21.out).mono ?_); (case side1 => exact Kd.pC ((Kd.C_below HR0_0.out HB.out))); (case side2 => exact HC0_0.out); (case side3 => exact Kd.pC ((Kd.C_below HR0_1.out HB.out))); (case side4 => exact HC0_1.out); rintro e w28 ⟨v150, v153, rfl, ho0, ho1, hb⟩; refine ⟨_, rfl, ?_⟩; have n0_ := Aside0.mk (Kd.R_lower ho0 (below_size (pB HB.out))); have n1_ := Aside0.mk (Kd.R_lower ho1 (below_size (pB HB.out))); have n2_ := Aside0.mk (blk_below (pK BK145.out) hb); have n3_ := Aside0.mk (blk_below (pK BK146.out) hb); have n4_ := Aside0.mk (below_step (pB HB.out) hb); clear BK145; clear BK146; clear HB; have HO151 := n0_; have HO154 := n1_; have BK145 := n2_; have BK146 := n3_; have HB := n4_; clear n0_ n1_ n2_ n3_ n4_; (try clear hb); (try clear hb2); (try clear hk); (try clear hi); (try clear ho0); (try clear ho1)) | ((with_reducible refine gate_dst (N := 7) rfl ?_); (try (refine gate_guard (by rfl) ?_; dsimp only)); refine boxE (N := 7) (cs := #[.slice none 0 0, .slice none 0 0, .int .i64 0]) (t := 36) ?_; intro gb156 hg w29 hbox hb; have n0_ := Aside0.mk (Kd.R_below (Kd.pR HO151.out) hb); have n1_ := Aside0.mk (Kd.R_below (Kd.pR HO154.out) hb); have n2_ := Aside0.mk (blk_below (pK BK145.out) hb); have n3_ := Aside0.mk (blk_below (pK BK146.out) hb); have n4_ := Aside0.mk (below_step (pB HB.out) hb); have n5_ := Aside0.mk (hbox); have n7_ := Aside0.mk (pL HB.out hg); have n8_ := Aside0.mk (pNl BK145.out hg); have n9_ := Aside0.mk (pNg BK145.out hg); have n10_ := Aside0.mk (pNl BK146.out hg); have n11_ := Aside0.mk (pNg BK146.out hg); clear HO151; clear HO154; clear BK145; clear BK146; clear HB; have HO151 := n0_; have HO154 := n1_; have BK145 := n2_; have BK146 := n3_; have HB := n4_; have BK156 := n5_; have GE156 := n7_; have NB145_156 := n8_; have NB156_145 := n9_; have NB146_156 := n10_; have NB156_146 := n11_; clear n0_ n1_ n2_ n3_ n4_ n5_ n7_ n8_ n9_ n10_ n11_; clear hb hbox hg; obtain ⟨Ao30, co30, eo30⟩ := Kd.R_slice HO151.out; subst eo30; have hnb31 := NB156_145.out; have hnc31 := NB145_156.out; have hnb32 := NB156_146.out; have hnc32 := NB146_156.out; obtain ⟨hcz33_0, hcz33_1, hcz33_2, hfz33_0, hfz33_1, hfz33_2⟩ := bk3 BK156.out; obtain ⟨Ao34, co34, eo34⟩ := Kd.R_slice HO154.out; subst eo34) | ((with_reducible refine gate_store (t := 36) (p := 7) rfl ?_); refine store_event (t := 36) (p := 7) (v := ?vo_w35) (w1 := (((w29.setCell ⟨gb156, 0, none⟩ (.slice Ao30 t149.length co30)).setCell ⟨gb156, 1, none⟩ (.slice Ao34 t152.length co34)).setCell ⟨gb156, 2, none⟩ (.int .i64 t155))) ?hg ?ho ?hn ?hr ?_; (case ho => rfl); (case hg => rfl); (case hn => rfl); (case hr => first | (go_simp; done) | (go_simp; rfl)); intro w35 hw; have n0_ : Aside0 (Kd.R (Kd.int .i64) 3 w35 w.heap.size (fun _ => True) (.slice Ao30 t149.length co30) t149) := ⟨(by rw [hw]; exact (Kd.pR (Kd.R_mono (Kd.R_far (p := ⟨gb156, 2, none⟩) (Kd.R_far (p := ⟨gb156, 1, none⟩) (Kd.R_far (p := ⟨gb156, 0, none⟩) (Kd.R_types HO151.out BK156.out (by decide)) (fun _ hk => hk.2) (.slice Ao30 t149.length co30)) (fun _ hk => hk.2) (.slice Ao34 t152.length co34)) (fun _ hk => hk.2) (.int .i64 t155)) (fun _ hk => trivial))))⟩; have n1_ : Aside0 (Kd.R Kd.bool 4 w35 w.heap.size (fun _ => True) (.slice Ao34 t152.length co34) t152) := ⟨(by rw [hw]; exact (Kd.pR (Kd.R_mono (Kd.R_far (p := ⟨gb156, 2, none⟩) (Kd.R_far (p := ⟨gb156, 1, none⟩) (Kd.R_far (p := ⟨gb156, 0, none⟩) (Kd.R_types HO154.out BK156.out (by decide)) (fun _ hk => hk.2) (.slice Ao30 t149.length co30)) (fun _ hk => hk.2) (.slice Ao34 t152.length co34)) (fun _ hk => hk.2) (.int .i64 t155)) (fun _ hk => trivial))))⟩; have n2_ : Aside0 (w35.heap[gb145]? = some (.cells #[.slice A0_0 l0_0.length c0_0, .slice (some ad148) l0_1.length c0_1, .int .i64 a0_2] 36 (0, 0))) := ⟨(by rw [hw]; exact (by (with_reducible repeat (first | refine blk_drewN ?_ _ | refine blk_drew ?_ | refine blk_alloc ?_ _)); refine blk_far ?_ NB145_156.out _; (with_reducible repeat (first | refine blk_drewN ?_ _ | refine blk_drew ?_ | refine blk_alloc ?_ _)); refine blk_far ?_ NB145_156.out _; (with_reducible repeat (first | refine blk_drewN ?_ _ | refine blk_drew ?_ | refine blk_alloc ?_ _)); refine blk_far ?_ NB145_156.out _; (with_reducible repeat (first | refine blk_drewN ?_ _ | refine blk_drew ?_ | refine blk_alloc ?_ _)); exact BK145.out))⟩; have n3_ : Aside0 (w35.heap[gb146]? = some (.cells #[.slice none 0 0, .slice none 0 0, .int .i64 0] 36 (0, 0))) := ⟨(by rw [hw]; exact (by (with_reducible repeat (first | refine blk_drewN ?_ _ | refine blk_drew ?_ | refine blk_alloc ?_ _)); refine blk_far ?_ NB146_156.out _; (with_reducible repeat (first | refine blk_drewN ?_ _ | refine blk_drew ?_ | refine blk_alloc ?_ _)); refine blk_far ?_ NB146_156.out _; (with_reducible repeat (first | refine blk_drewN ?_ _ | refine blk_drew ?_ | refine blk_alloc ?_ _)); refine blk_far ?_ NB146_156.out _; (with_reducible repeat (first | refine blk_drewN ?_ _ | refine blk_drew ?_ | refine blk_alloc ?_ _)); exact BK146.out))⟩; have n4_ : Aside0 (w35.heap[gb156]? = some (.cells #[.slice Ao30 t149.length co30, .slice Ao34 t152.length co34, .int .i64 t155] 36 (0, 0))) := ⟨(by rw [hw]; exact (by (with_reducible repeat (first | refine blk_drewN ?_ _ | refine blk_drew ?_ | refine blk_alloc ?_ _)); refine blk_put (cs := #[.slice Ao30 t149.length co30, .slice Ao34 t152.length co34, .int .i64 0]) ?_ 2 _ rfl; (with_reducible repeat (first | refine blk_drewN ?_ _ | refine blk_drew ?_ | refine blk_alloc ?_ _)); refine blk_put (cs := #[.slice Ao30 t149.length co30, .slice none 0 0, .int .i64 0]) ?_ 1 _ rfl; (with_reducible repeat (first | refine blk_drewN ?_ _ | refine blk_drew ?_ | refine blk_alloc ?_ _)); refine blk_put (cs := #[.slice none 0 0, .slice none 0 0, .int .i64 0]) ?_ 0 _ rfl; (with_reducible repeat (first | refine blk_drewN ?_ _ | refine blk_drew ?_ | refine blk_alloc ?_ _)); exact BK156.out))⟩; have n5_ : Aside0 (Below w.heap.size w w35) := ⟨(by rw [hw]; exact (pB HB.out))⟩; clear hw; clear HO151; clear HO154; clear BK145; clear BK146; clear BK156; clear HB; have HO151 := n0_; have HO154 := n1_; have BK145 := n2_; have BK146 := n3_; have BK156 := n4_; have HB := n5_; clear n0_ n1_ n2_ n3_ n4_ n5_; obtain ⟨hcz36_0, hcz36_1, hcz36_2, hfz36_0, hfz36_1, hfz36_2⟩ := bk3 BK156.out; obtain ⟨hcz37_0, hcz37_1, hcz37_2, hfz37_0, hfz37_1, hfz37_2⟩ := bk3 BK145.out; have p23 : 0 ≤ (a1 : Int) := od; have q23 : (a1 : Int) < ((t149.length : Int) : Int) := od; obtain ⟨go23, co23, eo23, gb23, gl23, cl23, HG23⟩ := Kd.R_form HO151.out (by omega); (first | cases eo23 | (injection eo23 with ea_ en_ ec_; (first | subst ea_ | (injection ea_ with ea_; subst ea_)); subst ec_; clear en_)); have GB23 := Aside0.mk gb23; have GG23 := Aside0.mk HG23; clear gb23 gl23 HG23; obtain ⟨hx23_0, hf23_0⟩ := Kd.R_celln 0 HO151.out (a1 : Int) p23 q23; replace p23 := eq_true p23; replace q23 := eq_true q23; obtain ⟨hy38_, hz38_⟩ := Kd.R_celln 0 HO151.out (a1 : Int) od od; have HP38 := Kd.R_putg HO151.out (a1 : Int) a0_2))
                    replace BK145 := Aside0.mk (blk_drew BK145.out)
                    replace BK146 := Aside0.mk (blk_drew BK146.out)
                    replace HO151 := Aside0.mk (Kd.R_drew HO151.out)
                    replace HO154 := Aside0.mk (Kd.R_drew HO154.out)
                    replace BK156 := Aside0.mk (blk_drew BK156.out)
                    replace HB := Aside0.mk (below_drew1 HB.out)
                    replace hcz36_0 := cell_dr hcz36_0
                    replace hcz36_1 := cell_dr hcz36_1
                    replace hcz36_2 := cell_dr hcz36_2
                    replace hcz37_0 := cell_dr hcz37_0
                    replace hcz37_1 := cell_dr hcz37_1
                    replace hcz37_2 := cell_dr hcz37_2
                    replace hx148_0 := cell_dr hx148_0
                    replace hx23_0 := cell_dr hx23_0
                    replace hy38_ := cell_dr hy38_
                    replace hfz36_0 := froz_dr hfz36_0
                    replace hfz36_1 := froz_dr hfz36_1
                    replace hfz36_2 := froz_dr hfz36_2
                    replace hfz37_0 := froz_dr hfz37_0
                    replace hfz37_1 := froz_dr hfz37_1
                    replace hfz37_2 := froz_dr hfz37_2
                    replace hf23_0 := froz_dr hf23_0
                    replace hz38_ := froz_dr hz38_
                    refine start_ (n := 15) (S := fun w' => w'.cell? ⟨gb156, 0, none⟩ = some (.slice (some ⟨go23, 0, none⟩) t149.length co30) ∧ w'.cell? ⟨gb156, 1, none⟩ = some (.slice Ao34 t152.length co34) ∧ w'.cell? ⟨gb145, 2, none⟩ = some (.int .i64 a0_2)) (ds := [12, 14]) #[false, false, false, false, false, false, false, false, false, false, false, false, false, false, false] (by kernel_rfl) rfl rfl ⟨(blk_cell BK156.out 0).trans rfl, (blk_cell BK156.out 1).trans rfl, (blk_cell BK145.out 2).trans rfl⟩ (fun hHeld => ?_)
                    generalize w35.drew = w35 at BK145 BK146 HO151 HO154 BK156 HB hcz36_0 hcz36_1 hcz36_2 hcz37_0 hcz37_1 hcz37_2 hx148_0 hx23_0 hy38_ hfz36_0 hfz36_1 hfz36_2 hfz37_0 hfz37_1 hfz37_2 hf23_0 hz38_ hHeld ⊢
                    have HP38 := Kd.R_putg HO151.out (a1 : Int) a0_2
                    refine pure_ (i := 0) (N := some 36) (v := ?_) (a' := ?_) #[true, false, false, false, false, false, false, false, false, false, false, false, false, false, false] rfl rfl (by kernel_rfl) (fun _ _ _ h => h) (Or.inl ⟨by rfl, ?_⟩) ?_ ?_
                    rotate_left
                    · intro w'
                      go_simp
                      with_reducible rfl
                    rotate_left
                    · simp only [Act.put, List.setIfInBounds_toArray, List.set_cons_zero, List.set_cons_succ, i64_w, i32_w]
                      rfl
                    refine pure_ (i := 2) (N := some 38) (v := ?_) (a' := ?_) #[true, false, true, false, false, false, false, false, false, false, false, false, false, false, false] rfl rfl (by kernel_rfl) (fun _ _ _ h => h) (Or.inl ⟨by rfl, ?_⟩) ?_ ?_
                    rotate_left
                    · intro w'
                      go_simp
                      with_reducible rfl
                    rotate_left
                    · simp only [Act.put, List.setIfInBounds_toArray, List.set_cons_zero, List.set_cons_succ, i64_w, i32_w]
                      rfl
                    refine pure_ (i := 3) (N := some 39) (v := ?_) (a' := ?_) #[true, false, true, true, false, false, false, false, false, false, false, false, false, false, false] rfl rfl (by kernel_rfl) (fun _ _ _ h => h) (Or.inl ⟨by rfl, ?_⟩) ?_ ?_
                    rotate_left
                    · intro w'
                      go_simp
                      with_reducible rfl
                    rotate_left
                    · simp only [Act.put, List.setIfInBounds_toArray, List.set_cons_zero, List.set_cons_succ, i64_w, i32_w]
                      rfl
                    refine pure_ (i := 5) (N := some 41) (v := ?_) (a' := ?_) #[true, false, true, true, false, true, false, false, false, false, false, false, false, false, false] rfl rfl (by kernel_rfl) (fun _ _ _ h => h) (Or.inl ⟨by rfl, ?_⟩) ?_ ?_
                    rotate_left
                    · intro w'
                      go_simp
                      with_reducible rfl
                    rotate_left
                    · simp only [Act.put, List.setIfInBounds_toArray, List.set_cons_zero, List.set_cons_succ, i64_w, i32_w]
                      rfl
                    refine pure_ (i := 6) (N := some 42) (v := ?_) (a' := ?_) #[true, false, true, true, false, true, true, false, false, false, false, false, false, false, false] rfl rfl (by kernel_rfl) (fun _ _ _ h => h) (Or.inl ⟨by rfl, ?_⟩) ?_ ?_
                    rotate_left
                    · intro w'
                      go_simp
                      with_reducible rfl
                    rotate_left
                    · simp only [Act.put, List.setIfInBounds_toArray, List.set_cons_zero, List.set_cons_succ, i64_w, i32_w]
                      rfl
                    refine pure_ (i := 8) (N := some 44) (v := ?_) (a' := ?_) #[true, false, true, true, false, true, true, false, true, false, false, false, false, false, false] rfl rfl (by kernel_rfl) (fun _ _ _ h => h) (Or.inl ⟨by rfl, ?_⟩) ?_ ?_
                    rotate_left
                    · intro w'
                      go_simp
                      with_reducible rfl
                    rotate_left
                    · simp only [Act.put, List.setIfInBounds_toArray, List.set_cons_zero, List.set_cons_succ, i64_w, i32_w]
                      rfl
                    refine take_ (i := 1) (N := some 37) (v := ?_) (a' := ?_) #[true, true, true, true, false, true, true, false, true, false, false, false, false, false, false] rfl rfl (by kernel_rfl) (fun _ _ _ h => h) (Or.inl ⟨by rfl, ?_⟩) hHeld ?_ ?_
                    rotate_left
                    · rintro w' ⟨s0, s1, s2⟩
                      go_simp
                      with_reducible rfl
                    rotate_left
                    · simp only [Act.put, List.setIfInBounds_toArray, List.set_cons_zero, List.set_cons_succ, i64_w, i32_w]
                      rfl
                    refine take_ (i := 4) (N := some 40) (v := ?_) (a' := ?_) #[true, true, true, true, true, true, true, false, true, false, false, false, false, false, false] rfl rfl (by kernel_rfl) (fun _ _ _ h => h) (Or.inl ⟨by rfl, ?_⟩) hHeld ?_ ?_
                    rotate_left
                    · rintro w' ⟨s0, s1, s2⟩
                      go_simp
                      with_reducible rfl
                    rotate_left
                    · simp only [Act.put, List.setIfInBounds_toArray, List.set_cons_zero, List.set_cons_succ, i64_w, i32_w]
                      rfl
                    refine take_ (i := 7) (N := some 43) (v := ?_) (a' := ?_) #[true, true, true, true, true, true, true, true, true, false, false, false, false, false, false] rfl rfl (by kernel_rfl) (fun _ _ _ h => h) (Or.inl ⟨by rfl, ?_⟩) hHeld ?_ ?_
                    rotate_left
                    · rintro w' ⟨s0, s1, s2⟩
                      go_simp
                      with_reducible rfl
                    rotate_left
                    · simp only [Act.put, List.setIfInBounds_toArray, List.set_cons_zero, List.set_cons_succ, i64_w, i32_w]
                      rfl
                    refine pure_ (i := 9) (N := some 45) (v := ?_) (a' := ?_) #[true, true, true, true, true, true, true, true, true, true, false, false, false, false, false] rfl rfl (by kernel_rfl) (fun _ _ _ h => h) (Or.inl ⟨by rfl, ?_⟩) ?_ ?_
                    rotate_left
                    · intro w'
                      go_simp
                      with_reducible rfl
                    rotate_left
                    · simp only [Act.put, List.setIfInBounds_toArray, List.set_cons_zero, List.set_cons_succ, i64_w, i32_w]
                      rfl
                    refine one_ (i := 10) (N := none) #[true, true, true, true, true, true, true, true, true, true, true, false, false, false, false] rfl rfl (by kernel_rfl) (by decide) (fun K hK => ?_)
                    refine skip_ (w1 := (w35.setCell ⟨go23, (a1 : Int).toNat, none⟩ (.int .i64 a0_2))) (by rfl) rfl ?_ ?_
                    · go_simp
                      first | done | rfl
                    refine hK.out _ _ ⟨((cell_far (fun e_ => Kd.R_ne HO151.out BK156.out (by decide) (by rw [show gb156 = _ from e_]; rfl)) _).trans hHeld.1), ((cell_far (fun e_ => Kd.R_ne HO151.out BK156.out (by decide) (by rw [show gb156 = _ from e_]; rfl)) _).trans hHeld.2.1), ((cell_far (fun e_ => Kd.R_ne HO151.out BK145.out (by decide) (by rw [show gb145 = _ from e_]; rfl)) _).trans hHeld.2.2)⟩ (fun hHeld => ?_)
                    clear hK K
                    generalize hw_ : (w35.setCell ⟨go23, (a1 : Int).toNat, none⟩ (.int .i64 a0_2)) = w39 at hHeld ⊢
                    have hw := hw_.symm
                    clear hw_
                    have hg : w35.grownBy w39 (some go23) := (by rw [hw]; exact HP38.2)
                    have hp_ : Kd.R (Kd.int .i64) 3 w39 w.heap.size (fun _ => True) (.slice (some ⟨go23, 0, none⟩) t149.length co30) y157 := (by rw [hw, Ny157.out]; exact HP38.1)
                    (try clear HP38)
                    have n0_ := Aside0.mk (blk_grown (pK BK145.out) hg (Kd.R_ne HO151.out BK145.out (by decide)))
                    have n1_ := Aside0.mk (blk_grown (pK BK146.out) hg (Kd.R_ne HO151.out BK146.out (by decide)))
                    have n2_ := Aside0.mk (hp_)
                    have n3_ := Aside0.mk (Kd.R_over' (v := (.slice (some ⟨go23, 0, none⟩) t149.length co30)) (Kd.pR HO154.out) (Kd.R_typed HO151.out) (by decide) hg)
                    have n4_ := Aside0.mk (blk_grown (pK BK156.out) hg (Kd.R_ne HO151.out BK156.out (by decide)))
                    have n5_ := Aside0.mk ((by rw [hw]; exact below_set (HB.out) GB23.out : Below w.heap.size w w39))
                    clear BK145
                    clear BK146
                    clear HO151
                    clear HO154
                    clear BK156
                    clear HB
                    have BK145 := n0_
                    have BK146 := n1_
                    have HO151 := n2_
                    have HO154 := n3_
                    have BK156 := n4_
                    have HB := n5_
                    clear n0_ n1_ n2_ n3_ n4_ n5_
                    clear hg hw hp_
                    have p25 : 0 ≤ (a1 : Int) := od
                    have q25 : (a1 : Int) < ((t152.length : Int) : Int) := od
                    obtain ⟨go25, co25, eo25, gb25, gl25, cl25, HG25⟩ := Kd.R_form HO154.out (by omega)
                    (first | cases eo25 | (injection eo25 with ea_ en_ ec_; (first | subst ea_ | (injection ea_ with ea_; subst ea_)); subst ec_; clear en_))
                    have GB25 := Aside0.mk gb25
                    have GG25 := Aside0.mk HG25
                    clear gb25 gl25 HG25
                    obtain ⟨hx25_0, hf25_0⟩ := Kd.R_celln false HO154.out (a1 : Int) p25 q25
                    replace p25 := eq_true p25
                    replace q25 := eq_true q25
                    obtain ⟨hy40_, hz40_⟩ := Kd.R_celln false HO154.out (a1 : Int) od od
                    have HP40 := Kd.R_putg HO154.out (a1 : Int) false
                    refine pure_ (i := 11) (N := some 46) (v := ?_) (a' := ?_) #[true, true, true, true, true, true, true, true, true, true, true, true, false, false, false] rfl rfl (by kernel_rfl) (fun _ _ _ h => h) (Or.inl ⟨by rfl, ?_⟩) ?_ ?_
                    rotate_left
                    · intro w'
                      go_simp
                      with_reducible rfl
                    rotate_left
                    · simp only [Act.put, List.setIfInBounds_toArray, List.set_cons_zero, List.set_cons_succ, i64_w, i32_w]
                      rfl
                    refine last_ (i := 12) (N := none) #[true, true, true, true, true, true, true, true, true, true, true, true, true, false, false] rfl rfl (by kernel_rfl) (by decide) (fun K hK => ?_)
                    refine skip_ (w1 := (w39.setCell ⟨go25, (a1 : Int).toNat, none⟩ (.bool false))) (by rfl) rfl ?_ ?_
                    · go_simp
                      first | done | rfl
                    refine hK.out _ _ ?_
                    clear hK K
                    generalize hw_ : (w39.setCell ⟨go25, (a1 : Int).toNat, none⟩ (.bool false)) = w41 at ⊢
                    have hw := hw_.symm
                    (try clear hw_)
                    have hg : w39.grownBy w41 (some go25) := (by rw [hw]; exact HP40.2)
                    have hp_ : Kd.R Kd.bool 4 w41 w.heap.size (fun _ => True) (.slice (some ⟨go25, 0, none⟩) t152.length co34) y158 := (by rw [hw, Ny158.out]; exact HP40.1)
                    (try clear HP40)
                    have n0_ := Aside0.mk (blk_grown (pK BK145.out) hg (Kd.R_ne HO154.out BK145.out (by decide)))
                    have n1_ := Aside0.mk (blk_grown (pK BK146.out) hg (Kd.R_ne HO154.out BK146.out (by decide)))
                    have n2_ := Aside0.mk (Kd.R_over' (v := (.slice (some ⟨go25, 0, none⟩) t152.length co34)) (Kd.pR HO151.out) (Kd.R_typed HO154.out) (by decide) hg)
                    have n3_ := Aside0.mk (hp_)
                    have n4_ := Aside0.mk (blk_grown (pK BK156.out) hg (Kd.R_ne HO154.out BK156.out (by decide)))
                    have n5_ := Aside0.mk ((by rw [hw]; exact below_set (HB.out) GB25.out : Below w.heap.size w w41))
                    clear BK145
                    clear BK146
                    clear HO151
                    clear HO154
                    clear BK156
                    clear HB
                    have BK145 := n0_
                    have BK146 := n1_
                    have HO151 := n2_
                    have HO154 := n3_
                    have BK156 := n4_
                    have HB := n5_
                    clear n0_ n1_ n2_ n3_ n4_ n5_
                    clear hg hw hp_
                    obtain ⟨hcz42_0, hcz42_1, hcz42_2, hfz42_0, hfz42_1, hfz42_2⟩ := bk3 BK156.out
                    obtain ⟨hcz43_0, hcz43_1, hcz43_2, hfz43_0, hfz43_1, hfz43_2⟩ := bk3 BK146.out
                    refine pure_ (i := 13) (N := some 47) (v := ?_) (a' := ?_) #[true, true, true, true, true, true, true, true, true, true, true, true, true, true, false] rfl rfl (by kernel_rfl) (fun _ _ _ h => h) (Or.inl ⟨by rfl, ?_⟩) ?_ ?_
                    rotate_left
                    · intro w'
                      go_simp
                      with_reducible rfl
                    rotate_left
                    · simp only [Act.put, List.setIfInBounds_toArray, List.set_cons_zero, List.set_cons_succ, i64_w, i32_w]
                      rfl
                    refine last_ (i := 14) (N := none) #[true, true, true, true, true, true, true, true, true, true, true, true, true, true, true] rfl rfl (by kernel_rfl) (by decide) (fun K hK => ?_)
                    refine skip_ (w1 := ?_) (by rfl) rfl ?_ ?_
                    rotate_left
                    · go_simp
                      rfl
                    refine hK.out _ _ ?_
                    clear hK K
                    refine done_ (by kernel_rfl) ?_
                    try go_wp2_with (fail)
                    refine bodyPost_ret (results_ct rfl _ _ gb146 36 #[.slice (some ⟨go23, 0, none⟩) t149.length co30, .slice (some ⟨go25, 0, none⟩) t152.length co34, .int .i64 a1] (0, 0) _ rfl (by (with_reducible repeat (first | refine blk_drewN ?_ _ | refine blk_drew ?_ | refine blk_alloc ?_ _)); refine blk_put (cs := #[.slice (some ⟨go23, 0, none⟩) t149.length co30, .slice (some ⟨go25, 0, none⟩) t152.length co34, .int .i64 0]) ?_ 2 _ rfl; (with_reducible repeat (first | refine blk_drewN ?_ _ | refine blk_drew ?_ | refine blk_alloc ?_ _)); refine blk_put (cs := #[.slice (some ⟨go23, 0, none⟩) t149.length co30, .slice none 0 0, .int .i64 0]) ?_ 1 _ rfl; (with_reducible repeat (first | refine blk_drewN ?_ _ | refine blk_drew ?_ | refine blk_alloc ?_ _)); refine blk_put (cs := #[.slice none 0 0, .slice none 0 0, .int .i64 0]) ?_ 0 _ rfl; (with_reducible repeat (first | refine blk_drewN ?_ _ | refine blk_drew ?_ | refine blk_alloc ?_ _)); refine blk_far ?_ NB146_156.out _; (with_reducible repeat (first | refine blk_drewN ?_ _ | refine blk_drew ?_ | refine blk_alloc ?_ _)); exact BK146.out) Try.underlying36 rfl (by kernel_rfl)) rfl ?_
                    exact ⟨_, _, by first | rfl | (simp [errW_none, errW_some] <;> rfl) | (simp [*, errW_none, errW_some] <;> rfl), Kd.pR (Kd.R_mono (Kd.R_far (p := ⟨gb146, 2, none⟩) (Kd.R_far (p := ⟨gb146, 1, none⟩) (Kd.R_far (p := ⟨gb146, 0, none⟩) (Kd.R_far (p := ⟨gb156, 2, none⟩) (Kd.R_types (Kd.R_types HO151.out BK156.out (by decide)) BK146.out (by decide)) (fun _ hk => hk.1.2) (.int .i64 a1)) (fun _ hk => hk.2) (.slice (some ⟨go23, 0, none⟩) t149.length co30)) (fun _ hk => hk.2) (.slice (some ⟨go25, 0, none⟩) t152.length co34)) (fun _ hk => hk.2) (.int .i64 a1)) (fun _ hk => trivial)), Kd.pR (Kd.R_mono (Kd.R_far (p := ⟨gb146, 2, none⟩) (Kd.R_far (p := ⟨gb146, 1, none⟩) (Kd.R_far (p := ⟨gb146, 0, none⟩) (Kd.R_far (p := ⟨gb156, 2, none⟩) (Kd.R_types (Kd.R_types HO154.out BK156.out (by decide)) BK146.out (by decide)) (fun _ hk => hk.1.2) (.int .i64 a1)) (fun _ hk => hk.2) (.slice (some ⟨go23, 0, none⟩) t149.length co30)) (fun _ hk => hk.2) (.slice (some ⟨go25, 0, none⟩) t152.length co34)) (fun _ hk => hk.2) (.int .i64 a1)) (fun _ hk => trivial)), pB HB.out⟩
                  · rw [if_neg c24] at H
                    exact absurd H (by simp)
                · rw [if_neg c22] at H
                  exact absurd H (by simp)
              · replace c20 := Bool.eq_false_iff.mpr c20
                subst c20
                have H1 : (some (([] : List Int), ([] : List Bool), 0, 36)) = some (r1, r2, r3, r4) := by rw [if_neg (show ¬ (false = true) by decide)] at H; exact H
                clear H
                have H := H1
                (try clear H1)
                simp only [Option.some.injEq, Prod.mk.injEq] at H
                obtain ⟨rfl, rfl, rfl, rfl⟩ := H
                have hnb44 := NB145_146.out
                have hnc44 := NB146_145.out
                obtain ⟨hcz45_0, hcz45_1, hcz45_2, hfz45_0, hfz45_1, hfz45_2⟩ := bk3 BK145.out
                have p148 : 0 ≤ (a1 : Int) := od
                have q148 : a1 < (l0_1.length : Int) := od
                obtain ⟨ad148, e148, hx148_0⟩ := Kd.at_bool HR0_1.out a1 p148 q148
                (try rw [← Nbq19.out] at hx148_0)
                cases e148
                replace hx148_0 := (HB.out.cell (World.block_lt_of_cell? w _ hx148_0)).trans hx148_0
                replace p148 := eq_true p148
                replace q148 := eq_true q148
                obtain ⟨hcz46_0, hcz46_1, hcz46_2, hfz46_0, hfz46_1, hfz46_2⟩ := bk3 BK146.out
                go_wp2
                refine bodyPost_ret (results_ct rfl _ _ gb146 36 #[.slice none 0 0, .slice none 0 0, .int .i64 0] (0, 0) _ rfl (by (with_reducible repeat (first | refine blk_drewN ?_ _ | refine blk_drew ?_ | refine blk_alloc ?_ _)); refine blk_put (cs := #[.slice none 0 0, .slice none 0 0, .int .i64 0]) ?_ 2 _ rfl; (with_reducible repeat (first | refine blk_drewN ?_ _ | refine blk_drew ?_ | refine blk_alloc ?_ _)); refine blk_put (cs := #[.slice none 0 0, .slice none 0 0, .int .i64 0]) ?_ 1 _ rfl; (with_reducible repeat (first | refine blk_drewN ?_ _ | refine blk_drew ?_ | refine blk_alloc ?_ _)); refine blk_put (cs := #[.slice none 0 0, .slice none 0 0, .int .i64 0]) ?_ 0 _ rfl; (with_reducible repeat (first | refine blk_drewN ?_ _ | refine blk_drew ?_ | refine blk_alloc ?_ _)); exact BK146.out) Try.underlying36 rfl (by kernel_rfl)) rfl ?_
                exact ⟨_, _, by first | rfl | (simp [errW_none, errW_some] <;> rfl) | (simp [*, errW_none, errW_some] <;> rfl), by first | exact Kd.R_nil _ _ _ _ _ | exact Kd.N_nil _ _ _ _ _ | exact Kd.V_nil _ _ _ _ _ | exact Kd.Q_nil _ _ _ _ _ | exact Kd.S_nil _ _ _ _ _, by first | exact Kd.R_nil _ _ _ _ _ | exact Kd.N_nil _ _ _ _ _ | exact Kd.V_nil _ _ _ _ _ | exact Kd.Q_nil _ _ _ _ _ | exact Kd.S_nil _ _ _ _ _, pB HB.out⟩
            · rw [if_neg c18] at H
              exact absurd H (by simp)
          · rw [if_neg c17] at H
            exact absurd H (by simp)
  · rw [if_neg c4] at H
    have c4b0 : (t147 == 0) = false := beq_eq_false_iff_ne.mpr c4
    have c4b1 : (t147 != 0) = true := bne_iff_ne.mpr c4
    simp only [Option.some.injEq, Prod.mk.injEq] at H
    obtain ⟨rfl, rfl, rfl, rfl⟩ := H
    go_enter Try.func26, Try.ntmps26
    go_wp2_with (first | ((with_reducible refine gate_dst (N := 2) rfl ?_); (try (refine gate_guard (by rfl) ?_; dsimp only)); refine boxE (N := 2) (cs := #[.slice A0_0 l0_0.length c0_0, .slice A0_1 l0_1.length c0_1, .int .i64 a0_2]) (t := 36) ?_; intro gb145 hg w47 hbox hb; have n0_ := Aside0.mk (below_step (pB HB.out) hb); have n1_ := Aside0.mk (hbox); have n3_ := Aside0.mk (pL HB.out hg); clear HB; have HB := n0_; have BK145 := n1_; have GE145 := n3_; clear n0_ n1_ n3_; clear hb hbox hg) | ((with_reducible refine gate_dst (N := 4) rfl ?_); (try (refine gate_guard (by rfl) ?_; dsimp only)); refine boxE (N := 4) (cs := #[.slice none 0 0, .slice none 0 0, .int .i64 0]) (t := 36) ?_; intro gb146 hg w48 hbox hb; have n0_ := Aside0.mk (blk_below (pK BK145.out) hb); have n1_ := Aside0.mk (below_step (pB HB.out) hb); have n2_ := Aside0.mk (hbox); have n4_ := Aside0.mk (pL HB.out hg); have n5_ := Aside0.mk (pNl BK145.out hg); have n6_ := Aside0.mk (pNg BK145.out hg); clear BK145; clear HB; have BK145 := n0_; have HB := n1_; have BK146 := n2_; have GE146 := n4_; have NB145_146 := n5_; have NB146_145 := n6_; clear n0_ n1_ n2_ n4_ n5_ n6_; clear hb hbox hg; have hnb49 := NB145_146.out; have hnc49 := NB146_145.out; obtain ⟨hcz50_0, hcz50_1, hcz50_2, hfz50_0, hfz50_1, hfz50_2⟩ := bk3 BK145.out) | ((with_reducible refine gate_callee (f := 35) rfl ?_); refine goesE (some 9) rfl rfl Try.func35 (by kernel_rfl) rfl #[.agg #[.slice A0_0 l0_0.length c0_0, .slice A0_1 l0_1.length c0_1, .int .i64 a0_2]] rfl ?_; (with_reducible refine (arena_Check.calls k _ _ l0_0 _ _ l0_1 a0_2 t147 _ ?side1 ?side2 ?side3 ?side4 A3.out).mono ?_); (case side1 => exact Kd.pC ((Kd.C_below HR0_0.out HB.out))); (case side2 => exact HC0_0.out); (case side3 => exact Kd.pC ((Kd.C_below HR0_1.out HB.out))); (case side4 => exact HC0_1.out); rintro e w51 ⟨rfl, hb⟩; refine ⟨_, rfl, ?_⟩; have n1_ := Aside0.mk (blk_below (pK BK146.out) hb); have n2_ := Aside0.mk (below_step (pB HB.out) hb); (try clear BK145); clear BK146; clear HB; have BK146 := n1_; have HB := n2_; clear n1_ n2_; (try clear hb); (try clear hb2); (try clear hk); (try clear hi); obtain ⟨hcz52_0, hcz52_1, hcz52_2, hfz52_0, hfz52_1, hfz52_2⟩ := bk3 BK146.out))
    refine bodyPost_ret (results_ct rfl _ _ gb146 36 #[.slice none 0 0, .slice none 0 0, .int .i64 0] (0, 0) _ rfl (by (with_reducible repeat (first | refine blk_drewN ?_ _ | refine blk_drew ?_ | refine blk_alloc ?_ _)); refine blk_put (cs := #[.slice none 0 0, .slice none 0 0, .int .i64 0]) ?_ 2 _ rfl; (with_reducible repeat (first | refine blk_drewN ?_ _ | refine blk_drew ?_ | refine blk_alloc ?_ _)); refine blk_put (cs := #[.slice none 0 0, .slice none 0 0, .int .i64 0]) ?_ 1 _ rfl; (with_reducible repeat (first | refine blk_drewN ?_ _ | refine blk_drew ?_ | refine blk_alloc ?_ _)); refine blk_put (cs := #[.slice none 0 0, .slice none 0 0, .int .i64 0]) ?_ 0 _ rfl; (with_reducible repeat (first | refine blk_drewN ?_ _ | refine blk_drew ?_ | refine blk_alloc ?_ _)); exact BK146.out) Try.underlying36 rfl (by kernel_rfl)) rfl ?_
    exact ⟨_, _, by first | rfl | (simp [errW_none, errW_some] <;> rfl) | (simp [*, errW_none, errW_some] <;> rfl), by first | exact Kd.R_nil _ _ _ _ _ | exact Kd.N_nil _ _ _ _ _ | exact Kd.V_nil _ _ _ _ _ | exact Kd.Q_nil _ _ _ _ _ | exact Kd.S_nil _ _ _ _ _, by first | exact Kd.R_nil _ _ _ _ _ | exact Kd.N_nil _ _ _ _ _ | exact Kd.V_nil _ _ _ _ _ | exact Kd.Q_nil _ _ _ _ _ | exact Kd.S_nil _ _ _ _ _, pB HB.out⟩

end Go.Proofs.Ytlgfopdindklnaa.PArena
