-- printed by a program of this session (a turned copy of the kit's print); Lean checks it
import Derived.Test.YtlgfopdindklnaaPArenax0
import Derived.Test.YtlgfopdindklnaaPArenax11
import Derived.Test.YtlgfopdindklnaaPArenax14
namespace Go.Proofs.Ytlgfopdindklnaa.PArena
open Go.RowKit Go.Proofs.YtlgfopdindklnaaW.PrintWords Go.Proofs.YtlgfopdindklnaaW.PrintLast Go.Proofs.YtlgfopdindklnaaW.PrintMore
attribute [local go_sem] max2_int min2_int max_two min_two max_three min_three max_four min_four   -- for this text's walks alone
set_option linter.unusedVariables false
set_option linter.unusedSimpArgs false

/-! ### spigotref13_Give: function 32 -/
def spigotref13_Give.j0 : Nat → Int → Bool → List Int → List Bool → Int → Option (List Int × List Bool × Int × Int)
  | 0, _, _, _, _, _ => none
  | k + 1, x1, x21, x400000, x400001, x400002 => if x21 = true then (some (([] : List Int), ([] : List Bool), 0, 2)) else (if 0 ≤ x1 then (if x1 < (x400001.length : Int) then (if rdOf false x400001 x1 = true then ((spigotref13_Twin.f x400000 x400001 x400002).bind fun bt404 => (if x1 < (bt404.2.1.length : Int) then (if x1 < (bt404.1.length : Int) then (some ((bt404.1.set (x1 : Int).toNat x400002), (bt404.2.1.set (x1 : Int).toNat false), x1, 0)) else (none)) else (none))) else (some (([] : List Int), ([] : List Bool), 0, 36))) else (none)) else (none))
def spigotref13_Give.f (k : Nat) (l0_0 : List Int) (l0_1 : List Bool) (a0_2 : Int) (a1 : Int) : Option (List Int × List Bool × Int × Int) := (spigotref13_Check.f k l0_0 l0_1 a0_2).bind fun t401 => (if t401 = 0 then (if a1 < 0 then (spigotref13_Give.j0 k a1 true l0_0 l0_1 a0_2) else (spigotref13_Give.j0 k a1 (decide (a1 ≥ (l0_1.length : Int))) l0_0 l0_1 a0_2)) else ((spigotref13_Check.f k l0_0 l0_1 a0_2).bind fun t402 => (some (([] : List Int), ([] : List Bool), 0, t402))))
theorem spigotref13_Give.mono_l : ∀ k, (∀ y0 y1 y2 y3 y4, LeO (spigotref13_Give.j0 k y0 y1 y2 y3 y4) (spigotref13_Give.j0 (k + 1) y0 y1 y2 y3 y4))
  | 0 => fun _ _ _ _ _ r h => by simp [spigotref13_Give.j0] at h
  | k + 1 => by
    have ih0 := spigotref13_Give.mono_l k
    · intro y0 y1 y2 y3 y4
      unfold spigotref13_Give.j0
      repeat' first
      | (with_reducible exact ih0 _ _ _ _ _)
      | (with_reducible exact spigotref13_Check.mono _ _ _ _)
      | (with_reducible exact LeO.refl _)
      | (with_reducible exact LeO.none _)
      | (with_reducible refine LeO.ite ?_ ?_)
      | (with_reducible refine LeO.bind ?_ (fun _ => ?_))
      | exact ih0 _ _ _ _ _
      | exact spigotref13_Check.mono _ _ _ _
      | exact LeO.none _
      | refine LeO.ite ?_ ?_
      | refine LeO.bind ?_ (fun _ => ?_)
theorem spigotref13_Give.mono : ∀ a0 a1 a2 a3 k, LeO (spigotref13_Give.f k a0 a1 a2 a3) (spigotref13_Give.f (k + 1) a0 a1 a2 a3) := by
  intro a0 a1 a2 a3 k
  have ih0 := spigotref13_Give.mono_l k
  unfold spigotref13_Give.f
  repeat' first
      | (with_reducible exact ih0 _ _ _ _ _)
      | (with_reducible exact spigotref13_Check.mono _ _ _ _)
      | (with_reducible exact LeO.refl _)
      | (with_reducible exact LeO.none _)
      | (with_reducible refine LeO.ite ?_ ?_)
      | (with_reducible refine LeO.bind ?_ (fun _ => ?_))
      | exact ih0 _ _ _ _ _
      | exact spigotref13_Check.mono _ _ _ _
      | exact LeO.none _
      | refine LeO.ite ?_ ?_
      | refine LeO.bind ?_ (fun _ => ?_)
set_option maxHeartbeats 8000000 in
set_option maxRecDepth 100000 in
theorem spigotref13_Give.calls (k : Nat) (A0_0 : Option Addr) (c0_0 : Nat) (l0_0 : List Int) (A0_1 : Option Addr) (c0_1 : Nat) (l0_1 : List Bool) (a0_2 : Int) (a1 : Int) (r1 : List Int) (r2 : List Bool) (r3 : Int) (r4 : Int) (w : World) (hr0_0 : Kd.C (Kd.int .i64) w A0_0 l0_0.length l0_0) (hc0_0 : l0_0.length ≤ c0_0) (hr0_1 : Kd.C Kd.bool w A0_1 l0_1.length l0_1) (hc0_1 : l0_1.length ≤ c0_1) (h : spigotref13_Give.f k l0_0 l0_1 a0_2 a1 = some (r1, r2, r3, r4)) :
    Calls Try.prog 32 #[.agg #[.slice A0_0 l0_0.length c0_0, .slice A0_1 l0_1.length c0_1, .int .i64 a0_2], .int .i64 a1] w fun e w' => ∃ v0_ v1_ : Value, e = .returned (.tuple #[.agg #[v0_, v1_, .int .i64 r3], .int .i64 r4]) ∧ Kd.R (Kd.int .i64) 3 w' w.heap.size (fun _ => True) v0_ r1 ∧ Kd.R Kd.bool 4 w' w.heap.size (fun _ => True) v1_ r2 ∧ Below w.heap.size w w' := by
  have hu36 := Try.underlying36
  have HR0_0 := Aside0.mk hr0_0
  have HC0_0 := Aside0.mk hc0_0
  clear hr0_0 hc0_0
  have HR0_1 := Aside0.mk hr0_1
  have HC0_1 := Aside0.mk hc0_1
  clear hr0_1 hc0_1
  have HB := Aside0.mk (Below.refl w.heap.size w)
  have H : ((spigotref13_Check.f k l0_0 l0_1 a0_2).bind fun t401 => (if t401 = 0 then (if a1 < 0 then (spigotref13_Give.j0 k a1 true l0_0 l0_1 a0_2) else (spigotref13_Give.j0 k a1 (decide (a1 ≥ (l0_1.length : Int))) l0_0 l0_1 a0_2)) else ((spigotref13_Check.f k l0_0 l0_1 a0_2).bind fun t402 => (some (([] : List Int), ([] : List Bool), 0, t402))))) = some (r1, r2, r3, r4) := h
  (try clear h)
  replace H := Option.bind_eq_some_iff.mp H
  obtain ⟨t401, A30, H⟩ := H
  replace H : (if t401 = 0 then (if a1 < 0 then (spigotref13_Give.j0 k a1 true l0_0 l0_1 a0_2) else (spigotref13_Give.j0 k a1 (decide (a1 ≥ (l0_1.length : Int))) l0_0 l0_1 a0_2)) else ((spigotref13_Check.f k l0_0 l0_1 a0_2).bind fun t402 => (some (([] : List Int), ([] : List Bool), 0, t402)))) = some (r1, r2, r3, r4) := H
  have A3 := Aside0.mk A30
  (try clear A30)
  by_cases c4 : t401 = 0
  · rw [if_pos c4] at H
    have c4b0 : (t401 == 0) = true := beq_iff_eq.mpr c4
    have c4b1 : (t401 != 0) = false := bne_eq_false_iff_eq.mpr c4
    clear c4
    have HC5 := Aside0.mk H
    clear H
    go_enter Try.func32, Try.ntmps32
    go_upto_region 3 with (first | ((with_reducible refine gate_dst (N := 2) rfl ?_); (try (refine gate_guard (by rfl) ?_; dsimp only)); refine boxE (N := 2) (cs := #[.slice A0_0 l0_0.length c0_0, .slice A0_1 l0_1.length c0_1, .int .i64 a0_2]) (t := 36) ?_; intro gb399 hg w6 hbox hb; have n0_ := Aside0.mk (below_step (pB HB.out) hb); have n1_ := Aside0.mk (hbox); have n3_ := Aside0.mk (pL HB.out hg); clear HB; have HB := n0_; have BK399 := n1_; have GE399 := n3_; clear n0_ n1_ n3_; clear hb hbox hg) | ((with_reducible refine gate_dst (N := 4) rfl ?_); (try (refine gate_guard (by rfl) ?_; dsimp only)); refine boxE (N := 4) (cs := #[.slice none 0 0, .slice none 0 0, .int .i64 0]) (t := 36) ?_; intro gb400 hg w7 hbox hb; have n0_ := Aside0.mk (blk_below (pK BK399.out) hb); have n1_ := Aside0.mk (below_step (pB HB.out) hb); have n2_ := Aside0.mk (hbox); have n4_ := Aside0.mk (pL HB.out hg); have n5_ := Aside0.mk (pNl BK399.out hg); have n6_ := Aside0.mk (pNg BK399.out hg); clear BK399; clear HB; have BK399 := n0_; have HB := n1_; have BK400 := n2_; have GE400 := n4_; have NB399_400 := n5_; have NB400_399 := n6_; clear n0_ n1_ n2_ n4_ n5_ n6_; clear hb hbox hg; have hnb8 := NB399_400.out; have hnc8 := NB400_399.out; obtain ⟨hcz9_0, hcz9_1, hcz9_2, hfz9_0, hfz9_1, hfz9_2⟩ := bk3 BK399.out) | ((with_reducible refine gate_callee (f := 24) rfl ?_); refine goesE (some 8) rfl rfl Try.func24 (by kernel_rfl) rfl #[.agg #[.slice A0_0 l0_0.length c0_0, .slice A0_1 l0_1.length c0_1, .int .i64 a0_2]] rfl ?_; (with_reducible refine (spigotref13_Check.calls k _ _ l0_0 _ _ l0_1 a0_2 t401 _ ?side1 ?side2 ?side3 ?side4 A3.out).mono ?_); (case side1 => exact Kd.pC ((Kd.C_below HR0_0.out HB.out))); (case side2 => exact HC0_0.out); (case side3 => exact Kd.pC ((Kd.C_below HR0_1.out HB.out))); (case side4 => exact HC0_1.out); rintro e w10 ⟨rfl, hb⟩; refine ⟨_, rfl, ?_⟩; have n0_ := Aside0.mk (blk_below (pK BK399.out) hb); have n1_ := Aside0.mk (blk_below (pK BK400.out) hb); have n2_ := Aside0.mk (below_step (pB HB.out) hb); clear BK399; clear BK400; clear HB; have BK399 := n0_; have BK400 := n1_; have HB := n2_; clear n0_ n1_ n2_; (try clear hb); (try clear hb2); (try clear hk); (try clear hi)))
    (try simp only [Act.put, List.setIfInBounds_toArray, List.set_cons_zero, List.set_cons_succ])
    go_cut [21] (fun v21 wc => ∃ (kq : Nat) (x21_4 : Bool), v21 = .bool x21_4 ∧ Aside0 (spigotref13_Give.j0 kq a1 x21_4 l0_0 l0_1 a0_2 = some (r1, r2, r3, r4)) ∧ Aside0 (kq ≤ k) ∧ Aside0 (wc.heap[gb399]? = some (.cells #[(.slice A0_0 l0_0.length c0_0), (.slice A0_1 l0_1.length c0_1), .int .i64 a0_2] 36 (0, 0))) ∧ Aside0 (wc.heap[gb400]? = some (.cells #[(.slice none 0 0), (.slice none 0 0), .int .i64 0] 36 (0, 0))) ∧ Aside0 (Below w.heap.size w wc))
    case first =>
      have H := HC5.out
      (try clear HC5)
      by_cases c11 : a1 < 0
      · rw [if_pos c11] at H
        have c11b0 : decide (a1 < 0) = true := decide_eq_true c11
        clear c11
        (first | rw [c11b0] | (simp only [i64_w, i32_w]; rw [c11b0]) | skip)
        have H' := Aside0.mk H
        clear H
        go_wp2
        go_meet
        case rel => exact ⟨_, (true), (by first | rfl | (simp; done) | (simp [*]; done)), H', ⟨by first | omega | exact Nat.le_refl _⟩, ⟨pK BK399.out⟩, ⟨pK BK400.out⟩, ⟨pB HB.out⟩⟩
      · rw [if_neg c11] at H
        have c11b0 : decide (a1 < 0) = false := decide_eq_false c11
        clear c11
        (first | rw [c11b0] | (simp only [i64_w, i32_w]; rw [c11b0]) | skip)
        have H' := Aside0.mk H
        clear H
        have hnb12 := NB399_400.out
        have hnc12 := NB400_399.out
        obtain ⟨hcz13_0, hcz13_1, hcz13_2, hfz13_0, hfz13_1, hfz13_2⟩ := bk3 BK399.out
        go_wp2
        go_meet
        case rel => exact ⟨_, (decide (a1 ≥ (l0_1.length : Int))), (by first | rfl | (simp; done) | (simp [*]; done)), H', ⟨by first | omega | exact Nat.le_refl _⟩, ⟨pK BK399.out⟩, ⟨pK BK400.out⟩, ⟨pB HB.out⟩⟩
    case rest =>
      (try clear HC5)
      try clear c1
      try clear c2
      try clear p2
      try clear c3
      try clear c4
      try clear c4b0
      try clear c4b1
      try clear c8
      try clear c11
      try clear c11b0
      try clear c12
      try clear hcz13_0
      try clear hcz13_1
      try clear hcz13_2
      try clear hcz9_0
      try clear hcz9_1
      try clear hcz9_2
      try clear hfz13_0
      try clear hfz13_1
      try clear hfz13_2
      try clear hfz9_0
      try clear hfz9_1
      try clear hfz9_2
      obtain ⟨kq, x21_4, rfl, HA, HJ4, BK399, BK400, HB⟩ := hcut
      cases kq with
      | zero => exact absurd HA.out (by simp [spigotref13_Give.j0])
      | succ kj4 =>
        have H := HA.out
        (try clear HA)
        simp only [spigotref13_Give.j0] at H
        by_cases c14 : x21_4 = true
        · subst c14
          have H1 : (some (([] : List Int), ([] : List Bool), 0, 2)) = some (r1, r2, r3, r4) := by rw [if_pos rfl] at H; exact H
          clear H
          have H := H1
          clear H1
          simp only [Option.some.injEq, Prod.mk.injEq] at H
          obtain ⟨rfl, rfl, rfl, rfl⟩ := H
          have hnb15 := NB400_399.out
          have hnc15 := NB399_400.out
          obtain ⟨hcz16_0, hcz16_1, hcz16_2, hfz16_0, hfz16_1, hfz16_2⟩ := bk3 BK400.out
          go_wp2
          refine bodyPost_ret (results_ct rfl _ _ gb400 36 #[.slice none 0 0, .slice none 0 0, .int .i64 0] (0, 0) _ rfl (by (with_reducible repeat (first | refine blk_drewN ?_ _ | refine blk_drew ?_ | refine blk_alloc ?_ _)); refine blk_put (cs := #[.slice none 0 0, .slice none 0 0, .int .i64 0]) ?_ 2 _ rfl; (with_reducible repeat (first | refine blk_drewN ?_ _ | refine blk_drew ?_ | refine blk_alloc ?_ _)); refine blk_put (cs := #[.slice none 0 0, .slice none 0 0, .int .i64 0]) ?_ 1 _ rfl; (with_reducible repeat (first | refine blk_drewN ?_ _ | refine blk_drew ?_ | refine blk_alloc ?_ _)); refine blk_put (cs := #[.slice none 0 0, .slice none 0 0, .int .i64 0]) ?_ 0 _ rfl; (with_reducible repeat (first | refine blk_drewN ?_ _ | refine blk_drew ?_ | refine blk_alloc ?_ _)); exact BK400.out) Try.underlying36 rfl (by kernel_rfl)) rfl ?_
          exact ⟨_, _, by first | rfl | (simp [errW_none, errW_some] <;> rfl) | (simp [*, errW_none, errW_some] <;> rfl), by first | exact Kd.R_nil _ _ _ _ _ | exact Kd.N_nil _ _ _ _ _ | exact Kd.V_nil _ _ _ _ _ | exact Kd.Q_nil _ _ _ _ _ | exact Kd.S_nil _ _ _ _ _, by first | exact Kd.R_nil _ _ _ _ _ | exact Kd.N_nil _ _ _ _ _ | exact Kd.V_nil _ _ _ _ _ | exact Kd.Q_nil _ _ _ _ _ | exact Kd.S_nil _ _ _ _ _, pB HB.out⟩
        · replace c14 := Bool.eq_false_iff.mpr c14
          subst c14
          have H1 : (if 0 ≤ a1 then (if a1 < (l0_1.length : Int) then (if rdOf false l0_1 a1 = true then ((spigotref13_Twin.f l0_0 l0_1 a0_2).bind fun bt404 => (if a1 < (bt404.2.1.length : Int) then (if a1 < (bt404.1.length : Int) then (some ((bt404.1.set (a1 : Int).toNat a0_2), (bt404.2.1.set (a1 : Int).toNat false), a1, 0)) else (none)) else (none))) else (some (([] : List Int), ([] : List Bool), 0, 36))) else (none)) else (none)) = some (r1, r2, r3, r4) := by rw [if_neg (show ¬ (false = true) by decide)] at H; exact H
          clear H
          have H := H1
          clear H1
          by_cases c17 : 0 ≤ a1
          · rw [if_pos c17] at H
            have c17b0 : decide (0 ≤ a1) = true := decide_eq_true c17
            clear c17
            by_cases c18 : a1 < (l0_1.length : Int)
            · rw [if_pos c18] at H
              have c18b0 : decide (a1 < (l0_1.length : Int)) = true := decide_eq_true c18
              clear c18
              obtain ⟨bq19, hbq19⟩ : ∃ b_ : Bool, b_ = (rdOf false l0_1 a1) := ⟨_, rfl⟩
              replace H : (if bq19 = true then ((spigotref13_Twin.f l0_0 l0_1 a0_2).bind fun bt404 => (if a1 < (bt404.2.1.length : Int) then (if a1 < (bt404.1.length : Int) then (some ((bt404.1.set (a1 : Int).toNat a0_2), (bt404.2.1.set (a1 : Int).toNat false), a1, 0)) else (none)) else (none))) else (some (([] : List Int), ([] : List Bool), 0, 36))) = some (r1, r2, r3, r4) := by rw [← hbq19] at H; exact H
              have Nbq19 := Aside0.mk hbq19
              (try clear hbq19)
              by_cases c20 : bq19 = true
              · subst c20
                have H1 : ((spigotref13_Twin.f l0_0 l0_1 a0_2).bind fun bt404 => (if a1 < (bt404.2.1.length : Int) then (if a1 < (bt404.1.length : Int) then (some ((bt404.1.set (a1 : Int).toNat a0_2), (bt404.2.1.set (a1 : Int).toNat false), a1, 0)) else (none)) else (none))) = some (r1, r2, r3, r4) := by rw [if_pos rfl] at H; exact H
                clear H
                have H := H1
                clear H1
                replace H := Option.bind_eq_some_iff.mp H
                obtain ⟨⟨t404, t407, t410⟩, A210, H⟩ := H
                replace H : (if a1 < (t407.length : Int) then (if a1 < (t404.length : Int) then (some ((t404.set (a1 : Int).toNat a0_2), (t407.set (a1 : Int).toNat false), a1, 0)) else (none)) else (none)) = some (r1, r2, r3, r4) := H
                have A21 := Aside0.mk A210
                (try clear A210)
                by_cases c22 : a1 < (t407.length : Int)
                · rw [if_pos c22] at H
                  have c22b0 : decide (a1 < (t407.length : Int)) = true := decide_eq_true c22
                  clear c22
                  obtain ⟨y412, hy412⟩ : ∃ y_ : List Bool, y_ = (t407.set (a1 : Int).toNat false) := ⟨_, rfl⟩
                  replace H : (if a1 < (t404.length : Int) then (some ((t404.set (a1 : Int).toNat a0_2), y412, a1, 0)) else (none)) = some (r1, r2, r3, r4) := by first | (rw [hy412]; with_reducible exact H) | (have H2_ := (Option.bind_some _ _).symm.trans H; rw [hy412]; with_reducible exact H2_) | (have H2_ := (Option.bind_some _ _).symm.trans H; with_reducible exact H2_) | with_reducible exact H | (rw [hy412]; exact H) | exact H
                  have Ny412 := Aside0.mk hy412
                  (try clear hy412)
                  by_cases c24 : a1 < (t404.length : Int)
                  · rw [if_pos c24] at H
                    have c24b0 : decide (a1 < (t404.length : Int)) = true := decide_eq_true c24
                    clear c24
                    obtain ⟨y413, hy413⟩ : ∃ y_ : List Int, y_ = (t404.set (a1 : Int).toNat a0_2) := ⟨_, rfl⟩
                    replace H : (some (y413, y412, a1, 0)) = some (r1, r2, r3, r4) := by first | (rw [hy413]; with_reducible exact H) | (have H2_ := (Option.bind_some _ _).symm.trans H; rw [hy413]; with_reducible exact H2_) | (have H2_ := (Option.bind_some _ _).symm.trans H; with_reducible exact H2_) | with_reducible exact H | (rw [hy413]; exact H) | exact H
                    have Ny413 := Aside0.mk hy413
                    (try clear hy413)
                    simp only [Option.some.injEq, Prod.mk.injEq] at H
                    obtain ⟨rfl, rfl, rfl, rfl⟩ := H
                    have hnb26 := NB399_400.out
                    have hnc26 := NB400_399.out
                    obtain ⟨hcz27_0, hcz27_1, hcz27_2, hfz27_0, hfz27_1, hfz27_2⟩ := bk3 BK399.out
                    have p403 : 0 ≤ (a1 : Int) := od
                    have q403 : a1 < (l0_1.length : Int) := od
                    obtain ⟨ad403, e403, hx403_0⟩ := Kd.at_bool HR0_1.out a1 p403 q403
                    (try rw [← Nbq19.out] at hx403_0)
                    cases e403
                    replace hx403_0 := (HB.out.cell (World.block_lt_of_cell? w _ hx403_0)).trans hx403_0
                    replace p403 := eq_true p403
                    replace q403 := eq_true q403
                    go_wp2_with (first | ((with_reducible refine gate_callee (f := 29) rfl ?_); refine goesE (some 31) rfl rfl Try.func29 (by kernel_rfl) rfl #[.agg #[.slice A0_0 l0_0.length c0_0, .slice (some ad403) l0_1.length c0_1, .int .i64 a0_2]] rfl ?_; (with_reducible refine (spigotref13_Twin.calls _ _ l0_0 _ _ l0_1 a0_2 t404 t407 t410 _ ?side1 ?side2 ?side3 ?side4 A21.out).mono ?_); (case side1 => exact Kd.pC ((Kd.C_below HR0_0.out HB.out))); (case side2 => exact HC0_0.out); (case side3 => exact Kd.pC ((Kd.C_below HR0_1.out HB.out))); (case side4 => exact HC0_1.out); rintro e w28 ⟨v405, v408, rfl, ho0, ho1, hb⟩; refine ⟨_, rfl, ?_⟩; have n0_ := Aside0.mk (Kd.R_lower ho0 (below_size (pB HB.out))); have n1_ := Aside0.mk (Kd.R_lower ho1 (below_size (pB HB.out))); have n2_ := Aside0.mk (blk_below (pK BK399.out) hb); have n3_ := Aside0.mk (blk_below (pK BK400.out) hb); have n4_ := Aside0.mk (below_step (pB HB.out) hb); clear BK399; clear BK400; clear HB; have HO406 := n0_; have HO409 := n1_; have BK399 := n2_; have BK400 := n3_; have HB := n4_; clear n0_ n1_ n2_ n3_ n4_; (try clear hb); (try clear hb2); (try clear hk); (try clear hi); (try clear ho0); (try clear ho1)) | ((with_reducible refine gate_dst (N := 6) rfl ?_); (try (refine gate_guard (by rfl) ?_; dsimp only)); refine boxE (N := 6) (cs := #[.slice none 0 0, .slice none 0 0, .int .i64 0]) (t := 36) ?_; intro gb411 hg w29 hbox hb; have n0_ := Aside0.mk (Kd.R_below (Kd.pR HO406.out) hb); have n1_ := Aside0.mk (Kd.R_below (Kd.pR HO409.out) hb); have n2_ := Aside0.mk (blk_below (pK BK399.out) hb); have n3_ := Aside0.mk (blk_below (pK BK400.out) hb); have n4_ := Aside0.mk (below_step (pB HB.out) hb); have n5_ := Aside0.mk (hbox); have n7_ := Aside0.mk (pL HB.out hg); have n8_ := Aside0.mk (pNl BK399.out hg); have n9_ := Aside0.mk (pNg BK399.out hg); have n10_ := Aside0.mk (pNl BK400.out hg); have n11_ := Aside0.mk (pNg BK400.out hg); clear HO406; clear HO409; clear BK399; clear BK400; clear HB; have HO406 := n0_; have HO409 := n1_; have BK399 := n2_; have BK400 := n3_; have HB := n4_; have BK411 := n5_; have GE411 := n7_; have NB399_411 := n8_; have NB411_399 := n9_; have NB400_411 := n10_; have NB411_400 := n11_; clear n0_ n1_ n2_ n3_ n4_ n5_ n7_ n8_ n9_ n10_ n11_; clear hb hbox hg; obtain ⟨Ao30, co30, eo30⟩ := Kd.R_slice HO406.out; subst eo30; have hnb31 := NB411_399.out; have hnc31 := NB399_411.out; have hnb32 := NB411_400.out; have hnc32 := NB400_411.out; obtain ⟨hcz33_0, hcz33_1, hcz33_2, hfz33_0, hfz33_1, hfz33_2⟩ := bk3 BK411.out; obtain ⟨Ao34, co34, eo34⟩ := Kd.R_slice HO409.out; subst eo34) | ((with_reducible refine gate_store (t := 36) (p := 6) rfl ?_); refine store_event (t := 36) (p := 6) (v := ?vo_w35) (w1 := (((w29.setCell ⟨gb411, 0, none⟩ (.slice Ao30 t404.length co30)).setCell ⟨gb411, 1, none⟩ (.slice Ao34 t407.length co34)).setCell ⟨gb411, 2, none⟩ (.int .i64 t410))) ?hg ?ho ?hn ?hr ?_; (case ho => rfl); (case hg => rfl); (case hn => rfl); (case hr => first | (go_simp; done) | (go_simp; rfl)); intro w35 hw; have n0_ : Aside0 (Kd.R (Kd.int .i64) 3 w35 w.heap.size (fun _ => True) (.slice Ao30 t404.length co30) t404) := ⟨(by rw [hw]; exact (Kd.pR (Kd.R_mono (Kd.R_far (p := ⟨gb411, 2, none⟩) (Kd.R_far (p := ⟨gb411, 1, none⟩) (Kd.R_far (p := ⟨gb411, 0, none⟩) (Kd.R_types HO406.out BK411.out (by decide)) (fun _ hk => hk.2) (.slice Ao30 t404.length co30)) (fun _ hk => hk.2) (.slice Ao34 t407.length co34)) (fun _ hk => hk.2) (.int .i64 t410)) (fun _ hk => trivial))))⟩; have n1_ : Aside0 (Kd.R Kd.bool 4 w35 w.heap.size (fun _ => True) (.slice Ao34 t407.length co34) t407) := ⟨(by rw [hw]; exact (Kd.pR (Kd.R_mono (Kd.R_far (p := ⟨gb411, 2, none⟩) (Kd.R_far (p := ⟨gb411, 1, none⟩) (Kd.R_far (p := ⟨gb411, 0, none⟩) (Kd.R_types HO409.out BK411.out (by decide)) (fun _ hk => hk.2) (.slice Ao30 t404.length co30)) (fun _ hk => hk.2) (.slice Ao34 t407.length co34)) (fun _ hk => hk.2) (.int .i64 t410)) (fun _ hk => trivial))))⟩; have n2_ : Aside0 (w35.heap[gb399]? = some (.cells #[.slice A0_0 l0_0.length c0_0, .slice (some ad403) l0_1.length c0_1, .int .i64 a0_2] 36 (0, 0))) := ⟨(by rw [hw]; exact (by (with_reducible repeat (first | refine blk_drewN ?_ _ | refine blk_drew ?_ | refine blk_alloc ?_ _)); refine blk_far ?_ NB399_411.out _; (with_reducible repeat (first | refine blk_drewN ?_ _ | refine blk_drew ?_ | refine blk_alloc ?_ _)); refine blk_far ?_ NB399_411.out _; (with_reducible repeat (first | refine blk_drewN ?_ _ | refine blk_drew ?_ | refine blk_alloc ?_ _)); refine blk_far ?_ NB399_411.out _; (with_reducible repeat (first | refine blk_drewN ?_ _ | refine blk_drew ?_ | refine blk_alloc ?_ _)); exact BK399.out))⟩; have n3_ : Aside0 (w35.heap[gb400]? = some (.cells #[.slice none 0 0, .slice none 0 0, .int .i64 0] 36 (0, 0))) := ⟨(by rw [hw]; exact (by (with_reducible repeat (first | refine blk_drewN ?_ _ | refine blk_drew ?_ | refine blk_alloc ?_ _)); refine blk_far ?_ NB400_411.out _; (with_reducible repeat (first | refine blk_drewN ?_ _ | refine blk_drew ?_ | refine blk_alloc ?_ _)); refine blk_far ?_ NB400_411.out _; (with_reducible repeat (first | refine blk_drewN ?_ _ | refine blk_drew ?_ | refine blk_alloc ?_ _)); refine blk_far ?_ NB400_411.out _; (with_reducible repeat (first | refine blk_drewN ?_ _ | refine blk_drew ?_ | refine blk_alloc ?_ _)); exact BK400.out))⟩; have n4_ : Aside0 (w35.heap[gb411]? = some (.cells #[.slice Ao30 t404.length co30, .slice Ao34 t407.length co34, .int .i64 t410] 36 (0, 0))) := ⟨(by rw [hw]; exact (by (with_reducible repeat (first | refine blk_drewN ?_ _ | refine blk_drew ?_ | refine blk_alloc ?_ _)); refine blk_put (cs := #[.slice Ao30 t404.length co30, .slice Ao34 t407.length co34, .int .i64 0]) ?_ 2 _ rfl; (with_reducible repeat (first | refine blk_drewN ?_ _ | refine blk_drew ?_ | refine blk_alloc ?_ _)); refine blk_put (cs := #[.slice Ao30 t404.length co30, .slice none 0 0, .int .i64 0]) ?_ 1 _ rfl; (with_reducible repeat (first | refine blk_drewN ?_ _ | refine blk_drew ?_ | refine blk_alloc ?_ _)); refine blk_put (cs := #[.slice none 0 0, .slice none 0 0, .int .i64 0]) ?_ 0 _ rfl; (with_reducible repeat (first | refine blk_drewN ?_ _ | refine blk_drew ?_ | refine blk_alloc ?_ _)); exact BK411.out))⟩; have n5_ : Aside0 (Below w.heap.size w w35) := ⟨(by rw [hw]; exact (pB HB.out))⟩; clear hw; clear HO406; clear HO409; clear BK399; clear BK400; clear BK411; clear HB; have HO406 := n0_; have HO409 := n1_; have BK399 := n2_; have BK400 := n3_; have BK411 := n4_; have HB := n5_; clear n0_ n1_ n2_ n3_ n4_ n5_; obtain ⟨hcz36_0, hcz36_1, hcz36_2, hfz36_0, hfz36_1, hfz36_2⟩ := bk3 BK411.out; have p23 : 0 ≤ (a1 : Int) := od; have q23 : (a1 : Int) < ((t407.length : Int) : Int) := od; obtain ⟨go23, co23, eo23, gb23, gl23, cl23, HG23⟩ := Kd.R_form HO409.out (by omega); (first | cases eo23 | (injection eo23 with ea_ en_ ec_; (first | subst ea_ | (injection ea_ with ea_; subst ea_)); subst ec_; clear en_)); have GB23 := Aside0.mk gb23; have GG23 := Aside0.mk HG23; clear gb23 gl23 HG23; obtain ⟨hx23_0, hf23_0⟩ := Kd.R_celln false HO409.out (a1 : Int) p23 q23; replace p23 := eq_true p23; replace q23 := eq_true q23; obtain ⟨hy37_, hz37_⟩ := Kd.R_celln false HO409.out (a1 : Int) od od; have HP37 := Kd.R_putg HO409.out (a1 : Int) false) | ((with_reducible refine gate_store (t := 4) (p := 35) rfl ?_); refine store_event (t := 4) (p := 35) (v := ?vo_w38) (w1 := (w35.setCell ⟨go23, (a1 : Int).toNat, none⟩ (.bool false))) ?hg ?ho ?hn ?hr ?_; (case ho => rfl); (case hg => rfl); (case hn => rfl); (case hr => first | (go_simp; done) | (go_simp; rfl)); intro w38 hw; have hg : w35.grownBy w38 (some go23) := (by rw [hw]; exact HP37.2); have hp_ : Kd.R Kd.bool 4 w38 w.heap.size (fun _ => True) (.slice (some ⟨go23, 0, none⟩) t407.length co34) y412 := (by rw [hw, Ny412.out]; exact HP37.1); (try clear HP37); have n0_ := Aside0.mk (blk_grown (pK BK399.out) hg (Kd.R_ne HO409.out BK399.out (by decide))); have n1_ := Aside0.mk (blk_grown (pK BK400.out) hg (Kd.R_ne HO409.out BK400.out (by decide))); have n2_ := Aside0.mk (Kd.R_over' (v := (.slice (some ⟨go23, 0, none⟩) t407.length co34)) (Kd.pR HO406.out) (Kd.R_typed HO409.out) (by decide) hg); have n3_ := Aside0.mk (hp_); have n4_ := Aside0.mk (blk_grown (pK BK411.out) hg (Kd.R_ne HO409.out BK411.out (by decide))); have n5_ := Aside0.mk ((by rw [hw]; exact below_set (HB.out) GB23.out : Below w.heap.size w w38)); clear BK399; clear BK400; clear HO406; clear HO409; clear BK411; clear HB; have BK399 := n0_; have BK400 := n1_; have HO406 := n2_; have HO409 := n3_; have BK411 := n4_; have HB := n5_; clear n0_ n1_ n2_ n3_ n4_ n5_; clear hg hw hp_; obtain ⟨hcz39_0, hcz39_1, hcz39_2, hfz39_0, hfz39_1, hfz39_2⟩ := bk3 BK411.out; obtain ⟨hcz40_0, hcz40_1, hcz40_2, hfz40_0, hfz40_1, hfz40_2⟩ := bk3 BK399.out; have p25 : 0 ≤ (a1 : Int) := od; have q25 : (a1 : Int) < ((t404.length : Int) : Int) := od; obtain ⟨go25, co25, eo25, gb25, gl25, cl25, HG25⟩ := Kd.R_form HO406.out (by omega); (first | cases eo25 | (injection eo25 with ea_ en_ ec_; (first | subst ea_ | (injection ea_ with ea_; subst ea_)); subst ec_; clear en_)); have GB25 := Aside0.mk gb25; have GG25 := Aside0.mk HG25; clear gb25 gl25 HG25; obtain ⟨hx25_0, hf25_0⟩ := Kd.R_celln 0 HO406.out (a1 : Int) p25 q25; replace p25 := eq_true p25; replace q25 := eq_true q25; obtain ⟨hy41_, hz41_⟩ := Kd.R_celln 0 HO406.out (a1 : Int) od od; have HP41 := Kd.R_putg HO406.out (a1 : Int) a0_2) | ((with_reducible refine gate_store (t := 3) (p := 41) rfl ?_); refine store_event (t := 3) (p := 41) (v := ?vo_w42) (w1 := (w38.setCell ⟨go25, (a1 : Int).toNat, none⟩ (.int .i64 a0_2))) ?hg ?ho ?hn ?hr ?_; (case ho => rfl); (case hg => rfl); (case hn => rfl); (case hr => first | (go_simp; done) | (go_simp; rfl)); intro w42 hw; have hg : w38.grownBy w42 (some go25) := (by rw [hw]; exact HP41.2); have hp_ : Kd.R (Kd.int .i64) 3 w42 w.heap.size (fun _ => True) (.slice (some ⟨go25, 0, none⟩) t404.length co30) y413 := (by rw [hw, Ny413.out]; exact HP41.1); (try clear HP41); have n0_ := Aside0.mk (blk_grown (pK BK399.out) hg (Kd.R_ne HO406.out BK399.out (by decide))); have n1_ := Aside0.mk (blk_grown (pK BK400.out) hg (Kd.R_ne HO406.out BK400.out (by decide))); have n2_ := Aside0.mk (hp_); have n3_ := Aside0.mk (Kd.R_over' (v := (.slice (some ⟨go25, 0, none⟩) t404.length co30)) (Kd.pR HO409.out) (Kd.R_typed HO406.out) (by decide) hg); have n4_ := Aside0.mk (blk_grown (pK BK411.out) hg (Kd.R_ne HO406.out BK411.out (by decide))); have n5_ := Aside0.mk ((by rw [hw]; exact below_set (HB.out) GB25.out : Below w.heap.size w w42)); clear BK399; clear BK400; clear HO406; clear HO409; clear BK411; clear HB; have BK399 := n0_; have BK400 := n1_; have HO406 := n2_; have HO409 := n3_; have BK411 := n4_; have HB := n5_; clear n0_ n1_ n2_ n3_ n4_ n5_; clear hg hw hp_; obtain ⟨hcz43_0, hcz43_1, hcz43_2, hfz43_0, hfz43_1, hfz43_2⟩ := bk3 BK411.out; obtain ⟨hcz44_0, hcz44_1, hcz44_2, hfz44_0, hfz44_1, hfz44_2⟩ := bk3 BK400.out))
                    refine bodyPost_ret (results_ct rfl _ _ gb400 36 #[.slice (some ⟨go25, 0, none⟩) t404.length co30, .slice (some ⟨go23, 0, none⟩) t407.length co34, .int .i64 a1] (0, 0) _ rfl (by (with_reducible repeat (first | refine blk_drewN ?_ _ | refine blk_drew ?_ | refine blk_alloc ?_ _)); refine blk_put (cs := #[.slice (some ⟨go25, 0, none⟩) t404.length co30, .slice (some ⟨go23, 0, none⟩) t407.length co34, .int .i64 0]) ?_ 2 _ rfl; (with_reducible repeat (first | refine blk_drewN ?_ _ | refine blk_drew ?_ | refine blk_alloc ?_ _)); refine blk_put (cs := #[.slice (some ⟨go25, 0, none⟩) t404.length co30, .slice none 0 0, .int .i64 0]) ?_ 1 _ rfl; (with_reducible repeat (first | refine blk_drewN ?_ _ | refine blk_drew ?_ | refine blk_alloc ?_ _)); refine blk_put (cs := #[.slice none 0 0, .slice none 0 0, .int .i64 0]) ?_ 0 _ rfl; (with_reducible repeat (first | refine blk_drewN ?_ _ | refine blk_drew ?_ | refine blk_alloc ?_ _)); refine blk_far ?_ NB400_411.out _; (with_reducible repeat (first | refine blk_drewN ?_ _ | refine blk_drew ?_ | refine blk_alloc ?_ _)); exact BK400.out) Try.underlying36 rfl (by kernel_rfl)) rfl ?_
                    exact ⟨_, _, by first | rfl | (simp [errW_none, errW_some] <;> rfl) | (simp [*, errW_none, errW_some] <;> rfl), Kd.pR (Kd.R_mono (Kd.R_far (p := ⟨gb400, 2, none⟩) (Kd.R_far (p := ⟨gb400, 1, none⟩) (Kd.R_far (p := ⟨gb400, 0, none⟩) (Kd.R_far (p := ⟨gb411, 2, none⟩) (Kd.R_types (Kd.R_types HO406.out BK411.out (by decide)) BK400.out (by decide)) (fun _ hk => hk.1.2) (.int .i64 a1)) (fun _ hk => hk.2) (.slice (some ⟨go25, 0, none⟩) t404.length co30)) (fun _ hk => hk.2) (.slice (some ⟨go23, 0, none⟩) t407.length co34)) (fun _ hk => hk.2) (.int .i64 a1)) (fun _ hk => trivial)), Kd.pR (Kd.R_mono (Kd.R_far (p := ⟨gb400, 2, none⟩) (Kd.R_far (p := ⟨gb400, 1, none⟩) (Kd.R_far (p := ⟨gb400, 0, none⟩) (Kd.R_far (p := ⟨gb411, 2, none⟩) (Kd.R_types (Kd.R_types HO409.out BK411.out (by decide)) BK400.out (by decide)) (fun _ hk => hk.1.2) (.int .i64 a1)) (fun _ hk => hk.2) (.slice (some ⟨go25, 0, none⟩) t404.length co30)) (fun _ hk => hk.2) (.slice (some ⟨go23, 0, none⟩) t407.length co34)) (fun _ hk => hk.2) (.int .i64 a1)) (fun _ hk => trivial)), pB HB.out⟩
                  · rw [if_neg c24] at H
                    exact absurd H (by simp)
                · rw [if_neg c22] at H
                  exact absurd H (by simp)
              · replace c20 := Bool.eq_false_iff.mpr c20
                subst c20
                have H1 : (some (([] : List Int), ([] : List Bool), 0, 36)) = some (r1, r2, r3, r4) := by rw [if_neg (show ¬ (false = true) by decide)] at H; exact H
                clear H
                have H := H1
                (try clear H1)
                simp only [Option.some.injEq, Prod.mk.injEq] at H
                obtain ⟨rfl, rfl, rfl, rfl⟩ := H
                have hnb45 := NB399_400.out
                have hnc45 := NB400_399.out
                obtain ⟨hcz46_0, hcz46_1, hcz46_2, hfz46_0, hfz46_1, hfz46_2⟩ := bk3 BK399.out
                have p403 : 0 ≤ (a1 : Int) := od
                have q403 : a1 < (l0_1.length : Int) := od
                obtain ⟨ad403, e403, hx403_0⟩ := Kd.at_bool HR0_1.out a1 p403 q403
                (try rw [← Nbq19.out] at hx403_0)
                cases e403
                replace hx403_0 := (HB.out.cell (World.block_lt_of_cell? w _ hx403_0)).trans hx403_0
                replace p403 := eq_true p403
                replace q403 := eq_true q403
                obtain ⟨hcz47_0, hcz47_1, hcz47_2, hfz47_0, hfz47_1, hfz47_2⟩ := bk3 BK400.out
                go_wp2
                refine bodyPost_ret (results_ct rfl _ _ gb400 36 #[.slice none 0 0, .slice none 0 0, .int .i64 0] (0, 0) _ rfl (by (with_reducible repeat (first | refine blk_drewN ?_ _ | refine blk_drew ?_ | refine blk_alloc ?_ _)); refine blk_put (cs := #[.slice none 0 0, .slice none 0 0, .int .i64 0]) ?_ 2 _ rfl; (with_reducible repeat (first | refine blk_drewN ?_ _ | refine blk_drew ?_ | refine blk_alloc ?_ _)); refine blk_put (cs := #[.slice none 0 0, .slice none 0 0, .int .i64 0]) ?_ 1 _ rfl; (with_reducible repeat (first | refine blk_drewN ?_ _ | refine blk_drew ?_ | refine blk_alloc ?_ _)); refine blk_put (cs := #[.slice none 0 0, .slice none 0 0, .int .i64 0]) ?_ 0 _ rfl; (with_reducible repeat (first | refine blk_drewN ?_ _ | refine blk_drew ?_ | refine blk_alloc ?_ _)); exact BK400.out) Try.underlying36 rfl (by kernel_rfl)) rfl ?_
                exact ⟨_, _, by first | rfl | (simp [errW_none, errW_some] <;> rfl) | (simp [*, errW_none, errW_some] <;> rfl), by first | exact Kd.R_nil _ _ _ _ _ | exact Kd.N_nil _ _ _ _ _ | exact Kd.V_nil _ _ _ _ _ | exact Kd.Q_nil _ _ _ _ _ | exact Kd.S_nil _ _ _ _ _, by first | exact Kd.R_nil _ _ _ _ _ | exact Kd.N_nil _ _ _ _ _ | exact Kd.V_nil _ _ _ _ _ | exact Kd.Q_nil _ _ _ _ _ | exact Kd.S_nil _ _ _ _ _, pB HB.out⟩
            · rw [if_neg c18] at H
              exact absurd H (by simp)
          · rw [if_neg c17] at H
            exact absurd H (by simp)
  · rw [if_neg c4] at H
    have c4b0 : (t401 == 0) = false := beq_eq_false_iff_ne.mpr c4
    have c4b1 : (t401 != 0) = true := bne_iff_ne.mpr c4
    replace H := Option.bind_eq_some_iff.mp H
    obtain ⟨t402, A480, H⟩ := H
    replace H : (some (([] : List Int), ([] : List Bool), 0, t402)) = some (r1, r2, r3, r4) := H
    have A48 := Aside0.mk A480
    (try clear A480)
    simp only [Option.some.injEq, Prod.mk.injEq] at H
    obtain ⟨rfl, rfl, rfl, rfl⟩ := H
    go_enter Try.func32, Try.ntmps32
    go_wp2_with (first | ((with_reducible refine gate_dst (N := 2) rfl ?_); (try (refine gate_guard (by rfl) ?_; dsimp only)); refine boxE (N := 2) (cs := #[.slice A0_0 l0_0.length c0_0, .slice A0_1 l0_1.length c0_1, .int .i64 a0_2]) (t := 36) ?_; intro gb399 hg w49 hbox hb; have n0_ := Aside0.mk (below_step (pB HB.out) hb); have n1_ := Aside0.mk (hbox); have n3_ := Aside0.mk (pL HB.out hg); clear HB; have HB := n0_; have BK399 := n1_; have GE399 := n3_; clear n0_ n1_ n3_; clear hb hbox hg) | ((with_reducible refine gate_dst (N := 4) rfl ?_); (try (refine gate_guard (by rfl) ?_; dsimp only)); refine boxE (N := 4) (cs := #[.slice none 0 0, .slice none 0 0, .int .i64 0]) (t := 36) ?_; intro gb400 hg w50 hbox hb; have n0_ := Aside0.mk (blk_below (pK BK399.out) hb); have n1_ := Aside0.mk (below_step (pB HB.out) hb); have n2_ := Aside0.mk (hbox); have n4_ := Aside0.mk (pL HB.out hg); have n5_ := Aside0.mk (pNl BK399.out hg); have n6_ := Aside0.mk (pNg BK399.out hg); clear BK399; clear HB; have BK399 := n0_; have HB := n1_; have BK400 := n2_; have GE400 := n4_; have NB399_400 := n5_; have NB400_399 := n6_; clear n0_ n1_ n2_ n4_ n5_ n6_; clear hb hbox hg; have hnb51 := NB399_400.out; have hnc51 := NB400_399.out; obtain ⟨hcz52_0, hcz52_1, hcz52_2, hfz52_0, hfz52_1, hfz52_2⟩ := bk3 BK399.out) | ((with_reducible refine gate_callee (f := 24) rfl ?_); refine goesE (some 8) rfl rfl Try.func24 (by kernel_rfl) rfl #[.agg #[.slice A0_0 l0_0.length c0_0, .slice A0_1 l0_1.length c0_1, .int .i64 a0_2]] rfl ?_; (with_reducible refine (spigotref13_Check.calls k _ _ l0_0 _ _ l0_1 a0_2 t401 _ ?side1 ?side2 ?side3 ?side4 A3.out).mono ?_); (case side1 => exact Kd.pC ((Kd.C_below HR0_0.out HB.out))); (case side2 => exact HC0_0.out); (case side3 => exact Kd.pC ((Kd.C_below HR0_1.out HB.out))); (case side4 => exact HC0_1.out); rintro e w53 ⟨rfl, hb⟩; refine ⟨_, rfl, ?_⟩; have n0_ := Aside0.mk (blk_below (pK BK399.out) hb); have n1_ := Aside0.mk (blk_below (pK BK400.out) hb); have n2_ := Aside0.mk (below_step (pB HB.out) hb); clear BK399; clear BK400; clear HB; have BK399 := n0_; have BK400 := n1_; have HB := n2_; clear n0_ n1_ n2_; (try clear hb); (try clear hb2); (try clear hk); (try clear hi); obtain ⟨hcz54_0, hcz54_1, hcz54_2, hfz54_0, hfz54_1, hfz54_2⟩ := bk3 BK399.out) | ((with_reducible refine gate_callee (f := 24) rfl ?_); refine goesE (some 12) rfl rfl Try.func24 (by kernel_rfl) rfl #[.agg #[.slice A0_0 l0_0.length c0_0, .slice A0_1 l0_1.length c0_1, .int .i64 a0_2]] rfl ?_; (with_reducible refine (spigotref13_Check.calls k _ _ l0_0 _ _ l0_1 a0_2 t402 _ ?side1 ?side2 ?side3 ?side4 A48.out).mono ?_); (case side1 => exact Kd.pC ((Kd.C_below HR0_0.out HB.out))); (case side2 => exact HC0_0.out); (case side3 => exact Kd.pC ((Kd.C_below HR0_1.out HB.out))); (case side4 => exact HC0_1.out); rintro e w55 ⟨rfl, hb⟩; refine ⟨_, rfl, ?_⟩; have n1_ := Aside0.mk (blk_below (pK BK400.out) hb); have n2_ := Aside0.mk (below_step (pB HB.out) hb); (try clear BK399); clear BK400; clear HB; have BK400 := n1_; have HB := n2_; clear n1_ n2_; (try clear hb); (try clear hb2); (try clear hk); (try clear hi); obtain ⟨hcz56_0, hcz56_1, hcz56_2, hfz56_0, hfz56_1, hfz56_2⟩ := bk3 BK400.out))
    refine bodyPost_ret (results_ct rfl _ _ gb400 36 #[.slice none 0 0, .slice none 0 0, .int .i64 0] (0, 0) _ rfl (by (with_reducible repeat (first | refine blk_drewN ?_ _ | refine blk_drew ?_ | refine blk_alloc ?_ _)); refine blk_put (cs := #[.slice none 0 0, .slice none 0 0, .int .i64 0]) ?_ 2 _ rfl; (with_reducible repeat (first | refine blk_drewN ?_ _ | refine blk_drew ?_ | refine blk_alloc ?_ _)); refine blk_put (cs := #[.slice none 0 0, .slice none 0 0, .int .i64 0]) ?_ 1 _ rfl; (with_reducible repeat (first | refine blk_drewN ?_ _ | refine blk_drew ?_ | refine blk_alloc ?_ _)); refine blk_put (cs := #[.slice none 0 0, .slice none 0 0, .int .i64 0]) ?_ 0 _ rfl; (with_reducible repeat (first | refine blk_drewN ?_ _ | refine blk_drew ?_ | refine blk_alloc ?_ _)); exact BK400.out) Try.underlying36 rfl (by kernel_rfl)) rfl ?_
    exact ⟨_, _, by first | rfl | (simp [errW_none, errW_some] <;> rfl) | (simp [*, errW_none, errW_some] <;> rfl), by first | exact Kd.R_nil _ _ _ _ _ | exact Kd.N_nil _ _ _ _ _ | exact Kd.V_nil _ _ _ _ _ | exact Kd.Q_nil _ _ _ _ _ | exact Kd.S_nil _ _ _ _ _, by first | exact Kd.R_nil _ _ _ _ _ | exact Kd.N_nil _ _ _ _ _ | exact Kd.V_nil _ _ _ _ _ | exact Kd.Q_nil _ _ _ _ _ | exact Kd.S_nil _ _ _ _ _, pB HB.out⟩

end Go.Proofs.Ytlgfopdindklnaa.PArena
