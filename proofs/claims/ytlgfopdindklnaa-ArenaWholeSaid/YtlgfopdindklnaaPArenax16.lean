-- printed by a program of this session (a turned copy of the kit's print); Lean checks it
import Derived.Test.YtlgfopdindklnaaPArenax0
import Derived.Test.YtlgfopdindklnaaPArenax10
import Derived.Test.YtlgfopdindklnaaPArenax11
import Derived.Test.YtlgfopdindklnaaPArenax14
namespace Go.Proofs.Ytlgfopdindklnaa.PArena
open Go.RowKit Go.Proofs.YtlgfopdindklnaaW.PrintWords Go.Proofs.YtlgfopdindklnaaW.PrintLast Go.Proofs.YtlgfopdindklnaaW.PrintMore
attribute [local go_sem] max2_int min2_int max_two min_two max_three min_three max_four min_four   -- for this text's walks alone
set_option linter.unusedVariables false
set_option linter.unusedSimpArgs false

/-! ### spigotref13_Take: function 31 -/
def spigotref13_Take.f (k : Nat) (l0_0 : List Int) (l0_1 : List Bool) (a0_2 : Int) : Option (List Int × List Bool × Int × Int × Int) := (spigotref13_Check.f k l0_0 l0_1 a0_2).bind fun t378 => (if t378 = 0 then ((spigotref13_Free.f k l0_0 l0_1 a0_2).bind fun bt380 => (if (bt380.1.length : Int) = 0 then (some (([] : List Int), ([] : List Bool), 0, 0, 18)) else ((spigotref13_Twin.f l0_0 l0_1 a0_2).bind fun bt384 => (if 0 < (bt380.1.length : Int) then (if 0 ≤ (rd bt380.1 0) then (if (rd bt380.1 0) < (bt384.2.1.length : Int) then ((some (bt384.2.1.set ((rd bt380.1 0) : Int).toNat true : List Bool)).bind fun y393 => (if (rd bt380.1 0) < (bt384.1.length : Int) then ((some (bt384.1.set ((rd bt380.1 0) : Int).toNat (-1) : List Int)).bind fun y395 => (if (bt380.1.length : Int) > 1 then (if 1 < (bt380.1.length : Int) then (some (y395, y393, rd bt380.1 1, rd bt380.1 0, 0)) else (none)) else (some (y395, y393, (-1), rd bt380.1 0, 0)))) else (none))) else (none)) else (none)) else (none))))) else ((spigotref13_Check.f k l0_0 l0_1 a0_2).bind fun t379 => (some (([] : List Int), ([] : List Bool), 0, 0, t379))))
theorem spigotref13_Take.mono : ∀ a0 a1 a2 k, LeO (spigotref13_Take.f k a0 a1 a2) (spigotref13_Take.f (k + 1) a0 a1 a2) := by
  intro a0 a1 a2 k
  unfold spigotref13_Take.f
  repeat' first
      | (with_reducible exact spigotref13_Check.mono _ _ _ _)
      | (with_reducible exact spigotref13_Free.mono _ _ _ _)
      | (with_reducible exact LeO.refl _)
      | (with_reducible exact LeO.none _)
      | (with_reducible refine LeO.ite ?_ ?_)
      | (with_reducible refine LeO.bind ?_ (fun _ => ?_))
      | exact spigotref13_Check.mono _ _ _ _
      | exact spigotref13_Free.mono _ _ _ _
      | exact LeO.none _
      | refine LeO.ite ?_ ?_
      | refine LeO.bind ?_ (fun _ => ?_)
set_option maxHeartbeats 8000000 in
set_option maxRecDepth 100000 in
theorem spigotref13_Take.calls (k : Nat) (A0_0 : Option Addr) (c0_0 : Nat) (l0_0 : List Int) (A0_1 : Option Addr) (c0_1 : Nat) (l0_1 : List Bool) (a0_2 : Int) (r1 : List Int) (r2 : List Bool) (r3 : Int) (r4 : Int) (r5 : Int) (w : World) (hr0_0 : Kd.C (Kd.int .i64) w A0_0 l0_0.length l0_0) (hc0_0 : l0_0.length ≤ c0_0) (hr0_1 : Kd.C Kd.bool w A0_1 l0_1.length l0_1) (hc0_1 : l0_1.length ≤ c0_1) (h : spigotref13_Take.f k l0_0 l0_1 a0_2 = some (r1, r2, r3, r4, r5)) :
    Calls Try.prog 31 #[.agg #[.slice A0_0 l0_0.length c0_0, .slice A0_1 l0_1.length c0_1, .int .i64 a0_2]] w fun e w' => ∃ v0_ v1_ : Value, e = .returned (.tuple #[.agg #[v0_, v1_, .int .i64 r3], .int .i64 r4, .int .i64 r5]) ∧ Kd.R (Kd.int .i64) 3 w' w.heap.size (fun _ => True) v0_ r1 ∧ Kd.R Kd.bool 4 w' w.heap.size (fun _ => True) v1_ r2 ∧ Below w.heap.size w w' := by
  have hu36 := Try.underlying36
  have HR0_0 := Aside0.mk hr0_0
  have HC0_0 := Aside0.mk hc0_0
  clear hr0_0 hc0_0
  have HR0_1 := Aside0.mk hr0_1
  have HC0_1 := Aside0.mk hc0_1
  clear hr0_1 hc0_1
  have HB := Aside0.mk (Below.refl w.heap.size w)
  have H : ((spigotref13_Check.f k l0_0 l0_1 a0_2).bind fun t378 => (if t378 = 0 then ((spigotref13_Free.f k l0_0 l0_1 a0_2).bind fun bt380 => (if (bt380.1.length : Int) = 0 then (some (([] : List Int), ([] : List Bool), 0, 0, 18)) else ((spigotref13_Twin.f l0_0 l0_1 a0_2).bind fun bt384 => (if 0 < (bt380.1.length : Int) then (if 0 ≤ (rd bt380.1 0) then (if (rd bt380.1 0) < (bt384.2.1.length : Int) then ((some (bt384.2.1.set ((rd bt380.1 0) : Int).toNat true : List Bool)).bind fun y393 => (if (rd bt380.1 0) < (bt384.1.length : Int) then ((some (bt384.1.set ((rd bt380.1 0) : Int).toNat (-1) : List Int)).bind fun y395 => (if (bt380.1.length : Int) > 1 then (if 1 < (bt380.1.length : Int) then (some (y395, y393, rd bt380.1 1, rd bt380.1 0, 0)) else (none)) else (some (y395, y393, (-1), rd bt380.1 0, 0)))) else (none))) else (none)) else (none)) else (none))))) else ((spigotref13_Check.f k l0_0 l0_1 a0_2).bind fun t379 => (some (([] : List Int), ([] : List Bool), 0, 0, t379))))) = some (r1, r2, r3, r4, r5) := h
  clear h
  replace H := Option.bind_eq_some_iff.mp H
  obtain ⟨t378, A20, H⟩ := H
  replace H : (if t378 = 0 then ((spigotref13_Free.f k l0_0 l0_1 a0_2).bind fun bt380 => (if (bt380.1.length : Int) = 0 then (some (([] : List Int), ([] : List Bool), 0, 0, 18)) else ((spigotref13_Twin.f l0_0 l0_1 a0_2).bind fun bt384 => (if 0 < (bt380.1.length : Int) then (if 0 ≤ (rd bt380.1 0) then (if (rd bt380.1 0) < (bt384.2.1.length : Int) then ((some (bt384.2.1.set ((rd bt380.1 0) : Int).toNat true : List Bool)).bind fun y393 => (if (rd bt380.1 0) < (bt384.1.length : Int) then ((some (bt384.1.set ((rd bt380.1 0) : Int).toNat (-1) : List Int)).bind fun y395 => (if (bt380.1.length : Int) > 1 then (if 1 < (bt380.1.length : Int) then (some (y395, y393, rd bt380.1 1, rd bt380.1 0, 0)) else (none)) else (some (y395, y393, (-1), rd bt380.1 0, 0)))) else (none))) else (none)) else (none)) else (none))))) else ((spigotref13_Check.f k l0_0 l0_1 a0_2).bind fun t379 => (some (([] : List Int), ([] : List Bool), 0, 0, t379)))) = some (r1, r2, r3, r4, r5) := H
  have A2 := Aside0.mk A20
  (try clear A20)
  by_cases c3 : t378 = 0
  · rw [if_pos c3] at H
    have c3b0 : (t378 == 0) = true := beq_iff_eq.mpr c3
    have c3b1 : (t378 != 0) = false := bne_eq_false_iff_eq.mpr c3
    clear c3
    replace H := Option.bind_eq_some_iff.mp H
    obtain ⟨⟨t380, t383⟩, A40, H⟩ := H
    replace H : (if (t380.length : Int) = 0 then (some (([] : List Int), ([] : List Bool), 0, 0, 18)) else ((spigotref13_Twin.f l0_0 l0_1 a0_2).bind fun bt384 => (if 0 < (t380.length : Int) then (if 0 ≤ (rd t380 0) then (if (rd t380 0) < (bt384.2.1.length : Int) then ((some (bt384.2.1.set ((rd t380 0) : Int).toNat true : List Bool)).bind fun y393 => (if (rd t380 0) < (bt384.1.length : Int) then ((some (bt384.1.set ((rd t380 0) : Int).toNat (-1) : List Int)).bind fun y395 => (if (t380.length : Int) > 1 then (if 1 < (t380.length : Int) then (some (y395, y393, rd t380 1, rd t380 0, 0)) else (none)) else (some (y395, y393, (-1), rd t380 0, 0)))) else (none))) else (none)) else (none)) else (none)))) = some (r1, r2, r3, r4, r5) := H
    have A4 := Aside0.mk A40
    (try clear A40)
    by_cases c5 : (t380.length : Int) = 0
    · rw [if_pos c5] at H
      have c5b0 : ((t380.length : Int) == 0) = true := beq_iff_eq.mpr c5
      have c5b1 : ((t380.length : Int) != 0) = false := bne_eq_false_iff_eq.mpr c5
      clear c5
      simp only [Option.some.injEq, Prod.mk.injEq] at H
      obtain ⟨rfl, rfl, rfl, rfl, rfl⟩ := H
      go_enter Try.func31, Try.ntmps31
      go_wp2_with (first | ((with_reducible refine gate_dst (N := 1) rfl ?_); refine boxE (N := 1) (cs := #[.slice A0_0 l0_0.length c0_0, .slice A0_1 l0_1.length c0_1, .int .i64 a0_2]) (t := 36) ?_; intro gb376 hg w6 hbox hb; have n0_ := Aside0.mk (below_step (pB HB.out) hb); have n1_ := Aside0.mk (hbox); have n3_ := Aside0.mk (pL HB.out hg); clear HB; have HB := n0_; have BK376 := n1_; have GE376 := n3_; clear n0_ n1_ n3_; clear hb hbox hg) | ((with_reducible refine gate_dst (N := 2) rfl ?_); refine boxE (N := 2) (cs := #[.slice none 0 0, .slice none 0 0, .int .i64 0]) (t := 36) ?_; intro gb377 hg w7 hbox hb; have n0_ := Aside0.mk (blk_below (pK BK376.out) hb); have n1_ := Aside0.mk (below_step (pB HB.out) hb); have n2_ := Aside0.mk (hbox); have n4_ := Aside0.mk (pL HB.out hg); have n5_ := Aside0.mk (pNl BK376.out hg); have n6_ := Aside0.mk (pNg BK376.out hg); clear BK376; clear HB; have BK376 := n0_; have HB := n1_; have BK377 := n2_; have GE377 := n4_; have NB376_377 := n5_; have NB377_376 := n6_; clear n0_ n1_ n2_ n4_ n5_ n6_; clear hb hbox hg; have hnb8 := NB376_377.out; have hnc8 := NB377_376.out; obtain ⟨hcz9_0, hcz9_1, hcz9_2, hfz9_0, hfz9_1, hfz9_2⟩ := bk3 BK376.out) | ((with_reducible refine gate_callee (f := 24) rfl ?_); refine goesE (some 9) rfl rfl Try.func24 (by kernel_rfl) rfl #[.agg #[.slice A0_0 l0_0.length c0_0, .slice A0_1 l0_1.length c0_1, .int .i64 a0_2]] rfl ?_; (with_reducible refine (spigotref13_Check.calls k _ _ l0_0 _ _ l0_1 a0_2 t378 _ ?side1 ?side2 ?side3 ?side4 A2.out).mono ?_); (case side1 => exact Kd.pC ((Kd.C_below HR0_0.out HB.out))); (case side2 => exact HC0_0.out); (case side3 => exact Kd.pC ((Kd.C_below HR0_1.out HB.out))); (case side4 => exact HC0_1.out); rintro e w10 ⟨rfl, hb⟩; refine ⟨_, rfl, ?_⟩; have n0_ := Aside0.mk (blk_below (pK BK376.out) hb); have n1_ := Aside0.mk (blk_below (pK BK377.out) hb); have n2_ := Aside0.mk (below_step (pB HB.out) hb); clear BK376; clear BK377; clear HB; have BK376 := n0_; have BK377 := n1_; have HB := n2_; clear n0_ n1_ n2_; (try clear hb); (try clear hb2); (try clear hk); (try clear hi); obtain ⟨hcz11_0, hcz11_1, hcz11_2, hfz11_0, hfz11_1, hfz11_2⟩ := bk3 BK376.out) | ((with_reducible refine gate_callee (f := 47) rfl ?_); refine goesE (some 16) rfl rfl Try.func47 (by kernel_rfl) rfl #[.agg #[.slice A0_0 l0_0.length c0_0, .slice A0_1 l0_1.length c0_1, .int .i64 a0_2]] rfl ?_; (with_reducible refine (spigotref13_Free.calls k _ _ l0_0 _ _ l0_1 a0_2 t380 t383 _ ?side1 ?side2 ?side3 ?side4 A4.out).mono ?_); (case side1 => exact Kd.pC ((Kd.C_below HR0_0.out HB.out))); (case side2 => exact HC0_0.out); (case side3 => exact Kd.pC ((Kd.C_below HR0_1.out HB.out))); (case side4 => exact HC0_1.out); rintro e w12 ⟨v381, rfl, ho0, hb⟩; refine ⟨_, rfl, ?_⟩; have n0_ := Aside0.mk (Kd.R_lower ho0 (below_size (pB HB.out))); have n2_ := Aside0.mk (blk_below (pK BK377.out) hb); have n3_ := Aside0.mk (below_step (pB HB.out) hb); (try clear BK376); clear BK377; clear HB; have HO382 := n0_; have BK377 := n2_; have HB := n3_; clear n0_ n2_ n3_; (try clear hb); (try clear hb2); (try clear hk); (try clear hi); (try clear ho0); obtain ⟨Ao13, co13, eo13⟩ := Kd.R_slice HO382.out; subst eo13; obtain ⟨hcz14_0, hcz14_1, hcz14_2, hfz14_0, hfz14_1, hfz14_2⟩ := bk3 BK377.out))
      refine bodyPost_ret (results_ctt rfl _ _ gb377 36 #[.slice none 0 0, .slice none 0 0, .int .i64 0] (0, 0) _ rfl (by (with_reducible repeat (first | refine blk_drewN ?_ _ | refine blk_drew ?_ | refine blk_alloc ?_ _)); refine blk_put (cs := #[.slice none 0 0, .slice none 0 0, .int .i64 0]) ?_ 2 _ rfl; (with_reducible repeat (first | refine blk_drewN ?_ _ | refine blk_drew ?_ | refine blk_alloc ?_ _)); refine blk_put (cs := #[.slice none 0 0, .slice none 0 0, .int .i64 0]) ?_ 1 _ rfl; (with_reducible repeat (first | refine blk_drewN ?_ _ | refine blk_drew ?_ | refine blk_alloc ?_ _)); refine blk_put (cs := #[.slice none 0 0, .slice none 0 0, .int .i64 0]) ?_ 0 _ rfl; (with_reducible repeat (first | refine blk_drewN ?_ _ | refine blk_drew ?_ | refine blk_alloc ?_ _)); exact BK377.out) Try.underlying36 rfl (by kernel_rfl)) rfl ?_
      exact ⟨_, _, by first | rfl | (simp [errW_none, errW_some] <;> rfl) | (simp [*, errW_none, errW_some] <;> rfl), by first | exact Kd.R_nil _ _ _ _ _ | exact Kd.N_nil _ _ _ _ _ | exact Kd.V_nil _ _ _ _ _ | exact Kd.Q_nil _ _ _ _ _ | exact Kd.S_nil _ _ _ _ _, by first | exact Kd.R_nil _ _ _ _ _ | exact Kd.N_nil _ _ _ _ _ | exact Kd.V_nil _ _ _ _ _ | exact Kd.Q_nil _ _ _ _ _ | exact Kd.S_nil _ _ _ _ _, pB HB.out⟩
    · rw [if_neg c5] at H
      have c5b0 : ((t380.length : Int) == 0) = false := beq_eq_false_iff_ne.mpr c5
      have c5b1 : ((t380.length : Int) != 0) = true := bne_iff_ne.mpr c5
      have c5b2 : ¬ (t380 = []) := fun h_ => c5 (by rw [h_]; rfl)
      replace H := Option.bind_eq_some_iff.mp H
      obtain ⟨⟨t384, t387, t390⟩, A150, H⟩ := H
      replace H : (if 0 < (t380.length : Int) then (if 0 ≤ (rd t380 0) then (if (rd t380 0) < (t387.length : Int) then ((some (t387.set ((rd t380 0) : Int).toNat true : List Bool)).bind fun y393 => (if (rd t380 0) < (t384.length : Int) then ((some (t384.set ((rd t380 0) : Int).toNat (-1) : List Int)).bind fun y395 => (if (t380.length : Int) > 1 then (if 1 < (t380.length : Int) then (some (y395, y393, rd t380 1, rd t380 0, 0)) else (none)) else (some (y395, y393, (-1), rd t380 0, 0)))) else (none))) else (none)) else (none)) else (none)) = some (r1, r2, r3, r4, r5) := H
      have A15 := Aside0.mk A150
      (try clear A150)
      by_cases c16 : 0 < (t380.length : Int)
      · rw [if_pos c16] at H
        have c16b0 : decide (0 < (t380.length : Int)) = true := decide_eq_true c16
        have c16b1 : decide (0 < t380.length) = true := decide_eq_true (by omega)
        clear c16
        by_cases c17 : 0 ≤ (rd t380 0)
        · rw [if_pos c17] at H
          have c17b0 : decide (0 ≤ (rd t380 0)) = true := decide_eq_true c17
          clear c17
          by_cases c18 : (rd t380 0) < (t387.length : Int)
          · rw [if_pos c18] at H
            have c18b0 : decide ((rd t380 0) < (t387.length : Int)) = true := decide_eq_true c18
            clear c18
            obtain ⟨y393, hy393⟩ : ∃ y_ : List Bool, y_ = (t387.set ((rd t380 0) : Int).toNat true) := ⟨_, rfl⟩
            replace H : (if (rd t380 0) < (t384.length : Int) then ((some (t384.set ((rd t380 0) : Int).toNat (-1) : List Int)).bind fun y395 => (if (t380.length : Int) > 1 then (if 1 < (t380.length : Int) then (some (y395, y393, rd t380 1, rd t380 0, 0)) else (none)) else (some (y395, y393, (-1), rd t380 0, 0)))) else (none)) = some (r1, r2, r3, r4, r5) := by first | (rw [hy393]; with_reducible exact H) | (have H2_ := (Option.bind_some _ _).symm.trans H; rw [hy393]; with_reducible exact H2_) | (have H2_ := (Option.bind_some _ _).symm.trans H; with_reducible exact H2_) | with_reducible exact H | (rw [hy393]; exact H) | exact H
            have Ny393 := Aside0.mk hy393
            (try clear hy393)
            by_cases c20 : (rd t380 0) < (t384.length : Int)
            · rw [if_pos c20] at H
              have c20b0 : decide ((rd t380 0) < (t384.length : Int)) = true := decide_eq_true c20
              clear c20
              obtain ⟨y395, hy395⟩ : ∃ y_ : List Int, y_ = (t384.set ((rd t380 0) : Int).toNat (-1)) := ⟨_, rfl⟩
              replace H : (if (t380.length : Int) > 1 then (if 1 < (t380.length : Int) then (some (y395, y393, rd t380 1, rd t380 0, 0)) else (none)) else (some (y395, y393, (-1), rd t380 0, 0))) = some (r1, r2, r3, r4, r5) := by first | (rw [hy395]; with_reducible exact H) | (have H2_ := (Option.bind_some _ _).symm.trans H; rw [hy395]; with_reducible exact H2_) | (have H2_ := (Option.bind_some _ _).symm.trans H; with_reducible exact H2_) | with_reducible exact H | (rw [hy395]; exact H) | exact H
              have Ny395 := Aside0.mk hy395
              (try clear hy395)
              by_cases c22 : (t380.length : Int) > 1
              · rw [if_pos c22] at H
                have c22b0 : decide (1 < (t380.length : Int)) = true := decide_eq_true c22
                have c22b1 : decide (1 < t380.length) = true := decide_eq_true (by omega)
                clear c22
                by_cases c23 : 1 < (t380.length : Int)
                · rw [if_pos c23] at H
                  have c23b0 : decide (1 < (t380.length : Int)) = true := decide_eq_true c23
                  have c23b1 : decide (1 < t380.length) = true := decide_eq_true (by omega)
                  clear c23
                  simp only [Option.some.injEq, Prod.mk.injEq] at H
                  obtain ⟨rfl, rfl, rfl, rfl, rfl⟩ := H
                  go_enter Try.func31, Try.ntmps31
                  try go_wp2_with (first | ((with_reducible refine gate_dst (N := 1) rfl ?_); refine boxE (N := 1) (cs := #[.slice A0_0 l0_0.length c0_0, .slice A0_1 l0_1.length c0_1, .int .i64 a0_2]) (t := 36) ?_; intro gb376 hg w24 hbox hb; have n0_ := Aside0.mk (below_step (pB HB.out) hb); have n1_ := Aside0.mk (hbox); have n3_ := Aside0.mk (pL HB.out hg); clear HB; have HB := n0_; have BK376 := n1_; have GE376 := n3_; clear n0_ n1_ n3_; clear hb hbox hg) | ((with_reducible refine gate_dst (N := 2) rfl ?_); refine boxE (N := 2) (cs := #[.slice none 0 0, .slice none 0 0, .int .i64 0]) (t := 36) ?_; intro gb377 hg w25 hbox hb; have n0_ := Aside0.mk (blk_below (pK BK376.out) hb); have n1_ := Aside0.mk (below_step (pB HB.out) hb); have n2_ := Aside0.mk (hbox); have n4_ := Aside0.mk (pL HB.out hg); have n5_ := Aside0.mk (pNl BK376.out hg); have n6_ := Aside0.mk (pNg BK376.out hg); clear BK376; clear HB; have BK376 := n0_; have HB := n1_; have BK377 := n2_; have GE377 := n4_; have NB376_377 := n5_; have NB377_376 := n6_; clear n0_ n1_ n2_ n4_ n5_ n6_; clear hb hbox hg; have hnb26 := NB376_377.out; have hnc26 := NB377_376.out; obtain ⟨hcz27_0, hcz27_1, hcz27_2, hfz27_0, hfz27_1, hfz27_2⟩ := bk3 BK376.out) | ((with_reducible refine gate_callee (f := 24) rfl ?_); refine goesE (some 9) rfl rfl Try.func24 (by kernel_rfl) rfl #[.agg #[.slice A0_0 l0_0.length c0_0, .slice A0_1 l0_1.length c0_1, .int .i64 a0_2]] rfl ?_; (with_reducible refine (spigotref13_Check.calls k _ _ l0_0 _ _ l0_1 a0_2 t378 _ ?side1 ?side2 ?side3 ?side4 A2.out).mono ?_); (case side1 => exact Kd.pC ((Kd.C_below HR0_0.out HB.out))); (case side2 => exact HC0_0.out); (case side3 => exact Kd.pC ((Kd.C_below HR0_1.out HB.out))); (case side4 => exact HC0_1.out); rintro e w28 ⟨rfl, hb⟩; refine ⟨_, rfl, ?_⟩; have n0_ := Aside0.mk (blk_below (pK BK376.out) hb); have n1_ := Aside0.mk (blk_below (pK BK377.out) hb); have n2_ := Aside0.mk (below_step (pB HB.out) hb); clear BK376; clear BK377; clear HB; have BK376 := n0_; have BK377 := n1_; have HB := n2_; clear n0_ n1_ n2_; (try clear hb); (try clear hb2); (try clear hk); (try clear hi); obtain ⟨hcz29_0, hcz29_1, hcz29_2, hfz29_0, hfz29_1, hfz29_2⟩ := bk3 BK376.out) | ((with_reducible refine gate_callee (f := 47) rfl ?_); refine goesE (some 16) rfl rfl Try.func47 (by kernel_rfl) rfl #[.agg #[.slice A0_0 l0_0.length c0_0, .slice A0_1 l0_1.length c0_1, .int .i64 a0_2]] rfl ?_; (with_reducible refine (spigotref13_Free.calls k _ _ l0_0 _ _ l0_1 a0_2 t380 t383 _ ?side1 ?side2 ?side3 ?side4 A4.out).mono ?_); (case side1 => exact Kd.pC ((Kd.C_below HR0_0.out HB.out))); (case side2 => exact HC0_0.out); (case side3 => exact Kd.pC ((Kd.C_below HR0_1.out HB.out))); (case side4 => exact HC0_1.out); rintro e w30 ⟨v381, rfl, ho0, hb⟩; refine ⟨_, rfl, ?_⟩; have n0_ := Aside0.mk (Kd.R_lower ho0 (below_size (pB HB.out))); have n1_ := Aside0.mk (blk_below (pK BK376.out) hb); have n2_ := Aside0.mk (blk_below (pK BK377.out) hb); have n3_ := Aside0.mk (below_step (pB HB.out) hb); clear BK376; clear BK377; clear HB; have HO382 := n0_; have BK376 := n1_; have BK377 := n2_; have HB := n3_; clear n0_ n1_ n2_ n3_; (try clear hb); (try clear hb2); (try clear hk); (try clear hi); (try clear ho0); obtain ⟨Ao31, co31, eo31⟩ := Kd.R_slice HO382.out; subst eo31; obtain ⟨hcz32_0, hcz32_1, hcz32_2, hfz32_0, hfz32_1, hfz32_2⟩ := bk3 BK376.out) | ((with_reducible refine gate_callee (f := 29) rfl ?_); refine goesE (some 24) rfl rfl Try.func29 (by kernel_rfl) rfl #[.agg #[.slice A0_0 l0_0.length c0_0, .slice A0_1 l0_1.length c0_1, .int .i64 a0_2]] rfl ?_; (with_reducible refine (spigotref13_Twin.calls _ _ l0_0 _ _ l0_1 a0_2 t384 t387 t390 _ ?side1 ?side2 ?side3 ?side4 A15.out).mono ?_); (case side1 => exact Kd.pC ((Kd.C_below HR0_0.out HB.out))); (case side2 => exact HC0_0.out); (case side3 => exact Kd.pC ((Kd.C_below HR0_1.out HB.out))); (case side4 => exact HC0_1.out); rintro e w33 ⟨v385, v388, rfl, ho0, ho1, hb⟩; refine ⟨_, rfl, ?_⟩; have n0_ := Aside0.mk (Kd.R_elder' (Kd.pR HO382.out) (Kd.R_base ho0) hb); have n1_ := Aside0.mk (Kd.R_lower (Kd.R_new' ho0 (Kd.R_lt (Kd.pR HO382.out))) (below_size (pB HB.out))); have n2_ := Aside0.mk (Kd.R_lower ho1 (below_size (pB HB.out))); have n3_ := Aside0.mk (blk_below (pK BK376.out) hb); have n4_ := Aside0.mk (blk_below (pK BK377.out) hb); have n5_ := Aside0.mk (below_step (pB HB.out) hb); clear HO382; clear BK376; clear BK377; clear HB; have HO382 := n0_; have HO386 := n1_; have HO389 := n2_; have BK376 := n3_; have BK377 := n4_; have HB := n5_; clear n0_ n1_ n2_ n3_ n4_ n5_; (try clear hb); (try clear hb2); (try clear hk); (try clear hi); (try clear ho0); (try clear ho1)) | ((with_reducible refine gate_dst (N := 7) rfl ?_); refine boxE (N := 7) (cs := #[.slice none 0 0, .slice none 0 0, .int .i64 0]) (t := 36) ?_; intro gb391 hg w34 hbox hb; have n0_ := Aside0.mk (Kd.R_below (Kd.pR HO382.out) hb); have n1_ := Aside0.mk (Kd.R_below (Kd.pR HO386.out) hb); have n2_ := Aside0.mk (Kd.R_below (Kd.pR HO389.out) hb); have n3_ := Aside0.mk (blk_below (pK BK376.out) hb); have n4_ := Aside0.mk (blk_below (pK BK377.out) hb); have n5_ := Aside0.mk (below_step (pB HB.out) hb); have n6_ := Aside0.mk (hbox); have n8_ := Aside0.mk (pL HB.out hg); have n9_ := Aside0.mk (pNl BK376.out hg); have n10_ := Aside0.mk (pNg BK376.out hg); have n11_ := Aside0.mk (pNl BK377.out hg); have n12_ := Aside0.mk (pNg BK377.out hg); clear HO382; clear HO386; clear HO389; clear BK376; clear BK377; clear HB; have HO382 := n0_; have HO386 := n1_; have HO389 := n2_; have BK376 := n3_; have BK377 := n4_; have HB := n5_; have BK391 := n6_; have GE391 := n8_; have NB376_391 := n9_; have NB391_376 := n10_; have NB377_391 := n11_; have NB391_377 := n12_; clear n0_ n1_ n2_ n3_ n4_ n5_ n6_ n8_ n9_ n10_ n11_ n12_; clear hb hbox hg; obtain ⟨Ao35, co35, eo35⟩ := Kd.R_slice HO386.out; subst eo35; have hnb36 := NB391_376.out; have hnc36 := NB376_391.out; have hnb37 := NB391_377.out; have hnc37 := NB377_391.out; obtain ⟨hcz38_0, hcz38_1, hcz38_2, hfz38_0, hfz38_1, hfz38_2⟩ := bk3 BK391.out; obtain ⟨Ao39, co39, eo39⟩ := Kd.R_slice HO389.out; subst eo39))
                  have n0_ : Aside0 (Kd.R (Kd.int .i64) 3 (((w34.setCell ⟨gb391, 0, none⟩ (.slice Ao35 t384.length co35)).setCell ⟨gb391, 1, none⟩ (.slice Ao39 t387.length co39)).setCell ⟨gb391, 2, none⟩ (.int .i64 t390)) w.heap.size (fun k_ => some k_ ≠ (.slice Ao35 t384.length co35 : Value).ownBlock) (.slice Ao31 t380.length co31) t380) := ⟨Kd.pR (Kd.R_mono (Kd.R_far (p := ⟨gb391, 2, none⟩) (Kd.R_far (p := ⟨gb391, 1, none⟩) (Kd.R_far (p := ⟨gb391, 0, none⟩) (Kd.R_types HO382.out BK391.out (by decide)) (fun _ hk => hk.2) (.slice Ao35 t384.length co35)) (fun _ hk => hk.2) (.slice Ao39 t387.length co39)) (fun _ hk => hk.2) (.int .i64 t390)) (fun _ hk => hk.1.2))⟩
                  have n1_ : Aside0 (Kd.R (Kd.int .i64) 3 (((w34.setCell ⟨gb391, 0, none⟩ (.slice Ao35 t384.length co35)).setCell ⟨gb391, 1, none⟩ (.slice Ao39 t387.length co39)).setCell ⟨gb391, 2, none⟩ (.int .i64 t390)) w.heap.size (fun k_ => some k_ ≠ (.slice Ao31 t380.length co31 : Value).ownBlock) (.slice Ao35 t384.length co35) t384) := ⟨Kd.pR (Kd.R_mono (Kd.R_far (p := ⟨gb391, 2, none⟩) (Kd.R_far (p := ⟨gb391, 1, none⟩) (Kd.R_far (p := ⟨gb391, 0, none⟩) (Kd.R_types HO386.out BK391.out (by decide)) (fun _ hk => hk.2) (.slice Ao35 t384.length co35)) (fun _ hk => hk.2) (.slice Ao39 t387.length co39)) (fun _ hk => hk.2) (.int .i64 t390)) (fun _ hk => hk.1.2))⟩
                  have n2_ : Aside0 (Kd.R Kd.bool 4 (((w34.setCell ⟨gb391, 0, none⟩ (.slice Ao35 t384.length co35)).setCell ⟨gb391, 1, none⟩ (.slice Ao39 t387.length co39)).setCell ⟨gb391, 2, none⟩ (.int .i64 t390)) w.heap.size (fun _ => True) (.slice Ao39 t387.length co39) t387) := ⟨Kd.pR (Kd.R_mono (Kd.R_far (p := ⟨gb391, 2, none⟩) (Kd.R_far (p := ⟨gb391, 1, none⟩) (Kd.R_far (p := ⟨gb391, 0, none⟩) (Kd.R_types HO389.out BK391.out (by decide)) (fun _ hk => hk.2) (.slice Ao35 t384.length co35)) (fun _ hk => hk.2) (.slice Ao39 t387.length co39)) (fun _ hk => hk.2) (.int .i64 t390)) (fun _ hk => trivial))⟩
                  have n3_ : Aside0 ((((w34.setCell ⟨gb391, 0, none⟩ (.slice Ao35 t384.length co35)).setCell ⟨gb391, 1, none⟩ (.slice Ao39 t387.length co39)).setCell ⟨gb391, 2, none⟩ (.int .i64 t390)).heap[gb376]? = some (.cells #[.slice A0_0 l0_0.length c0_0, .slice A0_1 l0_1.length c0_1, .int .i64 a0_2] 36 (0, 0))) := ⟨by (with_reducible repeat (first | refine blk_drewN ?_ _ | refine blk_drew ?_ | refine blk_alloc ?_ _)); refine blk_far ?_ NB376_391.out _; (with_reducible repeat (first | refine blk_drewN ?_ _ | refine blk_drew ?_ | refine blk_alloc ?_ _)); refine blk_far ?_ NB376_391.out _; (with_reducible repeat (first | refine blk_drewN ?_ _ | refine blk_drew ?_ | refine blk_alloc ?_ _)); refine blk_far ?_ NB376_391.out _; (with_reducible repeat (first | refine blk_drewN ?_ _ | refine blk_drew ?_ | refine blk_alloc ?_ _)); exact BK376.out⟩
                  have n4_ : Aside0 ((((w34.setCell ⟨gb391, 0, none⟩ (.slice Ao35 t384.length co35)).setCell ⟨gb391, 1, none⟩ (.slice Ao39 t387.length co39)).setCell ⟨gb391, 2, none⟩ (.int .i64 t390)).heap[gb377]? = some (.cells #[.slice none 0 0, .slice none 0 0, .int .i64 0] 36 (0, 0))) := ⟨by (with_reducible repeat (first | refine blk_drewN ?_ _ | refine blk_drew ?_ | refine blk_alloc ?_ _)); refine blk_far ?_ NB377_391.out _; (with_reducible repeat (first | refine blk_drewN ?_ _ | refine blk_drew ?_ | refine blk_alloc ?_ _)); refine blk_far ?_ NB377_391.out _; (with_reducible repeat (first | refine blk_drewN ?_ _ | refine blk_drew ?_ | refine blk_alloc ?_ _)); refine blk_far ?_ NB377_391.out _; (with_reducible repeat (first | refine blk_drewN ?_ _ | refine blk_drew ?_ | refine blk_alloc ?_ _)); exact BK377.out⟩
                  have n5_ : Aside0 ((((w34.setCell ⟨gb391, 0, none⟩ (.slice Ao35 t384.length co35)).setCell ⟨gb391, 1, none⟩ (.slice Ao39 t387.length co39)).setCell ⟨gb391, 2, none⟩ (.int .i64 t390)).heap[gb391]? = some (.cells #[.slice Ao35 t384.length co35, .slice Ao39 t387.length co39, .int .i64 t390] 36 (0, 0))) := ⟨by (with_reducible repeat (first | refine blk_drewN ?_ _ | refine blk_drew ?_ | refine blk_alloc ?_ _)); refine blk_put (cs := #[.slice Ao35 t384.length co35, .slice Ao39 t387.length co39, .int .i64 0]) ?_ 2 _ rfl; (with_reducible repeat (first | refine blk_drewN ?_ _ | refine blk_drew ?_ | refine blk_alloc ?_ _)); refine blk_put (cs := #[.slice Ao35 t384.length co35, .slice none 0 0, .int .i64 0]) ?_ 1 _ rfl; (with_reducible repeat (first | refine blk_drewN ?_ _ | refine blk_drew ?_ | refine blk_alloc ?_ _)); refine blk_put (cs := #[.slice none 0 0, .slice none 0 0, .int .i64 0]) ?_ 0 _ rfl; (with_reducible repeat (first | refine blk_drewN ?_ _ | refine blk_drew ?_ | refine blk_alloc ?_ _)); exact BK391.out⟩
                  have n6_ : Aside0 (Below w.heap.size w (((w34.setCell ⟨gb391, 0, none⟩ (.slice Ao35 t384.length co35)).setCell ⟨gb391, 1, none⟩ (.slice Ao39 t387.length co39)).setCell ⟨gb391, 2, none⟩ (.int .i64 t390))) := ⟨pB HB.out⟩
                  (try clear HO382)
                  (try clear HO386)
                  (try clear HO389)
                  (try clear BK376)
                  (try clear BK377)
                  (try clear BK391)
                  (try clear HB)
                  generalize (((w34.setCell ⟨gb391, 0, none⟩ (.slice Ao35 t384.length co35)).setCell ⟨gb391, 1, none⟩ (.slice Ao39 t387.length co39)).setCell ⟨gb391, 2, none⟩ (.int .i64 t390)) = w40 at n0_ n1_ n2_ n3_ n4_ n5_ n6_ ⊢
                  have HO382 := n0_
                  have HO386 := n1_
                  have HO389 := n2_
                  have BK376 := n3_
                  have BK377 := n4_
                  have BK391 := n5_
                  have HB := n6_
                  clear n0_ n1_ n2_ n3_ n4_ n5_ n6_
                  have n0_ := Aside0.mk (Kd.R_drew HO382.out)
                  have n1_ := Aside0.mk (Kd.R_drew HO386.out)
                  have n2_ := Aside0.mk (Kd.R_drew HO389.out)
                  have n3_ := Aside0.mk (blk_drew BK376.out)
                  have n4_ := Aside0.mk (blk_drew BK377.out)
                  have n5_ := Aside0.mk (blk_drew BK391.out)
                  have n6_ := Aside0.mk (below_drew1 HB.out)
                  clear HO382
                  clear HO386
                  clear HO389
                  clear BK376
                  clear BK377
                  clear BK391
                  clear HB
                  have HO382 := n0_
                  have HO386 := n1_
                  have HO389 := n2_
                  have BK376 := n3_
                  have BK377 := n4_
                  have BK391 := n5_
                  have HB := n6_
                  clear n0_ n1_ n2_ n3_ n4_ n5_ n6_
                  have p392 : 0 ≤ (0 : Int) := (by omega)
                  have q392 : 0 < (t380.length : Int) := od
                  obtain ⟨ad392, e392, hx392_0⟩ := Kd.at_int (Kd.R_reads' HO382.out).2.2 0 p392 q392
                  cases e392
                  have qi392 : (0 < t380.length) = True := eq_true (by omega)
                  (try rw [show ((0 : Int)).toNat = 0 from rfl] at hx392_0)
                  (try rw [Addr.add_zero'] at hx392_0)
                  replace p392 := eq_true p392
                  replace q392 := eq_true q392
                  have p19 : 0 ≤ ((rd t380 0) : Int) := od
                  have q19 : ((rd t380 0) : Int) < ((t387.length : Int) : Int) := od
                  obtain ⟨go19, co19, eo19, gb19, gl19, cl19, HG19⟩ := Kd.R_form HO389.out (by omega)
                  (first | cases eo19 | (injection eo19 with ea_ en_ ec_; (first | subst ea_ | (injection ea_ with ea_; subst ea_)); subst ec_; clear en_))
                  have GB19 := Aside0.mk gb19
                  have GG19 := Aside0.mk HG19
                  clear gb19 gl19 HG19
                  obtain ⟨hx19_0, hf19_0⟩ := Kd.R_celln false HO389.out ((rd t380 0) : Int) p19 q19
                  replace p19 := eq_true p19
                  replace q19 := eq_true q19
                  have HP42 := Kd.R_putn HO389.out ((rd t380 0) : Int) true
                  rw [← Ny393.out] at HP42
                  have HQ42 := Aside0.mk HP42
                  (try clear HP42)
                  refine start_ (n := 7) (S := fun w' => w'.cell? ⟨gb391, 0, none⟩ = some (.slice Ao35 t384.length co35) ∧ w'.cell? ⟨gb391, 1, none⟩ = some (.slice (some ⟨go19, 0, none⟩) t387.length co39) ∧ w'.cell? ⟨gb391, 2, none⟩ = some (.int .i64 t390) ∧ w'.cell? ad392 = some (.int .i64 (rd t380 0))) (ds := [6]) #[false, false, false, false, false, false, false] (by kernel_rfl) rfl rfl ⟨(blk_cell BK391.out 0).trans rfl, (blk_cell BK391.out 1).trans rfl, (blk_cell BK391.out 2).trans rfl, hx392_0⟩ (fun hHeld => ?_)
                  generalize w40.drew = w41 at HO382 HO386 HO389 BK376 BK377 BK391 HB GG19 HQ42 hf19_0 hx19_0 hx392_0 hHeld ⊢
                  refine pure_ (i := 0) (N := some 25) (v := ?_) (a' := ?_) #[true, false, false, false, false, false, false] rfl rfl (by kernel_rfl) (fun _ _ _ h => h) (Or.inl ⟨by rfl, ?_⟩) ?_ ?_
                  rotate_left
                  · intro w'
                    go_simp
                    with_reducible rfl
                  rotate_left
                  · simp only [Act.put, List.setIfInBounds_toArray, List.set_cons_zero, List.set_cons_succ, i64_w, i32_w]
                    rfl
                  refine pure_ (i := 2) (N := some 27) (v := ?_) (a' := ?_) #[true, false, true, false, false, false, false] rfl rfl (by kernel_rfl) (fun _ _ _ h => h) (Or.inl ⟨by rfl, ?_⟩) ?_ ?_
                  rotate_left
                  · intro w'
                    go_simp
                    with_reducible rfl
                  rotate_left
                  · simp only [Act.put, List.setIfInBounds_toArray, List.set_cons_zero, List.set_cons_succ, i64_w, i32_w]
                    rfl
                  refine pure_ (i := 3) (N := some 28) (v := ?_) (a' := ?_) #[true, false, true, true, false, false, false] rfl rfl (by kernel_rfl) (fun _ _ _ h => h) (Or.inl ⟨by rfl, ?_⟩) ?_ ?_
                  rotate_left
                  · intro w'
                    go_simp
                    with_reducible rfl
                  rotate_left
                  · simp only [Act.put, List.setIfInBounds_toArray, List.set_cons_zero, List.set_cons_succ, i64_w, i32_w]
                    rfl
                  refine take_ (i := 1) (N := some 26) (v := ?_) (a' := ?_) #[true, true, true, true, false, false, false] rfl rfl (by kernel_rfl) (fun _ _ _ h => h) (Or.inl ⟨by rfl, ?_⟩) hHeld ?_ ?_
                  rotate_left
                  · rintro w' ⟨s0, s1, s2, s3⟩
                    go_simp
                    with_reducible rfl
                  rotate_left
                  · simp only [Act.put, List.setIfInBounds_toArray, List.set_cons_zero, List.set_cons_succ, i64_w, i32_w]
                    rfl
                  refine take_ (i := 4) (N := some 29) (v := ?_) (a' := ?_) #[true, true, true, true, true, false, false] rfl rfl (by kernel_rfl) (fun _ _ _ h => h) (Or.inl ⟨by rfl, ?_⟩) hHeld ?_ ?_
                  rotate_left
                  · rintro w' ⟨s0, s1, s2, s3⟩
                    go_simp
                    with_reducible rfl
                  rotate_left
                  · simp only [Act.put, List.setIfInBounds_toArray, List.set_cons_zero, List.set_cons_succ, i64_w, i32_w]
                    rfl
                  refine pure_ (i := 5) (N := some 30) (v := ?_) (a' := ?_) #[true, true, true, true, true, true, false] rfl rfl (by kernel_rfl) (fun _ _ _ h => h) (Or.inl ⟨by rfl, ?_⟩) ?_ ?_
                  rotate_left
                  · intro w'
                    go_simp
                    with_reducible rfl
                  rotate_left
                  · simp only [Act.put, List.setIfInBounds_toArray, List.set_cons_zero, List.set_cons_succ, i64_w, i32_w]
                    rfl
                  refine last_ (i := 6) (N := none) #[true, true, true, true, true, true, true] rfl rfl (by kernel_rfl) (by decide) (fun K hK => ?_)
                  refine skip_ (w1 := ?_) (by rfl) rfl ?_ ?_
                  rotate_left
                  · go_simp
                    rfl
                  refine hK.out _ _ ?_
                  clear hK K
                  refine done_ (by kernel_rfl) ?_
                  have n0_ : Aside0 (Kd.R (Kd.int .i64) 3 (w41.setCell ⟨go19, ((rd t380 0) : Int).toNat, none⟩ (.bool true)) w.heap.size (fun k_ => some k_ ≠ (.slice Ao35 t384.length co35 : Value).ownBlock) (.slice (some ad392) t380.length co31) t380) := ⟨Kd.pR (Kd.R_mono (Kd.R_far (p := ⟨go19, ((rd t380 0) : Int).toNat, none⟩) (Kd.R_types HO382.out GG19.out (by decide)) (fun _ hk => hk.2) (.bool true)) (fun _ hk => hk.1))⟩
                  have n1_ : Aside0 (Kd.R (Kd.int .i64) 3 (w41.setCell ⟨go19, ((rd t380 0) : Int).toNat, none⟩ (.bool true)) w.heap.size (fun k_ => some k_ ≠ (.slice (some ad392) t380.length co31 : Value).ownBlock) (.slice Ao35 t384.length co35) t384) := ⟨Kd.pR (Kd.R_mono (Kd.R_far (p := ⟨go19, ((rd t380 0) : Int).toNat, none⟩) (Kd.R_types HO386.out GG19.out (by decide)) (fun _ hk => hk.2) (.bool true)) (fun _ hk => hk.1))⟩
                  have n2_ : Aside0 (Kd.R Kd.bool 4 (w41.setCell ⟨go19, ((rd t380 0) : Int).toNat, none⟩ (.bool true)) w.heap.size (fun _ => True) (.slice (some ⟨go19, 0, none⟩) t387.length co39) y393) := ⟨Kd.pR HQ42.out⟩
                  have n3_ : Aside0 ((w41.setCell ⟨go19, ((rd t380 0) : Int).toNat, none⟩ (.bool true)).heap[gb376]? = some (.cells #[.slice A0_0 l0_0.length c0_0, .slice A0_1 l0_1.length c0_1, .int .i64 a0_2] 36 (0, 0))) := ⟨by (with_reducible repeat (first | refine blk_drewN ?_ _ | refine blk_drew ?_ | refine blk_alloc ?_ _)); refine blk_far ?_ (by have h_ := Kd.R_ne HO389.out BK376.out (by decide); intro e_; exact h_ (by rw [e_]; rfl)) _; (with_reducible repeat (first | refine blk_drewN ?_ _ | refine blk_drew ?_ | refine blk_alloc ?_ _)); exact BK376.out⟩
                  have n4_ : Aside0 ((w41.setCell ⟨go19, ((rd t380 0) : Int).toNat, none⟩ (.bool true)).heap[gb377]? = some (.cells #[.slice none 0 0, .slice none 0 0, .int .i64 0] 36 (0, 0))) := ⟨by (with_reducible repeat (first | refine blk_drewN ?_ _ | refine blk_drew ?_ | refine blk_alloc ?_ _)); refine blk_far ?_ (by have h_ := Kd.R_ne HO389.out BK377.out (by decide); intro e_; exact h_ (by rw [e_]; rfl)) _; (with_reducible repeat (first | refine blk_drewN ?_ _ | refine blk_drew ?_ | refine blk_alloc ?_ _)); exact BK377.out⟩
                  have n5_ : Aside0 ((w41.setCell ⟨go19, ((rd t380 0) : Int).toNat, none⟩ (.bool true)).heap[gb391]? = some (.cells #[.slice Ao35 t384.length co35, .slice (some ⟨go19, 0, none⟩) t387.length co39, .int .i64 t390] 36 (0, 0))) := ⟨by (with_reducible repeat (first | refine blk_drewN ?_ _ | refine blk_drew ?_ | refine blk_alloc ?_ _)); refine blk_far ?_ (by have h_ := Kd.R_ne HO389.out BK391.out (by decide); intro e_; exact h_ (by rw [e_]; rfl)) _; (with_reducible repeat (first | refine blk_drewN ?_ _ | refine blk_drew ?_ | refine blk_alloc ?_ _)); exact BK391.out⟩
                  have n6_ : Aside0 (Below w.heap.size w (w41.setCell ⟨go19, ((rd t380 0) : Int).toNat, none⟩ (.bool true))) := ⟨by repeat (first | (with_reducible first | exact HB.out | apply below_alloc | apply pw_below_drewN | apply below_drew1 | refine below_set ?_ GB19.out | refine below_set ?_ GE376.out | refine below_set ?_ GE377.out | refine below_set ?_ GE391.out) | exact HB.out)⟩
                  (try clear HO382)
                  (try clear HO386)
                  (try clear HO389)
                  (try clear BK376)
                  (try clear BK377)
                  (try clear BK391)
                  (try clear HB)
                  generalize (w41.setCell ⟨go19, ((rd t380 0) : Int).toNat, none⟩ (.bool true)) = w43 at n0_ n1_ n2_ n3_ n4_ n5_ n6_ ⊢
                  have HO382 := n0_
                  have HO386 := n1_
                  have HO389 := n2_
                  have BK376 := n3_
                  have BK377 := n4_
                  have BK391 := n5_
                  have HB := n6_
                  clear n0_ n1_ n2_ n3_ n4_ n5_ n6_
                  try go_wp2
                  have n0_ := Aside0.mk (Kd.R_drew HO382.out)
                  have n1_ := Aside0.mk (Kd.R_drew HO386.out)
                  have n2_ := Aside0.mk (Kd.R_drew HO389.out)
                  have n3_ := Aside0.mk (blk_drew BK376.out)
                  have n4_ := Aside0.mk (blk_drew BK377.out)
                  have n5_ := Aside0.mk (blk_drew BK391.out)
                  have n6_ := Aside0.mk (below_drew1 HB.out)
                  clear HO382
                  clear HO386
                  clear HO389
                  clear BK376
                  clear BK377
                  clear BK391
                  clear HB
                  have HO382 := n0_
                  have HO386 := n1_
                  have HO389 := n2_
                  have BK376 := n3_
                  have BK377 := n4_
                  have BK391 := n5_
                  have HB := n6_
                  clear n0_ n1_ n2_ n3_ n4_ n5_ n6_
                  have p394 : 0 ≤ (0 : Int) := (by omega)
                  have q394 : 0 < (t380.length : Int) := od
                  obtain ⟨ad394, e394, hx394_0⟩ := Kd.at_int (Kd.R_reads' HO382.out).2.2 0 p394 q394
                  obtain rfl : ad392 = ad394 := (by injection e394)
                  have qi394 : (0 < t380.length) = True := eq_true (by omega)
                  (try rw [show ((0 : Int)).toNat = 0 from rfl] at hx394_0)
                  (try rw [Addr.add_zero'] at hx394_0)
                  replace p394 := eq_true p394
                  replace q394 := eq_true q394
                  have p21 : 0 ≤ ((rd t380 0) : Int) := od
                  have q21 : ((rd t380 0) : Int) < ((t384.length : Int) : Int) := od
                  obtain ⟨go21, co21, eo21, gb21, gl21, cl21, HG21⟩ := Kd.R_form HO386.out (by omega)
                  (first | cases eo21 | (injection eo21 with ea_ en_ ec_; (first | subst ea_ | (injection ea_ with ea_; subst ea_)); subst ec_; clear en_))
                  have GB21 := Aside0.mk gb21
                  have GG21 := Aside0.mk HG21
                  clear gb21 gl21 HG21
                  obtain ⟨hx21_0, hf21_0⟩ := Kd.R_celln 0 HO386.out ((rd t380 0) : Int) p21 q21
                  replace p21 := eq_true p21
                  replace q21 := eq_true q21
                  have HP45 := Kd.R_putn HO386.out ((rd t380 0) : Int) (-1)
                  rw [← Ny395.out] at HP45
                  have HQ45 := Aside0.mk HP45
                  (try clear HP45)
                  refine start_ (n := 7) (S := fun w' => w'.cell? ⟨gb391, 0, none⟩ = some (.slice (some ⟨go21, 0, none⟩) t384.length co35) ∧ w'.cell? ⟨gb391, 1, none⟩ = some (.slice (some ⟨go19, 0, none⟩) t387.length co39) ∧ w'.cell? ⟨gb391, 2, none⟩ = some (.int .i64 t390) ∧ w'.cell? ad392 = some (.int .i64 (rd t380 0))) (ds := [6]) #[false, false, false, false, false, false, false] (by kernel_rfl) rfl rfl ⟨(blk_cell BK391.out 0).trans rfl, (blk_cell BK391.out 1).trans rfl, (blk_cell BK391.out 2).trans rfl, hx394_0⟩ (fun hHeld => ?_)
                  generalize w43.drew = w44 at HO382 HO386 HO389 BK376 BK377 BK391 HB GG21 HQ45 hf21_0 hx21_0 hx394_0 hHeld ⊢
                  refine pure_ (i := 0) (N := some 31) (v := ?_) (a' := ?_) #[true, false, false, false, false, false, false] rfl rfl (by kernel_rfl) (fun _ _ _ h => h) (Or.inl ⟨by rfl, ?_⟩) ?_ ?_
                  rotate_left
                  · intro w'
                    go_simp
                    with_reducible rfl
                  rotate_left
                  · simp only [Act.put, List.setIfInBounds_toArray, List.set_cons_zero, List.set_cons_succ, i64_w, i32_w]
                    rfl
                  refine pure_ (i := 2) (N := some 33) (v := ?_) (a' := ?_) #[true, false, true, false, false, false, false] rfl rfl (by kernel_rfl) (fun _ _ _ h => h) (Or.inl ⟨by rfl, ?_⟩) ?_ ?_
                  rotate_left
                  · intro w'
                    go_simp
                    with_reducible rfl
                  rotate_left
                  · simp only [Act.put, List.setIfInBounds_toArray, List.set_cons_zero, List.set_cons_succ, i64_w, i32_w]
                    rfl
                  refine pure_ (i := 3) (N := some 34) (v := ?_) (a' := ?_) #[true, false, true, true, false, false, false] rfl rfl (by kernel_rfl) (fun _ _ _ h => h) (Or.inl ⟨by rfl, ?_⟩) ?_ ?_
                  rotate_left
                  · intro w'
                    go_simp
                    with_reducible rfl
                  rotate_left
                  · simp only [Act.put, List.setIfInBounds_toArray, List.set_cons_zero, List.set_cons_succ, i64_w, i32_w]
                    rfl
                  refine take_ (i := 1) (N := some 32) (v := ?_) (a' := ?_) #[true, true, true, true, false, false, false] rfl rfl (by kernel_rfl) (fun _ _ _ h => h) (Or.inl ⟨by rfl, ?_⟩) hHeld ?_ ?_
                  rotate_left
                  · rintro w' ⟨s0, s1, s2, s3⟩
                    go_simp
                    with_reducible rfl
                  rotate_left
                  · simp only [Act.put, List.setIfInBounds_toArray, List.set_cons_zero, List.set_cons_succ, i64_w, i32_w]
                    rfl
                  refine take_ (i := 4) (N := some 35) (v := ?_) (a' := ?_) #[true, true, true, true, true, false, false] rfl rfl (by kernel_rfl) (fun _ _ _ h => h) (Or.inl ⟨by rfl, ?_⟩) hHeld ?_ ?_
                  rotate_left
                  · rintro w' ⟨s0, s1, s2, s3⟩
                    go_simp
                    with_reducible rfl
                  rotate_left
                  · simp only [Act.put, List.setIfInBounds_toArray, List.set_cons_zero, List.set_cons_succ, i64_w, i32_w]
                    rfl
                  refine pure_ (i := 5) (N := some 36) (v := ?_) (a' := ?_) #[true, true, true, true, true, true, false] rfl rfl (by kernel_rfl) (fun _ _ _ h => h) (Or.inl ⟨by rfl, ?_⟩) ?_ ?_
                  rotate_left
                  · intro w'
                    go_simp
                    with_reducible rfl
                  rotate_left
                  · simp only [Act.put, List.setIfInBounds_toArray, List.set_cons_zero, List.set_cons_succ, i64_w, i32_w]
                    rfl
                  refine last_ (i := 6) (N := none) #[true, true, true, true, true, true, true] rfl rfl (by kernel_rfl) (by decide) (fun K hK => ?_)
                  refine skip_ (w1 := ?_) (by rfl) rfl ?_ ?_
                  rotate_left
                  · go_simp
                    rfl
                  refine hK.out _ _ ?_
                  clear hK K
                  refine done_ (by kernel_rfl) ?_
                  have n0_ : Aside0 (Kd.R (Kd.int .i64) 3 (w44.setCell ⟨go21, ((rd t380 0) : Int).toNat, none⟩ (.int .i64 (-1))) w.heap.size (fun k_ => some k_ ≠ (.slice (some ⟨go21, 0, none⟩) t384.length co35 : Value).ownBlock) (.slice (some ad392) t380.length co31) t380) := ⟨Kd.pR (Kd.R_mono (Kd.R_far (p := ⟨go21, ((rd t380 0) : Int).toNat, none⟩) (Kd.R_mono HO382.out (fun k_ hk => (⟨hk, fun e_ => hk (by rw [e_]; rfl)⟩ : _ ∧ k_ ≠ go21))) (fun _ hk => hk.2) (.int .i64 (-1))) (fun _ hk => hk.1))⟩
                  have n1_ : Aside0 (Kd.R (Kd.int .i64) 3 (w44.setCell ⟨go21, ((rd t380 0) : Int).toNat, none⟩ (.int .i64 (-1))) w.heap.size (fun k_ => some k_ ≠ (.slice (some ad392) t380.length co31 : Value).ownBlock) (.slice (some ⟨go21, 0, none⟩) t384.length co35) y395) := ⟨Kd.pR HQ45.out⟩
                  have n2_ : Aside0 (Kd.R Kd.bool 4 (w44.setCell ⟨go21, ((rd t380 0) : Int).toNat, none⟩ (.int .i64 (-1))) w.heap.size (fun _ => True) (.slice (some ⟨go19, 0, none⟩) t387.length co39) y393) := ⟨Kd.pR (Kd.R_mono (Kd.R_far (p := ⟨go21, ((rd t380 0) : Int).toNat, none⟩) (Kd.R_types HO389.out GG21.out (by decide)) (fun _ hk => hk.2) (.int .i64 (-1))) (fun _ hk => trivial))⟩
                  have n3_ : Aside0 ((w44.setCell ⟨go21, ((rd t380 0) : Int).toNat, none⟩ (.int .i64 (-1))).heap[gb376]? = some (.cells #[.slice A0_0 l0_0.length c0_0, .slice A0_1 l0_1.length c0_1, .int .i64 a0_2] 36 (0, 0))) := ⟨by (with_reducible repeat (first | refine blk_drewN ?_ _ | refine blk_drew ?_ | refine blk_alloc ?_ _)); refine blk_far ?_ (by have h_ := Kd.R_ne HO386.out BK376.out (by decide); intro e_; exact h_ (by rw [e_]; rfl)) _; (with_reducible repeat (first | refine blk_drewN ?_ _ | refine blk_drew ?_ | refine blk_alloc ?_ _)); exact BK376.out⟩
                  have n4_ : Aside0 ((w44.setCell ⟨go21, ((rd t380 0) : Int).toNat, none⟩ (.int .i64 (-1))).heap[gb377]? = some (.cells #[.slice none 0 0, .slice none 0 0, .int .i64 0] 36 (0, 0))) := ⟨by (with_reducible repeat (first | refine blk_drewN ?_ _ | refine blk_drew ?_ | refine blk_alloc ?_ _)); refine blk_far ?_ (by have h_ := Kd.R_ne HO386.out BK377.out (by decide); intro e_; exact h_ (by rw [e_]; rfl)) _; (with_reducible repeat (first | refine blk_drewN ?_ _ | refine blk_drew ?_ | refine blk_alloc ?_ _)); exact BK377.out⟩
                  have n5_ : Aside0 ((w44.setCell ⟨go21, ((rd t380 0) : Int).toNat, none⟩ (.int .i64 (-1))).heap[gb391]? = some (.cells #[.slice (some ⟨go21, 0, none⟩) t384.length co35, .slice (some ⟨go19, 0, none⟩) t387.length co39, .int .i64 t390] 36 (0, 0))) := ⟨by (with_reducible repeat (first | refine blk_drewN ?_ _ | refine blk_drew ?_ | refine blk_alloc ?_ _)); refine blk_far ?_ (by have h_ := Kd.R_ne HO386.out BK391.out (by decide); intro e_; exact h_ (by rw [e_]; rfl)) _; (with_reducible repeat (first | refine blk_drewN ?_ _ | refine blk_drew ?_ | refine blk_alloc ?_ _)); exact BK391.out⟩
                  have n6_ : Aside0 (Below w.heap.size w (w44.setCell ⟨go21, ((rd t380 0) : Int).toNat, none⟩ (.int .i64 (-1)))) := ⟨by repeat (first | (with_reducible first | exact HB.out | apply below_alloc | apply pw_below_drewN | apply below_drew1 | refine below_set ?_ GB21.out | refine below_set ?_ GE376.out | refine below_set ?_ GE377.out | refine below_set ?_ GE391.out) | exact HB.out)⟩
                  (try clear HO382)
                  (try clear HO386)
                  (try clear HO389)
                  (try clear BK376)
                  (try clear BK377)
                  (try clear BK391)
                  (try clear HB)
                  generalize (w44.setCell ⟨go21, ((rd t380 0) : Int).toNat, none⟩ (.int .i64 (-1))) = w46 at n0_ n1_ n2_ n3_ n4_ n5_ n6_ ⊢
                  have HO382 := n0_
                  have HO386 := n1_
                  have HO389 := n2_
                  have BK376 := n3_
                  have BK377 := n4_
                  have BK391 := n5_
                  have HB := n6_
                  clear n0_ n1_ n2_ n3_ n4_ n5_ n6_
                  obtain ⟨hcz47_0, hcz47_1, hcz47_2, hfz47_0, hfz47_1, hfz47_2⟩ := bk3 BK391.out
                  have p396 : 0 ≤ (1 : Int) := (by omega)
                  have q396 : 1 < (t380.length : Int) := od
                  obtain ⟨ad396, e396, hx396_0⟩ := Kd.at_int (Kd.R_reads' HO382.out).2.2 1 p396 q396
                  obtain rfl : ad392 = ad396 := (by injection e396)
                  (try simp only [show (1 : Int).toNat = 1 from rfl, Nat.reduceMul, Nat.reduceEqDiff, Go.Addr.add, ↓reduceIte] at hx396_0)
                  have qi396 : (1 < t380.length) = True := eq_true (by omega)
                  (try rw [show ((1 : Int)).toNat = 1 from rfl] at hx396_0)
                  have hn396_0 : ad392.block ≠ gb391 := Kd.own_blk (Kd.R_ne HO382.out BK391.out (by decide))
                  replace hx396_0 := (cell_far (p := ⟨gb391, 2, none⟩) (by first | (rw [add_block]; exact hn396_0) | (show (Addr.add _ _).block ≠ _; rw [add_block]; exact hn396_0) | exact hn396_0) (.int .i64 (-1))).trans hx396_0
                  (try clear hn396_0)
                  replace p396 := eq_true p396
                  replace q396 := eq_true q396
                  try go_wp2
                  have n0_ : Aside0 (Kd.R (Kd.int .i64) 3 ((w46.setCell ⟨gb391, 2, none⟩ (.int .i64 (-1))).setCell ⟨gb391, 2, none⟩ (.int .i64 (rd t380 1))) w.heap.size (fun k_ => some k_ ≠ (.slice (some ⟨go21, 0, none⟩) t384.length co35 : Value).ownBlock) (.slice (some ad392) t380.length co31) t380) := ⟨Kd.pR (Kd.R_mono (Kd.R_far (p := ⟨gb391, 2, none⟩) (Kd.R_far (p := ⟨gb391, 2, none⟩) (Kd.R_types HO382.out BK391.out (by decide)) (fun _ hk => hk.2) (.int .i64 (-1))) (fun _ hk => hk.2) (.int .i64 (rd t380 1))) (fun _ hk => hk.1))⟩
                  have n1_ : Aside0 (Kd.R (Kd.int .i64) 3 ((w46.setCell ⟨gb391, 2, none⟩ (.int .i64 (-1))).setCell ⟨gb391, 2, none⟩ (.int .i64 (rd t380 1))) w.heap.size (fun k_ => some k_ ≠ (.slice (some ad392) t380.length co31 : Value).ownBlock) (.slice (some ⟨go21, 0, none⟩) t384.length co35) y395) := ⟨Kd.pR (Kd.R_mono (Kd.R_far (p := ⟨gb391, 2, none⟩) (Kd.R_far (p := ⟨gb391, 2, none⟩) (Kd.R_types HO386.out BK391.out (by decide)) (fun _ hk => hk.2) (.int .i64 (-1))) (fun _ hk => hk.2) (.int .i64 (rd t380 1))) (fun _ hk => hk.1))⟩
                  have n2_ : Aside0 (Kd.R Kd.bool 4 ((w46.setCell ⟨gb391, 2, none⟩ (.int .i64 (-1))).setCell ⟨gb391, 2, none⟩ (.int .i64 (rd t380 1))) w.heap.size (fun _ => True) (.slice (some ⟨go19, 0, none⟩) t387.length co39) y393) := ⟨Kd.pR (Kd.R_mono (Kd.R_far (p := ⟨gb391, 2, none⟩) (Kd.R_far (p := ⟨gb391, 2, none⟩) (Kd.R_types HO389.out BK391.out (by decide)) (fun _ hk => hk.2) (.int .i64 (-1))) (fun _ hk => hk.2) (.int .i64 (rd t380 1))) (fun _ hk => trivial))⟩
                  have n3_ : Aside0 (((w46.setCell ⟨gb391, 2, none⟩ (.int .i64 (-1))).setCell ⟨gb391, 2, none⟩ (.int .i64 (rd t380 1))).heap[gb376]? = some (.cells #[.slice A0_0 l0_0.length c0_0, .slice A0_1 l0_1.length c0_1, .int .i64 a0_2] 36 (0, 0))) := ⟨by (with_reducible repeat (first | refine blk_drewN ?_ _ | refine blk_drew ?_ | refine blk_alloc ?_ _)); refine blk_far ?_ NB376_391.out _; (with_reducible repeat (first | refine blk_drewN ?_ _ | refine blk_drew ?_ | refine blk_alloc ?_ _)); refine blk_far ?_ NB376_391.out _; (with_reducible repeat (first | refine blk_drewN ?_ _ | refine blk_drew ?_ | refine blk_alloc ?_ _)); exact BK376.out⟩
                  have n4_ : Aside0 (((w46.setCell ⟨gb391, 2, none⟩ (.int .i64 (-1))).setCell ⟨gb391, 2, none⟩ (.int .i64 (rd t380 1))).heap[gb377]? = some (.cells #[.slice none 0 0, .slice none 0 0, .int .i64 0] 36 (0, 0))) := ⟨by (with_reducible repeat (first | refine blk_drewN ?_ _ | refine blk_drew ?_ | refine blk_alloc ?_ _)); refine blk_far ?_ NB377_391.out _; (with_reducible repeat (first | refine blk_drewN ?_ _ | refine blk_drew ?_ | refine blk_alloc ?_ _)); refine blk_far ?_ NB377_391.out _; (with_reducible repeat (first | refine blk_drewN ?_ _ | refine blk_drew ?_ | refine blk_alloc ?_ _)); exact BK377.out⟩
                  have n5_ : Aside0 (((w46.setCell ⟨gb391, 2, none⟩ (.int .i64 (-1))).setCell ⟨gb391, 2, none⟩ (.int .i64 (rd t380 1))).heap[gb391]? = some (.cells #[.slice (some ⟨go21, 0, none⟩) t384.length co35, .slice (some ⟨go19, 0, none⟩) t387.length co39, .int .i64 (rd t380 1)] 36 (0, 0))) := ⟨by (with_reducible repeat (first | refine blk_drewN ?_ _ | refine blk_drew ?_ | refine blk_alloc ?_ _)); refine blk_put (cs := #[.slice (some ⟨go21, 0, none⟩) t384.length co35, .slice (some ⟨go19, 0, none⟩) t387.length co39, .int .i64 (-1)]) ?_ 2 _ rfl; (with_reducible repeat (first | refine blk_drewN ?_ _ | refine blk_drew ?_ | refine blk_alloc ?_ _)); refine blk_put (cs := #[.slice (some ⟨go21, 0, none⟩) t384.length co35, .slice (some ⟨go19, 0, none⟩) t387.length co39, .int .i64 t390]) ?_ 2 _ rfl; (with_reducible repeat (first | refine blk_drewN ?_ _ | refine blk_drew ?_ | refine blk_alloc ?_ _)); exact BK391.out⟩
                  have n6_ : Aside0 (Below w.heap.size w ((w46.setCell ⟨gb391, 2, none⟩ (.int .i64 (-1))).setCell ⟨gb391, 2, none⟩ (.int .i64 (rd t380 1)))) := ⟨pB HB.out⟩
                  (try clear HO382)
                  (try clear HO386)
                  (try clear HO389)
                  (try clear BK376)
                  (try clear BK377)
                  (try clear BK391)
                  (try clear HB)
                  generalize ((w46.setCell ⟨gb391, 2, none⟩ (.int .i64 (-1))).setCell ⟨gb391, 2, none⟩ (.int .i64 (rd t380 1))) = w48 at n0_ n1_ n2_ n3_ n4_ n5_ n6_ ⊢
                  have HO382 := n0_
                  have HO386 := n1_
                  have HO389 := n2_
                  have BK376 := n3_
                  have BK377 := n4_
                  have BK391 := n5_
                  have HB := n6_
                  clear n0_ n1_ n2_ n3_ n4_ n5_ n6_
                  have n0_ := Aside0.mk (Kd.R_drew HO382.out)
                  have n1_ := Aside0.mk (Kd.R_drew HO386.out)
                  have n2_ := Aside0.mk (Kd.R_drew HO389.out)
                  have n3_ := Aside0.mk (blk_drew BK376.out)
                  have n4_ := Aside0.mk (blk_drew BK377.out)
                  have n5_ := Aside0.mk (blk_drew BK391.out)
                  have n6_ := Aside0.mk (below_drew1 HB.out)
                  clear HO382
                  clear HO386
                  clear HO389
                  clear BK376
                  clear BK377
                  clear BK391
                  clear HB
                  have HO382 := n0_
                  have HO386 := n1_
                  have HO389 := n2_
                  have BK376 := n3_
                  have BK377 := n4_
                  have BK391 := n5_
                  have HB := n6_
                  clear n0_ n1_ n2_ n3_ n4_ n5_ n6_
                  have p397 : 0 ≤ (0 : Int) := (by omega)
                  have q397 : 0 < (t380.length : Int) := od
                  obtain ⟨ad397, e397, hx397_0⟩ := Kd.at_int (Kd.R_reads' HO382.out).2.2 0 p397 q397
                  obtain rfl : ad392 = ad397 := (by injection e397)
                  have qi397 : (0 < t380.length) = True := eq_true (by omega)
                  (try rw [show ((0 : Int)).toNat = 0 from rfl] at hx397_0)
                  (try rw [Addr.add_zero'] at hx397_0)
                  replace p397 := eq_true p397
                  replace q397 := eq_true q397
                  refine start_ (n := 7) (S := fun w' => w'.cell? ⟨gb391, 0, none⟩ = some (.slice (some ⟨go21, 0, none⟩) t384.length co35) ∧ w'.cell? ⟨gb391, 1, none⟩ = some (.slice (some ⟨go19, 0, none⟩) t387.length co39) ∧ w'.cell? ⟨gb391, 2, none⟩ = some (.int .i64 (rd t380 1)) ∧ w'.cell? ad392 = some (.int .i64 (rd t380 0))) (ds := []) #[false, false, false, false, false, false, false] (by kernel_rfl) rfl rfl ⟨(blk_cell BK391.out 0).trans rfl, (blk_cell BK391.out 1).trans rfl, (blk_cell BK391.out 2).trans rfl, hx397_0⟩ (fun hHeld => ?_)
                  generalize w48.drew = w49 at HO382 HO386 HO389 BK376 BK377 BK391 HB hx397_0 hHeld ⊢
                  refine pure_ (i := 1) (N := some 46) (v := ?_) (a' := ?_) #[false, true, false, false, false, false, false] rfl rfl (by kernel_rfl) (fun _ _ _ h => h) (Or.inl ⟨by rfl, ?_⟩) ?_ ?_
                  rotate_left
                  · intro w'
                    go_simp
                    with_reducible rfl
                  rotate_left
                  · simp only [Act.put, List.setIfInBounds_toArray, List.set_cons_zero, List.set_cons_succ, i64_w, i32_w]
                    rfl
                  refine pure_ (i := 2) (N := some 47) (v := ?_) (a' := ?_) #[false, true, true, false, false, false, false] rfl rfl (by kernel_rfl) (fun _ _ _ h => h) (Or.inl ⟨by rfl, ?_⟩) ?_ ?_
                  rotate_left
                  · intro w'
                    go_simp
                    with_reducible rfl
                  rotate_left
                  · simp only [Act.put, List.setIfInBounds_toArray, List.set_cons_zero, List.set_cons_succ, i64_w, i32_w]
                    rfl
                  refine take_ (i := 0) (N := some 45) (v := ?_) (a' := ?_) #[true, true, true, false, false, false, false] rfl rfl (by kernel_rfl) (fun _ _ _ h => h) (Or.inl ⟨by rfl, ?_⟩) hHeld ?_ ?_
                  rotate_left
                  · rintro w' ⟨s0, s1, s2, s3⟩
                    go_simp
                    with_reducible rfl
                  rotate_left
                  · simp only [Act.put, List.setIfInBounds_toArray, List.set_cons_zero, List.set_cons_succ, i64_w, i32_w]
                    rfl
                  refine take_ (i := 3) (N := some 48) (v := ?_) (a' := ?_) #[true, true, true, true, false, false, false] rfl rfl (by kernel_rfl) (fun _ _ _ h => h) (Or.inl ⟨by rfl, ?_⟩) hHeld ?_ ?_
                  rotate_left
                  · rintro w' ⟨s0, s1, s2, s3⟩
                    go_simp
                    with_reducible rfl
                  rotate_left
                  · simp only [Act.put, List.setIfInBounds_toArray, List.set_cons_zero, List.set_cons_succ, i64_w, i32_w]
                    rfl
                  refine one_ (i := 4) (N := none) #[true, true, true, true, true, false, false] rfl rfl (by kernel_rfl) (by decide) (fun K hK => ?_)
                  have hs50 : w49.cell? ⟨gb377, 0, none⟩ = some (.slice none 0 0) := (blk_cell BK377.out 0).trans rfl
                  have hfs50 := blk_frozen BK377.out 0
                  have hns50_0 := NB376_377.out
                  have hns50_2 := NB391_377.out
                  have hms50_0 := NB377_376.out
                  have hms50_2 := NB377_391.out
                  have hs51 : w49.cell? ⟨gb377, 1, none⟩ = some (.slice none 0 0) := (blk_cell BK377.out 1).trans rfl
                  have hfs51 := blk_frozen BK377.out 1
                  have hns51_0 := NB376_377.out
                  have hns51_2 := NB391_377.out
                  have hms51_0 := NB377_376.out
                  have hms51_2 := NB377_391.out
                  have hs52 : w49.cell? ⟨gb377, 2, none⟩ = some (.int .i64 0) := (blk_cell BK377.out 2).trans rfl
                  have hfs52 := blk_frozen BK377.out 2
                  have hns52_0 := NB376_377.out
                  have hns52_2 := NB391_377.out
                  have hms52_0 := NB377_376.out
                  have hms52_2 := NB377_391.out
                  refine skip_ (w1 := ?_) (by rfl) rfl ?_ ?_
                  rotate_left
                  · go_simp
                    rfl
                  refine hK.out _ _ ⟨((cell_far (p := ⟨gb377, _, none⟩) NB391_377.out _).trans (((cell_far (p := ⟨gb377, _, none⟩) NB391_377.out _).trans (((cell_far (p := ⟨gb377, _, none⟩) NB391_377.out _).trans (hHeld.1)))))), ((cell_far (p := ⟨gb377, _, none⟩) NB391_377.out _).trans (((cell_far (p := ⟨gb377, _, none⟩) NB391_377.out _).trans (((cell_far (p := ⟨gb377, _, none⟩) NB391_377.out _).trans (hHeld.2.1)))))), ((cell_far (p := ⟨gb377, _, none⟩) NB391_377.out _).trans (((cell_far (p := ⟨gb377, _, none⟩) NB391_377.out _).trans (((cell_far (p := ⟨gb377, _, none⟩) NB391_377.out _).trans (hHeld.2.2.1)))))), ((cell_far (p := ⟨gb377, _, none⟩) (by first | exact Kd.own_blk (Kd.R_ne HO382.out BK377.out (by decide)) | (rw [add_block]; exact Kd.own_blk (Kd.R_ne HO382.out BK377.out (by decide))) | (show (Addr.add _ _).block ≠ _; rw [add_block]; exact Kd.own_blk (Kd.R_ne HO382.out BK377.out (by decide))) | (dsimp only; exact Kd.own_blk (Kd.R_ne HO382.out BK377.out (by decide)))) _).trans (((cell_far (p := ⟨gb377, _, none⟩) (by first | exact Kd.own_blk (Kd.R_ne HO382.out BK377.out (by decide)) | (rw [add_block]; exact Kd.own_blk (Kd.R_ne HO382.out BK377.out (by decide))) | (show (Addr.add _ _).block ≠ _; rw [add_block]; exact Kd.own_blk (Kd.R_ne HO382.out BK377.out (by decide))) | (dsimp only; exact Kd.own_blk (Kd.R_ne HO382.out BK377.out (by decide)))) _).trans (((cell_far (p := ⟨gb377, _, none⟩) (by first | exact Kd.own_blk (Kd.R_ne HO382.out BK377.out (by decide)) | (rw [add_block]; exact Kd.own_blk (Kd.R_ne HO382.out BK377.out (by decide))) | (show (Addr.add _ _).block ≠ _; rw [add_block]; exact Kd.own_blk (Kd.R_ne HO382.out BK377.out (by decide))) | (dsimp only; exact Kd.own_blk (Kd.R_ne HO382.out BK377.out (by decide)))) _).trans (hHeld.2.2.2))))))⟩ (fun hHeld => ?_)
                  clear hK K
                  refine pure_ (i := 5) (N := some 3) (v := ?_) (a' := ?_) #[true, true, true, true, true, true, false] rfl rfl (by kernel_rfl) (fun _ _ _ h => h) (Or.inl ⟨by rfl, ?_⟩) ?_ ?_
                  rotate_left
                  · intro w'
                    go_simp
                    with_reducible rfl
                  rotate_left
                  · simp only [Act.put, List.setIfInBounds_toArray, List.set_cons_zero, List.set_cons_succ, i64_w, i32_w]
                    rfl
                  refine pure_ (i := 6) (N := some 4) (v := ?_) (a' := ?_) #[true, true, true, true, true, true, true] rfl rfl (by kernel_rfl) (fun _ _ _ h => h) (Or.inl ⟨by rfl, ?_⟩) ?_ ?_
                  rotate_left
                  · intro w'
                    go_simp
                    with_reducible rfl
                  rotate_left
                  · simp only [Act.put, List.setIfInBounds_toArray, List.set_cons_zero, List.set_cons_succ, i64_w, i32_w]
                    rfl
                  refine done_ (by kernel_rfl) ?_
                  try go_wp2
                  refine bodyPost_ret (results_ctt rfl _ _ gb377 36 #[.slice (some ⟨go21, 0, none⟩) t384.length co35, .slice (some ⟨go19, 0, none⟩) t387.length co39, .int .i64 (rd t380 1)] (0, 0) _ rfl (by (with_reducible repeat (first | refine blk_drewN ?_ _ | refine blk_drew ?_ | refine blk_alloc ?_ _)); refine blk_put (cs := #[.slice (some ⟨go21, 0, none⟩) t384.length co35, .slice (some ⟨go19, 0, none⟩) t387.length co39, .int .i64 0]) ?_ 2 _ rfl; (with_reducible repeat (first | refine blk_drewN ?_ _ | refine blk_drew ?_ | refine blk_alloc ?_ _)); refine blk_put (cs := #[.slice (some ⟨go21, 0, none⟩) t384.length co35, .slice none 0 0, .int .i64 0]) ?_ 1 _ rfl; (with_reducible repeat (first | refine blk_drewN ?_ _ | refine blk_drew ?_ | refine blk_alloc ?_ _)); refine blk_put (cs := #[.slice none 0 0, .slice none 0 0, .int .i64 0]) ?_ 0 _ rfl; (with_reducible repeat (first | refine blk_drewN ?_ _ | refine blk_drew ?_ | refine blk_alloc ?_ _)); exact BK377.out) Try.underlying36 rfl (by kernel_rfl)) rfl ?_
                  exact ⟨_, _, by first | rfl | (simp [errW_none, errW_some] <;> rfl) | (simp [*, errW_none, errW_some] <;> rfl), Kd.pR (Kd.R_mono (Kd.R_far (p := ⟨gb377, 2, none⟩) (Kd.R_far (p := ⟨gb377, 1, none⟩) (Kd.R_far (p := ⟨gb377, 0, none⟩) (Kd.R_types HO386.out BK377.out (by decide)) (fun _ hk => hk.2) (.slice (some ⟨go21, 0, none⟩) t384.length co35)) (fun _ hk => hk.2) (.slice (some ⟨go19, 0, none⟩) t387.length co39)) (fun _ hk => hk.2) (.int .i64 (rd t380 1))) (fun _ hk => trivial)), Kd.pR (Kd.R_mono (Kd.R_far (p := ⟨gb377, 2, none⟩) (Kd.R_far (p := ⟨gb377, 1, none⟩) (Kd.R_far (p := ⟨gb377, 0, none⟩) (Kd.R_types HO389.out BK377.out (by decide)) (fun _ hk => hk.2) (.slice (some ⟨go21, 0, none⟩) t384.length co35)) (fun _ hk => hk.2) (.slice (some ⟨go19, 0, none⟩) t387.length co39)) (fun _ hk => hk.2) (.int .i64 (rd t380 1))) (fun _ hk => trivial)), pB HB.out⟩
                · rw [if_neg c23] at H
                  exact absurd H (by simp)
              · rw [if_neg c22] at H
                have c22b0 : decide (1 < (t380.length : Int)) = false := decide_eq_false c22
                have c22b1 : decide (1 < t380.length) = false := decide_eq_false (by omega)
                (try clear c22)
                simp only [Option.some.injEq, Prod.mk.injEq] at H
                obtain ⟨rfl, rfl, rfl, rfl, rfl⟩ := H
                go_enter Try.func31, Try.ntmps31
                try go_wp2_with (first | ((with_reducible refine gate_dst (N := 1) rfl ?_); refine boxE (N := 1) (cs := #[.slice A0_0 l0_0.length c0_0, .slice A0_1 l0_1.length c0_1, .int .i64 a0_2]) (t := 36) ?_; intro gb376 hg w53 hbox hb; have n0_ := Aside0.mk (below_step (pB HB.out) hb); have n1_ := Aside0.mk (hbox); have n3_ := Aside0.mk (pL HB.out hg); clear HB; have HB := n0_; have BK376 := n1_; have GE376 := n3_; clear n0_ n1_ n3_; clear hb hbox hg) | ((with_reducible refine gate_dst (N := 2) rfl ?_); refine boxE (N := 2) (cs := #[.slice none 0 0, .slice none 0 0, .int .i64 0]) (t := 36) ?_; intro gb377 hg w54 hbox hb; have n0_ := Aside0.mk (blk_below (pK BK376.out) hb); have n1_ := Aside0.mk (below_step (pB HB.out) hb); have n2_ := Aside0.mk (hbox); have n4_ := Aside0.mk (pL HB.out hg); have n5_ := Aside0.mk (pNl BK376.out hg); have n6_ := Aside0.mk (pNg BK376.out hg); clear BK376; clear HB; have BK376 := n0_; have HB := n1_; have BK377 := n2_; have GE377 := n4_; have NB376_377 := n5_; have NB377_376 := n6_; clear n0_ n1_ n2_ n4_ n5_ n6_; clear hb hbox hg; have hnb55 := NB376_377.out; have hnc55 := NB377_376.out; obtain ⟨hcz56_0, hcz56_1, hcz56_2, hfz56_0, hfz56_1, hfz56_2⟩ := bk3 BK376.out) | ((with_reducible refine gate_callee (f := 24) rfl ?_); refine goesE (some 9) rfl rfl Try.func24 (by kernel_rfl) rfl #[.agg #[.slice A0_0 l0_0.length c0_0, .slice A0_1 l0_1.length c0_1, .int .i64 a0_2]] rfl ?_; (with_reducible refine (spigotref13_Check.calls k _ _ l0_0 _ _ l0_1 a0_2 t378 _ ?side1 ?side2 ?side3 ?side4 A2.out).mono ?_); (case side1 => exact Kd.pC ((Kd.C_below HR0_0.out HB.out))); (case side2 => exact HC0_0.out); (case side3 => exact Kd.pC ((Kd.C_below HR0_1.out HB.out))); (case side4 => exact HC0_1.out); rintro e w57 ⟨rfl, hb⟩; refine ⟨_, rfl, ?_⟩; have n0_ := Aside0.mk (blk_below (pK BK376.out) hb); have n1_ := Aside0.mk (blk_below (pK BK377.out) hb); have n2_ := Aside0.mk (below_step (pB HB.out) hb); clear BK376; clear BK377; clear HB; have BK376 := n0_; have BK377 := n1_; have HB := n2_; clear n0_ n1_ n2_; (try clear hb); (try clear hb2); (try clear hk); (try clear hi); obtain ⟨hcz58_0, hcz58_1, hcz58_2, hfz58_0, hfz58_1, hfz58_2⟩ := bk3 BK376.out) | ((with_reducible refine gate_callee (f := 47) rfl ?_); refine goesE (some 16) rfl rfl Try.func47 (by kernel_rfl) rfl #[.agg #[.slice A0_0 l0_0.length c0_0, .slice A0_1 l0_1.length c0_1, .int .i64 a0_2]] rfl ?_; (with_reducible refine (spigotref13_Free.calls k _ _ l0_0 _ _ l0_1 a0_2 t380 t383 _ ?side1 ?side2 ?side3 ?side4 A4.out).mono ?_); (case side1 => exact Kd.pC ((Kd.C_below HR0_0.out HB.out))); (case side2 => exact HC0_0.out); (case side3 => exact Kd.pC ((Kd.C_below HR0_1.out HB.out))); (case side4 => exact HC0_1.out); rintro e w59 ⟨v381, rfl, ho0, hb⟩; refine ⟨_, rfl, ?_⟩; have n0_ := Aside0.mk (Kd.R_lower ho0 (below_size (pB HB.out))); have n1_ := Aside0.mk (blk_below (pK BK376.out) hb); have n2_ := Aside0.mk (blk_below (pK BK377.out) hb); have n3_ := Aside0.mk (below_step (pB HB.out) hb); clear BK376; clear BK377; clear HB; have HO382 := n0_; have BK376 := n1_; have BK377 := n2_; have HB := n3_; clear n0_ n1_ n2_ n3_; (try clear hb); (try clear hb2); (try clear hk); (try clear hi); (try clear ho0); obtain ⟨Ao60, co60, eo60⟩ := Kd.R_slice HO382.out; subst eo60; obtain ⟨hcz61_0, hcz61_1, hcz61_2, hfz61_0, hfz61_1, hfz61_2⟩ := bk3 BK376.out) | ((with_reducible refine gate_callee (f := 29) rfl ?_); refine goesE (some 24) rfl rfl Try.func29 (by kernel_rfl) rfl #[.agg #[.slice A0_0 l0_0.length c0_0, .slice A0_1 l0_1.length c0_1, .int .i64 a0_2]] rfl ?_; (with_reducible refine (spigotref13_Twin.calls _ _ l0_0 _ _ l0_1 a0_2 t384 t387 t390 _ ?side1 ?side2 ?side3 ?side4 A15.out).mono ?_); (case side1 => exact Kd.pC ((Kd.C_below HR0_0.out HB.out))); (case side2 => exact HC0_0.out); (case side3 => exact Kd.pC ((Kd.C_below HR0_1.out HB.out))); (case side4 => exact HC0_1.out); rintro e w62 ⟨v385, v388, rfl, ho0, ho1, hb⟩; refine ⟨_, rfl, ?_⟩; have n0_ := Aside0.mk (Kd.R_elder' (Kd.pR HO382.out) (Kd.R_base ho0) hb); have n1_ := Aside0.mk (Kd.R_lower (Kd.R_new' ho0 (Kd.R_lt (Kd.pR HO382.out))) (below_size (pB HB.out))); have n2_ := Aside0.mk (Kd.R_lower ho1 (below_size (pB HB.out))); have n3_ := Aside0.mk (blk_below (pK BK376.out) hb); have n4_ := Aside0.mk (blk_below (pK BK377.out) hb); have n5_ := Aside0.mk (below_step (pB HB.out) hb); clear HO382; clear BK376; clear BK377; clear HB; have HO382 := n0_; have HO386 := n1_; have HO389 := n2_; have BK376 := n3_; have BK377 := n4_; have HB := n5_; clear n0_ n1_ n2_ n3_ n4_ n5_; (try clear hb); (try clear hb2); (try clear hk); (try clear hi); (try clear ho0); (try clear ho1)) | ((with_reducible refine gate_dst (N := 7) rfl ?_); refine boxE (N := 7) (cs := #[.slice none 0 0, .slice none 0 0, .int .i64 0]) (t := 36) ?_; intro gb391 hg w63 hbox hb; have n0_ := Aside0.mk (Kd.R_below (Kd.pR HO382.out) hb); have n1_ := Aside0.mk (Kd.R_below (Kd.pR HO386.out) hb); have n2_ := Aside0.mk (Kd.R_below (Kd.pR HO389.out) hb); have n3_ := Aside0.mk (blk_below (pK BK376.out) hb); have n4_ := Aside0.mk (blk_below (pK BK377.out) hb); have n5_ := Aside0.mk (below_step (pB HB.out) hb); have n6_ := Aside0.mk (hbox); have n8_ := Aside0.mk (pL HB.out hg); have n9_ := Aside0.mk (pNl BK376.out hg); have n10_ := Aside0.mk (pNg BK376.out hg); have n11_ := Aside0.mk (pNl BK377.out hg); have n12_ := Aside0.mk (pNg BK377.out hg); clear HO382; clear HO386; clear HO389; clear BK376; clear BK377; clear HB; have HO382 := n0_; have HO386 := n1_; have HO389 := n2_; have BK376 := n3_; have BK377 := n4_; have HB := n5_; have BK391 := n6_; have GE391 := n8_; have NB376_391 := n9_; have NB391_376 := n10_; have NB377_391 := n11_; have NB391_377 := n12_; clear n0_ n1_ n2_ n3_ n4_ n5_ n6_ n8_ n9_ n10_ n11_ n12_; clear hb hbox hg; obtain ⟨Ao64, co64, eo64⟩ := Kd.R_slice HO386.out; subst eo64; have hnb65 := NB391_376.out; have hnc65 := NB376_391.out; have hnb66 := NB391_377.out; have hnc66 := NB377_391.out; obtain ⟨hcz67_0, hcz67_1, hcz67_2, hfz67_0, hfz67_1, hfz67_2⟩ := bk3 BK391.out; obtain ⟨Ao68, co68, eo68⟩ := Kd.R_slice HO389.out; subst eo68))
                have n0_ : Aside0 (Kd.R (Kd.int .i64) 3 (((w63.setCell ⟨gb391, 0, none⟩ (.slice Ao64 t384.length co64)).setCell ⟨gb391, 1, none⟩ (.slice Ao68 t387.length co68)).setCell ⟨gb391, 2, none⟩ (.int .i64 t390)) w.heap.size (fun k_ => some k_ ≠ (.slice Ao64 t384.length co64 : Value).ownBlock) (.slice Ao60 t380.length co60) t380) := ⟨Kd.pR (Kd.R_mono (Kd.R_far (p := ⟨gb391, 2, none⟩) (Kd.R_far (p := ⟨gb391, 1, none⟩) (Kd.R_far (p := ⟨gb391, 0, none⟩) (Kd.R_types HO382.out BK391.out (by decide)) (fun _ hk => hk.2) (.slice Ao64 t384.length co64)) (fun _ hk => hk.2) (.slice Ao68 t387.length co68)) (fun _ hk => hk.2) (.int .i64 t390)) (fun _ hk => hk.1.2))⟩
                have n1_ : Aside0 (Kd.R (Kd.int .i64) 3 (((w63.setCell ⟨gb391, 0, none⟩ (.slice Ao64 t384.length co64)).setCell ⟨gb391, 1, none⟩ (.slice Ao68 t387.length co68)).setCell ⟨gb391, 2, none⟩ (.int .i64 t390)) w.heap.size (fun k_ => some k_ ≠ (.slice Ao60 t380.length co60 : Value).ownBlock) (.slice Ao64 t384.length co64) t384) := ⟨Kd.pR (Kd.R_mono (Kd.R_far (p := ⟨gb391, 2, none⟩) (Kd.R_far (p := ⟨gb391, 1, none⟩) (Kd.R_far (p := ⟨gb391, 0, none⟩) (Kd.R_types HO386.out BK391.out (by decide)) (fun _ hk => hk.2) (.slice Ao64 t384.length co64)) (fun _ hk => hk.2) (.slice Ao68 t387.length co68)) (fun _ hk => hk.2) (.int .i64 t390)) (fun _ hk => hk.1.2))⟩
                have n2_ : Aside0 (Kd.R Kd.bool 4 (((w63.setCell ⟨gb391, 0, none⟩ (.slice Ao64 t384.length co64)).setCell ⟨gb391, 1, none⟩ (.slice Ao68 t387.length co68)).setCell ⟨gb391, 2, none⟩ (.int .i64 t390)) w.heap.size (fun _ => True) (.slice Ao68 t387.length co68) t387) := ⟨Kd.pR (Kd.R_mono (Kd.R_far (p := ⟨gb391, 2, none⟩) (Kd.R_far (p := ⟨gb391, 1, none⟩) (Kd.R_far (p := ⟨gb391, 0, none⟩) (Kd.R_types HO389.out BK391.out (by decide)) (fun _ hk => hk.2) (.slice Ao64 t384.length co64)) (fun _ hk => hk.2) (.slice Ao68 t387.length co68)) (fun _ hk => hk.2) (.int .i64 t390)) (fun _ hk => trivial))⟩
                have n3_ : Aside0 ((((w63.setCell ⟨gb391, 0, none⟩ (.slice Ao64 t384.length co64)).setCell ⟨gb391, 1, none⟩ (.slice Ao68 t387.length co68)).setCell ⟨gb391, 2, none⟩ (.int .i64 t390)).heap[gb376]? = some (.cells #[.slice A0_0 l0_0.length c0_0, .slice A0_1 l0_1.length c0_1, .int .i64 a0_2] 36 (0, 0))) := ⟨by (with_reducible repeat (first | refine blk_drewN ?_ _ | refine blk_drew ?_ | refine blk_alloc ?_ _)); refine blk_far ?_ NB376_391.out _; (with_reducible repeat (first | refine blk_drewN ?_ _ | refine blk_drew ?_ | refine blk_alloc ?_ _)); refine blk_far ?_ NB376_391.out _; (with_reducible repeat (first | refine blk_drewN ?_ _ | refine blk_drew ?_ | refine blk_alloc ?_ _)); refine blk_far ?_ NB376_391.out _; (with_reducible repeat (first | refine blk_drewN ?_ _ | refine blk_drew ?_ | refine blk_alloc ?_ _)); exact BK376.out⟩
                have n4_ : Aside0 ((((w63.setCell ⟨gb391, 0, none⟩ (.slice Ao64 t384.length co64)).setCell ⟨gb391, 1, none⟩ (.slice Ao68 t387.length co68)).setCell ⟨gb391, 2, none⟩ (.int .i64 t390)).heap[gb377]? = some (.cells #[.slice none 0 0, .slice none 0 0, .int .i64 0] 36 (0, 0))) := ⟨by (with_reducible repeat (first | refine blk_drewN ?_ _ | refine blk_drew ?_ | refine blk_alloc ?_ _)); refine blk_far ?_ NB377_391.out _; (with_reducible repeat (first | refine blk_drewN ?_ _ | refine blk_drew ?_ | refine blk_alloc ?_ _)); refine blk_far ?_ NB377_391.out _; (with_reducible repeat (first | refine blk_drewN ?_ _ | refine blk_drew ?_ | refine blk_alloc ?_ _)); refine blk_far ?_ NB377_391.out _; (with_reducible repeat (first | refine blk_drewN ?_ _ | refine blk_drew ?_ | refine blk_alloc ?_ _)); exact BK377.out⟩
                have n5_ : Aside0 ((((w63.setCell ⟨gb391, 0, none⟩ (.slice Ao64 t384.length co64)).setCell ⟨gb391, 1, none⟩ (.slice Ao68 t387.length co68)).setCell ⟨gb391, 2, none⟩ (.int .i64 t390)).heap[gb391]? = some (.cells #[.slice Ao64 t384.length co64, .slice Ao68 t387.length co68, .int .i64 t390] 36 (0, 0))) := ⟨by (with_reducible repeat (first | refine blk_drewN ?_ _ | refine blk_drew ?_ | refine blk_alloc ?_ _)); refine blk_put (cs := #[.slice Ao64 t384.length co64, .slice Ao68 t387.length co68, .int .i64 0]) ?_ 2 _ rfl; (with_reducible repeat (first | refine blk_drewN ?_ _ | refine blk_drew ?_ | refine blk_alloc ?_ _)); refine blk_put (cs := #[.slice Ao64 t384.length co64, .slice none 0 0, .int .i64 0]) ?_ 1 _ rfl; (with_reducible repeat (first | refine blk_drewN ?_ _ | refine blk_drew ?_ | refine blk_alloc ?_ _)); refine blk_put (cs := #[.slice none 0 0, .slice none 0 0, .int .i64 0]) ?_ 0 _ rfl; (with_reducible repeat (first | refine blk_drewN ?_ _ | refine blk_drew ?_ | refine blk_alloc ?_ _)); exact BK391.out⟩
                have n6_ : Aside0 (Below w.heap.size w (((w63.setCell ⟨gb391, 0, none⟩ (.slice Ao64 t384.length co64)).setCell ⟨gb391, 1, none⟩ (.slice Ao68 t387.length co68)).setCell ⟨gb391, 2, none⟩ (.int .i64 t390))) := ⟨pB HB.out⟩
                (try clear HO382)
                (try clear HO386)
                (try clear HO389)
                (try clear BK376)
                (try clear BK377)
                (try clear BK391)
                (try clear HB)
                generalize (((w63.setCell ⟨gb391, 0, none⟩ (.slice Ao64 t384.length co64)).setCell ⟨gb391, 1, none⟩ (.slice Ao68 t387.length co68)).setCell ⟨gb391, 2, none⟩ (.int .i64 t390)) = w69 at n0_ n1_ n2_ n3_ n4_ n5_ n6_ ⊢
                have HO382 := n0_
                have HO386 := n1_
                have HO389 := n2_
                have BK376 := n3_
                have BK377 := n4_
                have BK391 := n5_
                have HB := n6_
                clear n0_ n1_ n2_ n3_ n4_ n5_ n6_
                have n0_ := Aside0.mk (Kd.R_drew HO382.out)
                have n1_ := Aside0.mk (Kd.R_drew HO386.out)
                have n2_ := Aside0.mk (Kd.R_drew HO389.out)
                have n3_ := Aside0.mk (blk_drew BK376.out)
                have n4_ := Aside0.mk (blk_drew BK377.out)
                have n5_ := Aside0.mk (blk_drew BK391.out)
                have n6_ := Aside0.mk (below_drew1 HB.out)
                clear HO382
                clear HO386
                clear HO389
                clear BK376
                clear BK377
                clear BK391
                clear HB
                have HO382 := n0_
                have HO386 := n1_
                have HO389 := n2_
                have BK376 := n3_
                have BK377 := n4_
                have BK391 := n5_
                have HB := n6_
                clear n0_ n1_ n2_ n3_ n4_ n5_ n6_
                have p392 : 0 ≤ (0 : Int) := (by omega)
                have q392 : 0 < (t380.length : Int) := od
                obtain ⟨ad392, e392, hx392_0⟩ := Kd.at_int (Kd.R_reads' HO382.out).2.2 0 p392 q392
                cases e392
                have qi392 : (0 < t380.length) = True := eq_true (by omega)
                (try rw [show ((0 : Int)).toNat = 0 from rfl] at hx392_0)
                (try rw [Addr.add_zero'] at hx392_0)
                replace p392 := eq_true p392
                replace q392 := eq_true q392
                have p19 : 0 ≤ ((rd t380 0) : Int) := od
                have q19 : ((rd t380 0) : Int) < ((t387.length : Int) : Int) := od
                obtain ⟨go19, co19, eo19, gb19, gl19, cl19, HG19⟩ := Kd.R_form HO389.out (by omega)
                (first | cases eo19 | (injection eo19 with ea_ en_ ec_; (first | subst ea_ | (injection ea_ with ea_; subst ea_)); subst ec_; clear en_))
                have GB19 := Aside0.mk gb19
                have GG19 := Aside0.mk HG19
                clear gb19 gl19 HG19
                obtain ⟨hx19_0, hf19_0⟩ := Kd.R_celln false HO389.out ((rd t380 0) : Int) p19 q19
                replace p19 := eq_true p19
                replace q19 := eq_true q19
                have HP71 := Kd.R_putn HO389.out ((rd t380 0) : Int) true
                rw [← Ny393.out] at HP71
                have HQ71 := Aside0.mk HP71
                (try clear HP71)
                refine start_ (n := 7) (S := fun w' => w'.cell? ⟨gb391, 0, none⟩ = some (.slice Ao64 t384.length co64) ∧ w'.cell? ⟨gb391, 1, none⟩ = some (.slice (some ⟨go19, 0, none⟩) t387.length co68) ∧ w'.cell? ⟨gb391, 2, none⟩ = some (.int .i64 t390) ∧ w'.cell? ad392 = some (.int .i64 (rd t380 0))) (ds := [6]) #[false, false, false, false, false, false, false] (by kernel_rfl) rfl rfl ⟨(blk_cell BK391.out 0).trans rfl, (blk_cell BK391.out 1).trans rfl, (blk_cell BK391.out 2).trans rfl, hx392_0⟩ (fun hHeld => ?_)
                generalize w69.drew = w70 at HO382 HO386 HO389 BK376 BK377 BK391 HB GG19 HQ71 hf19_0 hx19_0 hx392_0 hHeld ⊢
                refine pure_ (i := 0) (N := some 25) (v := ?_) (a' := ?_) #[true, false, false, false, false, false, false] rfl rfl (by kernel_rfl) (fun _ _ _ h => h) (Or.inl ⟨by rfl, ?_⟩) ?_ ?_
                rotate_left
                · intro w'
                  go_simp
                  with_reducible rfl
                rotate_left
                · simp only [Act.put, List.setIfInBounds_toArray, List.set_cons_zero, List.set_cons_succ, i64_w, i32_w]
                  rfl
                refine pure_ (i := 2) (N := some 27) (v := ?_) (a' := ?_) #[true, false, true, false, false, false, false] rfl rfl (by kernel_rfl) (fun _ _ _ h => h) (Or.inl ⟨by rfl, ?_⟩) ?_ ?_
                rotate_left
                · intro w'
                  go_simp
                  with_reducible rfl
                rotate_left
                · simp only [Act.put, List.setIfInBounds_toArray, List.set_cons_zero, List.set_cons_succ, i64_w, i32_w]
                  rfl
                refine pure_ (i := 3) (N := some 28) (v := ?_) (a' := ?_) #[true, false, true, true, false, false, false] rfl rfl (by kernel_rfl) (fun _ _ _ h => h) (Or.inl ⟨by rfl, ?_⟩) ?_ ?_
                rotate_left
                · intro w'
                  go_simp
                  with_reducible rfl
                rotate_left
                · simp only [Act.put, List.setIfInBounds_toArray, List.set_cons_zero, List.set_cons_succ, i64_w, i32_w]
                  rfl
                refine take_ (i := 1) (N := some 26) (v := ?_) (a' := ?_) #[true, true, true, true, false, false, false] rfl rfl (by kernel_rfl) (fun _ _ _ h => h) (Or.inl ⟨by rfl, ?_⟩) hHeld ?_ ?_
                rotate_left
                · rintro w' ⟨s0, s1, s2, s3⟩
                  go_simp
                  with_reducible rfl
                rotate_left
                · simp only [Act.put, List.setIfInBounds_toArray, List.set_cons_zero, List.set_cons_succ, i64_w, i32_w]
                  rfl
                refine take_ (i := 4) (N := some 29) (v := ?_) (a' := ?_) #[true, true, true, true, true, false, false] rfl rfl (by kernel_rfl) (fun _ _ _ h => h) (Or.inl ⟨by rfl, ?_⟩) hHeld ?_ ?_
                rotate_left
                · rintro w' ⟨s0, s1, s2, s3⟩
                  go_simp
                  with_reducible rfl
                rotate_left
                · simp only [Act.put, List.setIfInBounds_toArray, List.set_cons_zero, List.set_cons_succ, i64_w, i32_w]
                  rfl
                refine pure_ (i := 5) (N := some 30) (v := ?_) (a' := ?_) #[true, true, true, true, true, true, false] rfl rfl (by kernel_rfl) (fun _ _ _ h => h) (Or.inl ⟨by rfl, ?_⟩) ?_ ?_
                rotate_left
                · intro w'
                  go_simp
                  with_reducible rfl
                rotate_left
                · simp only [Act.put, List.setIfInBounds_toArray, List.set_cons_zero, List.set_cons_succ, i64_w, i32_w]
                  rfl
                refine last_ (i := 6) (N := none) #[true, true, true, true, true, true, true] rfl rfl (by kernel_rfl) (by decide) (fun K hK => ?_)
                refine skip_ (w1 := ?_) (by rfl) rfl ?_ ?_
                rotate_left
                · go_simp
                  rfl
                refine hK.out _ _ ?_
                clear hK K
                refine done_ (by kernel_rfl) ?_
                have n0_ : Aside0 (Kd.R (Kd.int .i64) 3 (w70.setCell ⟨go19, ((rd t380 0) : Int).toNat, none⟩ (.bool true)) w.heap.size (fun k_ => some k_ ≠ (.slice Ao64 t384.length co64 : Value).ownBlock) (.slice (some ad392) t380.length co60) t380) := ⟨Kd.pR (Kd.R_mono (Kd.R_far (p := ⟨go19, ((rd t380 0) : Int).toNat, none⟩) (Kd.R_types HO382.out GG19.out (by decide)) (fun _ hk => hk.2) (.bool true)) (fun _ hk => hk.1))⟩
                have n1_ : Aside0 (Kd.R (Kd.int .i64) 3 (w70.setCell ⟨go19, ((rd t380 0) : Int).toNat, none⟩ (.bool true)) w.heap.size (fun k_ => some k_ ≠ (.slice (some ad392) t380.length co60 : Value).ownBlock) (.slice Ao64 t384.length co64) t384) := ⟨Kd.pR (Kd.R_mono (Kd.R_far (p := ⟨go19, ((rd t380 0) : Int).toNat, none⟩) (Kd.R_types HO386.out GG19.out (by decide)) (fun _ hk => hk.2) (.bool true)) (fun _ hk => hk.1))⟩
                have n2_ : Aside0 (Kd.R Kd.bool 4 (w70.setCell ⟨go19, ((rd t380 0) : Int).toNat, none⟩ (.bool true)) w.heap.size (fun _ => True) (.slice (some ⟨go19, 0, none⟩) t387.length co68) y393) := ⟨Kd.pR HQ71.out⟩
                have n3_ : Aside0 ((w70.setCell ⟨go19, ((rd t380 0) : Int).toNat, none⟩ (.bool true)).heap[gb376]? = some (.cells #[.slice A0_0 l0_0.length c0_0, .slice A0_1 l0_1.length c0_1, .int .i64 a0_2] 36 (0, 0))) := ⟨by (with_reducible repeat (first | refine blk_drewN ?_ _ | refine blk_drew ?_ | refine blk_alloc ?_ _)); refine blk_far ?_ (by have h_ := Kd.R_ne HO389.out BK376.out (by decide); intro e_; exact h_ (by rw [e_]; rfl)) _; (with_reducible repeat (first | refine blk_drewN ?_ _ | refine blk_drew ?_ | refine blk_alloc ?_ _)); exact BK376.out⟩
                have n4_ : Aside0 ((w70.setCell ⟨go19, ((rd t380 0) : Int).toNat, none⟩ (.bool true)).heap[gb377]? = some (.cells #[.slice none 0 0, .slice none 0 0, .int .i64 0] 36 (0, 0))) := ⟨by (with_reducible repeat (first | refine blk_drewN ?_ _ | refine blk_drew ?_ | refine blk_alloc ?_ _)); refine blk_far ?_ (by have h_ := Kd.R_ne HO389.out BK377.out (by decide); intro e_; exact h_ (by rw [e_]; rfl)) _; (with_reducible repeat (first | refine blk_drewN ?_ _ | refine blk_drew ?_ | refine blk_alloc ?_ _)); exact BK377.out⟩
                have n5_ : Aside0 ((w70.setCell ⟨go19, ((rd t380 0) : Int).toNat, none⟩ (.bool true)).heap[gb391]? = some (.cells #[.slice Ao64 t384.length co64, .slice (some ⟨go19, 0, none⟩) t387.length co68, .int .i64 t390] 36 (0, 0))) := ⟨by (with_reducible repeat (first | refine blk_drewN ?_ _ | refine blk_drew ?_ | refine blk_alloc ?_ _)); refine blk_far ?_ (by have h_ := Kd.R_ne HO389.out BK391.out (by decide); intro e_; exact h_ (by rw [e_]; rfl)) _; (with_reducible repeat (first | refine blk_drewN ?_ _ | refine blk_drew ?_ | refine blk_alloc ?_ _)); exact BK391.out⟩
                have n6_ : Aside0 (Below w.heap.size w (w70.setCell ⟨go19, ((rd t380 0) : Int).toNat, none⟩ (.bool true))) := ⟨by repeat (first | (with_reducible first | exact HB.out | apply below_alloc | apply pw_below_drewN | apply below_drew1 | refine below_set ?_ GB19.out | refine below_set ?_ GE376.out | refine below_set ?_ GE377.out | refine below_set ?_ GE391.out) | exact HB.out)⟩
                (try clear HO382)
                (try clear HO386)
                (try clear HO389)
                (try clear BK376)
                (try clear BK377)
                (try clear BK391)
                (try clear HB)
                generalize (w70.setCell ⟨go19, ((rd t380 0) : Int).toNat, none⟩ (.bool true)) = w72 at n0_ n1_ n2_ n3_ n4_ n5_ n6_ ⊢
                have HO382 := n0_
                have HO386 := n1_
                have HO389 := n2_
                have BK376 := n3_
                have BK377 := n4_
                have BK391 := n5_
                have HB := n6_
                clear n0_ n1_ n2_ n3_ n4_ n5_ n6_
                try go_wp2
                have n0_ := Aside0.mk (Kd.R_drew HO382.out)
                have n1_ := Aside0.mk (Kd.R_drew HO386.out)
                have n2_ := Aside0.mk (Kd.R_drew HO389.out)
                have n3_ := Aside0.mk (blk_drew BK376.out)
                have n4_ := Aside0.mk (blk_drew BK377.out)
                have n5_ := Aside0.mk (blk_drew BK391.out)
                have n6_ := Aside0.mk (below_drew1 HB.out)
                clear HO382
                clear HO386
                clear HO389
                clear BK376
                clear BK377
                clear BK391
                clear HB
                have HO382 := n0_
                have HO386 := n1_
                have HO389 := n2_
                have BK376 := n3_
                have BK377 := n4_
                have BK391 := n5_
                have HB := n6_
                clear n0_ n1_ n2_ n3_ n4_ n5_ n6_
                have p394 : 0 ≤ (0 : Int) := (by omega)
                have q394 : 0 < (t380.length : Int) := od
                obtain ⟨ad394, e394, hx394_0⟩ := Kd.at_int (Kd.R_reads' HO382.out).2.2 0 p394 q394
                obtain rfl : ad392 = ad394 := (by injection e394)
                have qi394 : (0 < t380.length) = True := eq_true (by omega)
                (try rw [show ((0 : Int)).toNat = 0 from rfl] at hx394_0)
                (try rw [Addr.add_zero'] at hx394_0)
                replace p394 := eq_true p394
                replace q394 := eq_true q394
                have p21 : 0 ≤ ((rd t380 0) : Int) := od
                have q21 : ((rd t380 0) : Int) < ((t384.length : Int) : Int) := od
                obtain ⟨go21, co21, eo21, gb21, gl21, cl21, HG21⟩ := Kd.R_form HO386.out (by omega)
                (first | cases eo21 | (injection eo21 with ea_ en_ ec_; (first | subst ea_ | (injection ea_ with ea_; subst ea_)); subst ec_; clear en_))
                have GB21 := Aside0.mk gb21
                have GG21 := Aside0.mk HG21
                clear gb21 gl21 HG21
                obtain ⟨hx21_0, hf21_0⟩ := Kd.R_celln 0 HO386.out ((rd t380 0) : Int) p21 q21
                replace p21 := eq_true p21
                replace q21 := eq_true q21
                have HP74 := Kd.R_putn HO386.out ((rd t380 0) : Int) (-1)
                rw [← Ny395.out] at HP74
                have HQ74 := Aside0.mk HP74
                (try clear HP74)
                refine start_ (n := 7) (S := fun w' => w'.cell? ⟨gb391, 0, none⟩ = some (.slice (some ⟨go21, 0, none⟩) t384.length co64) ∧ w'.cell? ⟨gb391, 1, none⟩ = some (.slice (some ⟨go19, 0, none⟩) t387.length co68) ∧ w'.cell? ⟨gb391, 2, none⟩ = some (.int .i64 t390) ∧ w'.cell? ad392 = some (.int .i64 (rd t380 0))) (ds := [6]) #[false, false, false, false, false, false, false] (by kernel_rfl) rfl rfl ⟨(blk_cell BK391.out 0).trans rfl, (blk_cell BK391.out 1).trans rfl, (blk_cell BK391.out 2).trans rfl, hx394_0⟩ (fun hHeld => ?_)
                generalize w72.drew = w73 at HO382 HO386 HO389 BK376 BK377 BK391 HB GG21 HQ74 hf21_0 hx21_0 hx394_0 hHeld ⊢
                refine pure_ (i := 0) (N := some 31) (v := ?_) (a' := ?_) #[true, false, false, false, false, false, false] rfl rfl (by kernel_rfl) (fun _ _ _ h => h) (Or.inl ⟨by rfl, ?_⟩) ?_ ?_
                rotate_left
                · intro w'
                  go_simp
                  with_reducible rfl
                rotate_left
                · simp only [Act.put, List.setIfInBounds_toArray, List.set_cons_zero, List.set_cons_succ, i64_w, i32_w]
                  rfl
                refine pure_ (i := 2) (N := some 33) (v := ?_) (a' := ?_) #[true, false, true, false, false, false, false] rfl rfl (by kernel_rfl) (fun _ _ _ h => h) (Or.inl ⟨by rfl, ?_⟩) ?_ ?_
                rotate_left
                · intro w'
                  go_simp
                  with_reducible rfl
                rotate_left
                · simp only [Act.put, List.setIfInBounds_toArray, List.set_cons_zero, List.set_cons_succ, i64_w, i32_w]
                  rfl
                refine pure_ (i := 3) (N := some 34) (v := ?_) (a' := ?_) #[true, false, true, true, false, false, false] rfl rfl (by kernel_rfl) (fun _ _ _ h => h) (Or.inl ⟨by rfl, ?_⟩) ?_ ?_
                rotate_left
                · intro w'
                  go_simp
                  with_reducible rfl
                rotate_left
                · simp only [Act.put, List.setIfInBounds_toArray, List.set_cons_zero, List.set_cons_succ, i64_w, i32_w]
                  rfl
                refine take_ (i := 1) (N := some 32) (v := ?_) (a' := ?_) #[true, true, true, true, false, false, false] rfl rfl (by kernel_rfl) (fun _ _ _ h => h) (Or.inl ⟨by rfl, ?_⟩) hHeld ?_ ?_
                rotate_left
                · rintro w' ⟨s0, s1, s2, s3⟩
                  go_simp
                  with_reducible rfl
                rotate_left
                · simp only [Act.put, List.setIfInBounds_toArray, List.set_cons_zero, List.set_cons_succ, i64_w, i32_w]
                  rfl
                refine take_ (i := 4) (N := some 35) (v := ?_) (a' := ?_) #[true, true, true, true, true, false, false] rfl rfl (by kernel_rfl) (fun _ _ _ h => h) (Or.inl ⟨by rfl, ?_⟩) hHeld ?_ ?_
                rotate_left
                · rintro w' ⟨s0, s1, s2, s3⟩
                  go_simp
                  with_reducible rfl
                rotate_left
                · simp only [Act.put, List.setIfInBounds_toArray, List.set_cons_zero, List.set_cons_succ, i64_w, i32_w]
                  rfl
                refine pure_ (i := 5) (N := some 36) (v := ?_) (a' := ?_) #[true, true, true, true, true, true, false] rfl rfl (by kernel_rfl) (fun _ _ _ h => h) (Or.inl ⟨by rfl, ?_⟩) ?_ ?_
                rotate_left
                · intro w'
                  go_simp
                  with_reducible rfl
                rotate_left
                · simp only [Act.put, List.setIfInBounds_toArray, List.set_cons_zero, List.set_cons_succ, i64_w, i32_w]
                  rfl
                refine last_ (i := 6) (N := none) #[true, true, true, true, true, true, true] rfl rfl (by kernel_rfl) (by decide) (fun K hK => ?_)
                refine skip_ (w1 := ?_) (by rfl) rfl ?_ ?_
                rotate_left
                · go_simp
                  rfl
                refine hK.out _ _ ?_
                clear hK K
                refine done_ (by kernel_rfl) ?_
                have n0_ : Aside0 (Kd.R (Kd.int .i64) 3 (w73.setCell ⟨go21, ((rd t380 0) : Int).toNat, none⟩ (.int .i64 (-1))) w.heap.size (fun k_ => some k_ ≠ (.slice (some ⟨go21, 0, none⟩) t384.length co64 : Value).ownBlock) (.slice (some ad392) t380.length co60) t380) := ⟨Kd.pR (Kd.R_mono (Kd.R_far (p := ⟨go21, ((rd t380 0) : Int).toNat, none⟩) (Kd.R_mono HO382.out (fun k_ hk => (⟨hk, fun e_ => hk (by rw [e_]; rfl)⟩ : _ ∧ k_ ≠ go21))) (fun _ hk => hk.2) (.int .i64 (-1))) (fun _ hk => hk.1))⟩
                have n1_ : Aside0 (Kd.R (Kd.int .i64) 3 (w73.setCell ⟨go21, ((rd t380 0) : Int).toNat, none⟩ (.int .i64 (-1))) w.heap.size (fun k_ => some k_ ≠ (.slice (some ad392) t380.length co60 : Value).ownBlock) (.slice (some ⟨go21, 0, none⟩) t384.length co64) y395) := ⟨Kd.pR HQ74.out⟩
                have n2_ : Aside0 (Kd.R Kd.bool 4 (w73.setCell ⟨go21, ((rd t380 0) : Int).toNat, none⟩ (.int .i64 (-1))) w.heap.size (fun _ => True) (.slice (some ⟨go19, 0, none⟩) t387.length co68) y393) := ⟨Kd.pR (Kd.R_mono (Kd.R_far (p := ⟨go21, ((rd t380 0) : Int).toNat, none⟩) (Kd.R_types HO389.out GG21.out (by decide)) (fun _ hk => hk.2) (.int .i64 (-1))) (fun _ hk => trivial))⟩
                have n3_ : Aside0 ((w73.setCell ⟨go21, ((rd t380 0) : Int).toNat, none⟩ (.int .i64 (-1))).heap[gb376]? = some (.cells #[.slice A0_0 l0_0.length c0_0, .slice A0_1 l0_1.length c0_1, .int .i64 a0_2] 36 (0, 0))) := ⟨by (with_reducible repeat (first | refine blk_drewN ?_ _ | refine blk_drew ?_ | refine blk_alloc ?_ _)); refine blk_far ?_ (by have h_ := Kd.R_ne HO386.out BK376.out (by decide); intro e_; exact h_ (by rw [e_]; rfl)) _; (with_reducible repeat (first | refine blk_drewN ?_ _ | refine blk_drew ?_ | refine blk_alloc ?_ _)); exact BK376.out⟩
                have n4_ : Aside0 ((w73.setCell ⟨go21, ((rd t380 0) : Int).toNat, none⟩ (.int .i64 (-1))).heap[gb377]? = some (.cells #[.slice none 0 0, .slice none 0 0, .int .i64 0] 36 (0, 0))) := ⟨by (with_reducible repeat (first | refine blk_drewN ?_ _ | refine blk_drew ?_ | refine blk_alloc ?_ _)); refine blk_far ?_ (by have h_ := Kd.R_ne HO386.out BK377.out (by decide); intro e_; exact h_ (by rw [e_]; rfl)) _; (with_reducible repeat (first | refine blk_drewN ?_ _ | refine blk_drew ?_ | refine blk_alloc ?_ _)); exact BK377.out⟩
                have n5_ : Aside0 ((w73.setCell ⟨go21, ((rd t380 0) : Int).toNat, none⟩ (.int .i64 (-1))).heap[gb391]? = some (.cells #[.slice (some ⟨go21, 0, none⟩) t384.length co64, .slice (some ⟨go19, 0, none⟩) t387.length co68, .int .i64 t390] 36 (0, 0))) := ⟨by (with_reducible repeat (first | refine blk_drewN ?_ _ | refine blk_drew ?_ | refine blk_alloc ?_ _)); refine blk_far ?_ (by have h_ := Kd.R_ne HO386.out BK391.out (by decide); intro e_; exact h_ (by rw [e_]; rfl)) _; (with_reducible repeat (first | refine blk_drewN ?_ _ | refine blk_drew ?_ | refine blk_alloc ?_ _)); exact BK391.out⟩
                have n6_ : Aside0 (Below w.heap.size w (w73.setCell ⟨go21, ((rd t380 0) : Int).toNat, none⟩ (.int .i64 (-1)))) := ⟨by repeat (first | (with_reducible first | exact HB.out | apply below_alloc | apply pw_below_drewN | apply below_drew1 | refine below_set ?_ GB21.out | refine below_set ?_ GE376.out | refine below_set ?_ GE377.out | refine below_set ?_ GE391.out) | exact HB.out)⟩
                (try clear HO382)
                (try clear HO386)
                (try clear HO389)
                (try clear BK376)
                (try clear BK377)
                (try clear BK391)
                (try clear HB)
                generalize (w73.setCell ⟨go21, ((rd t380 0) : Int).toNat, none⟩ (.int .i64 (-1))) = w75 at n0_ n1_ n2_ n3_ n4_ n5_ n6_ ⊢
                have HO382 := n0_
                have HO386 := n1_
                have HO389 := n2_
                have BK376 := n3_
                have BK377 := n4_
                have BK391 := n5_
                have HB := n6_
                clear n0_ n1_ n2_ n3_ n4_ n5_ n6_
                obtain ⟨hcz76_0, hcz76_1, hcz76_2, hfz76_0, hfz76_1, hfz76_2⟩ := bk3 BK391.out
                try go_wp2
                have n0_ : Aside0 (Kd.R (Kd.int .i64) 3 (w75.setCell ⟨gb391, 2, none⟩ (.int .i64 (-1))) w.heap.size (fun k_ => some k_ ≠ (.slice (some ⟨go21, 0, none⟩) t384.length co64 : Value).ownBlock) (.slice (some ad392) t380.length co60) t380) := ⟨Kd.pR (Kd.R_mono (Kd.R_far (p := ⟨gb391, 2, none⟩) (Kd.R_types HO382.out BK391.out (by decide)) (fun _ hk => hk.2) (.int .i64 (-1))) (fun _ hk => hk.1))⟩
                have n1_ : Aside0 (Kd.R (Kd.int .i64) 3 (w75.setCell ⟨gb391, 2, none⟩ (.int .i64 (-1))) w.heap.size (fun k_ => some k_ ≠ (.slice (some ad392) t380.length co60 : Value).ownBlock) (.slice (some ⟨go21, 0, none⟩) t384.length co64) y395) := ⟨Kd.pR (Kd.R_mono (Kd.R_far (p := ⟨gb391, 2, none⟩) (Kd.R_types HO386.out BK391.out (by decide)) (fun _ hk => hk.2) (.int .i64 (-1))) (fun _ hk => hk.1))⟩
                have n2_ : Aside0 (Kd.R Kd.bool 4 (w75.setCell ⟨gb391, 2, none⟩ (.int .i64 (-1))) w.heap.size (fun _ => True) (.slice (some ⟨go19, 0, none⟩) t387.length co68) y393) := ⟨Kd.pR (Kd.R_mono (Kd.R_far (p := ⟨gb391, 2, none⟩) (Kd.R_types HO389.out BK391.out (by decide)) (fun _ hk => hk.2) (.int .i64 (-1))) (fun _ hk => trivial))⟩
                have n3_ : Aside0 ((w75.setCell ⟨gb391, 2, none⟩ (.int .i64 (-1))).heap[gb376]? = some (.cells #[.slice A0_0 l0_0.length c0_0, .slice A0_1 l0_1.length c0_1, .int .i64 a0_2] 36 (0, 0))) := ⟨by (with_reducible repeat (first | refine blk_drewN ?_ _ | refine blk_drew ?_ | refine blk_alloc ?_ _)); refine blk_far ?_ NB376_391.out _; (with_reducible repeat (first | refine blk_drewN ?_ _ | refine blk_drew ?_ | refine blk_alloc ?_ _)); exact BK376.out⟩
                have n4_ : Aside0 ((w75.setCell ⟨gb391, 2, none⟩ (.int .i64 (-1))).heap[gb377]? = some (.cells #[.slice none 0 0, .slice none 0 0, .int .i64 0] 36 (0, 0))) := ⟨by (with_reducible repeat (first | refine blk_drewN ?_ _ | refine blk_drew ?_ | refine blk_alloc ?_ _)); refine blk_far ?_ NB377_391.out _; (with_reducible repeat (first | refine blk_drewN ?_ _ | refine blk_drew ?_ | refine blk_alloc ?_ _)); exact BK377.out⟩
                have n5_ : Aside0 ((w75.setCell ⟨gb391, 2, none⟩ (.int .i64 (-1))).heap[gb391]? = some (.cells #[.slice (some ⟨go21, 0, none⟩) t384.length co64, .slice (some ⟨go19, 0, none⟩) t387.length co68, .int .i64 (-1)] 36 (0, 0))) := ⟨by (with_reducible repeat (first | refine blk_drewN ?_ _ | refine blk_drew ?_ | refine blk_alloc ?_ _)); refine blk_put (cs := #[.slice (some ⟨go21, 0, none⟩) t384.length co64, .slice (some ⟨go19, 0, none⟩) t387.length co68, .int .i64 t390]) ?_ 2 _ rfl; (with_reducible repeat (first | refine blk_drewN ?_ _ | refine blk_drew ?_ | refine blk_alloc ?_ _)); exact BK391.out⟩
                have n6_ : Aside0 (Below w.heap.size w (w75.setCell ⟨gb391, 2, none⟩ (.int .i64 (-1)))) := ⟨pB HB.out⟩
                (try clear HO382)
                (try clear HO386)
                (try clear HO389)
                (try clear BK376)
                (try clear BK377)
                (try clear BK391)
                (try clear HB)
                generalize (w75.setCell ⟨gb391, 2, none⟩ (.int .i64 (-1))) = w77 at n0_ n1_ n2_ n3_ n4_ n5_ n6_ ⊢
                have HO382 := n0_
                have HO386 := n1_
                have HO389 := n2_
                have BK376 := n3_
                have BK377 := n4_
                have BK391 := n5_
                have HB := n6_
                clear n0_ n1_ n2_ n3_ n4_ n5_ n6_
                have n0_ := Aside0.mk (Kd.R_drew HO382.out)
                have n1_ := Aside0.mk (Kd.R_drew HO386.out)
                have n2_ := Aside0.mk (Kd.R_drew HO389.out)
                have n3_ := Aside0.mk (blk_drew BK376.out)
                have n4_ := Aside0.mk (blk_drew BK377.out)
                have n5_ := Aside0.mk (blk_drew BK391.out)
                have n6_ := Aside0.mk (below_drew1 HB.out)
                clear HO382
                clear HO386
                clear HO389
                clear BK376
                clear BK377
                clear BK391
                clear HB
                have HO382 := n0_
                have HO386 := n1_
                have HO389 := n2_
                have BK376 := n3_
                have BK377 := n4_
                have BK391 := n5_
                have HB := n6_
                clear n0_ n1_ n2_ n3_ n4_ n5_ n6_
                have p398 : 0 ≤ (0 : Int) := (by omega)
                have q398 : 0 < (t380.length : Int) := od
                obtain ⟨ad398, e398, hx398_0⟩ := Kd.at_int (Kd.R_reads' HO382.out).2.2 0 p398 q398
                obtain rfl : ad392 = ad398 := (by injection e398)
                have qi398 : (0 < t380.length) = True := eq_true (by omega)
                (try rw [show ((0 : Int)).toNat = 0 from rfl] at hx398_0)
                (try rw [Addr.add_zero'] at hx398_0)
                replace p398 := eq_true p398
                replace q398 := eq_true q398
                refine start_ (n := 7) (S := fun w' => w'.cell? ⟨gb391, 0, none⟩ = some (.slice (some ⟨go21, 0, none⟩) t384.length co64) ∧ w'.cell? ⟨gb391, 1, none⟩ = some (.slice (some ⟨go19, 0, none⟩) t387.length co68) ∧ w'.cell? ⟨gb391, 2, none⟩ = some (.int .i64 (-1)) ∧ w'.cell? ad392 = some (.int .i64 (rd t380 0))) (ds := []) #[false, false, false, false, false, false, false] (by kernel_rfl) rfl rfl ⟨(blk_cell BK391.out 0).trans rfl, (blk_cell BK391.out 1).trans rfl, (blk_cell BK391.out 2).trans rfl, hx398_0⟩ (fun hHeld => ?_)
                generalize w77.drew = w78 at HO382 HO386 HO389 BK376 BK377 BK391 HB hx398_0 hHeld ⊢
                refine pure_ (i := 1) (N := some 46) (v := ?_) (a' := ?_) #[false, true, false, false, false, false, false] rfl rfl (by kernel_rfl) (fun _ _ _ h => h) (Or.inl ⟨by rfl, ?_⟩) ?_ ?_
                rotate_left
                · intro w'
                  go_simp
                  with_reducible rfl
                rotate_left
                · simp only [Act.put, List.setIfInBounds_toArray, List.set_cons_zero, List.set_cons_succ, i64_w, i32_w]
                  rfl
                refine pure_ (i := 2) (N := some 47) (v := ?_) (a' := ?_) #[false, true, true, false, false, false, false] rfl rfl (by kernel_rfl) (fun _ _ _ h => h) (Or.inl ⟨by rfl, ?_⟩) ?_ ?_
                rotate_left
                · intro w'
                  go_simp
                  with_reducible rfl
                rotate_left
                · simp only [Act.put, List.setIfInBounds_toArray, List.set_cons_zero, List.set_cons_succ, i64_w, i32_w]
                  rfl
                refine take_ (i := 0) (N := some 45) (v := ?_) (a' := ?_) #[true, true, true, false, false, false, false] rfl rfl (by kernel_rfl) (fun _ _ _ h => h) (Or.inl ⟨by rfl, ?_⟩) hHeld ?_ ?_
                rotate_left
                · rintro w' ⟨s0, s1, s2, s3⟩
                  go_simp
                  with_reducible rfl
                rotate_left
                · simp only [Act.put, List.setIfInBounds_toArray, List.set_cons_zero, List.set_cons_succ, i64_w, i32_w]
                  rfl
                refine take_ (i := 3) (N := some 48) (v := ?_) (a' := ?_) #[true, true, true, true, false, false, false] rfl rfl (by kernel_rfl) (fun _ _ _ h => h) (Or.inl ⟨by rfl, ?_⟩) hHeld ?_ ?_
                rotate_left
                · rintro w' ⟨s0, s1, s2, s3⟩
                  go_simp
                  with_reducible rfl
                rotate_left
                · simp only [Act.put, List.setIfInBounds_toArray, List.set_cons_zero, List.set_cons_succ, i64_w, i32_w]
                  rfl
                refine one_ (i := 4) (N := none) #[true, true, true, true, true, false, false] rfl rfl (by kernel_rfl) (by decide) (fun K hK => ?_)
                have hs79 : w78.cell? ⟨gb377, 0, none⟩ = some (.slice none 0 0) := (blk_cell BK377.out 0).trans rfl
                have hfs79 := blk_frozen BK377.out 0
                have hns79_0 := NB376_377.out
                have hns79_2 := NB391_377.out
                have hms79_0 := NB377_376.out
                have hms79_2 := NB377_391.out
                have hs80 : w78.cell? ⟨gb377, 1, none⟩ = some (.slice none 0 0) := (blk_cell BK377.out 1).trans rfl
                have hfs80 := blk_frozen BK377.out 1
                have hns80_0 := NB376_377.out
                have hns80_2 := NB391_377.out
                have hms80_0 := NB377_376.out
                have hms80_2 := NB377_391.out
                have hs81 : w78.cell? ⟨gb377, 2, none⟩ = some (.int .i64 0) := (blk_cell BK377.out 2).trans rfl
                have hfs81 := blk_frozen BK377.out 2
                have hns81_0 := NB376_377.out
                have hns81_2 := NB391_377.out
                have hms81_0 := NB377_376.out
                have hms81_2 := NB377_391.out
                refine skip_ (w1 := ?_) (by rfl) rfl ?_ ?_
                rotate_left
                · go_simp
                  rfl
                refine hK.out _ _ ⟨((cell_far (p := ⟨gb377, _, none⟩) NB391_377.out _).trans (((cell_far (p := ⟨gb377, _, none⟩) NB391_377.out _).trans (((cell_far (p := ⟨gb377, _, none⟩) NB391_377.out _).trans (hHeld.1)))))), ((cell_far (p := ⟨gb377, _, none⟩) NB391_377.out _).trans (((cell_far (p := ⟨gb377, _, none⟩) NB391_377.out _).trans (((cell_far (p := ⟨gb377, _, none⟩) NB391_377.out _).trans (hHeld.2.1)))))), ((cell_far (p := ⟨gb377, _, none⟩) NB391_377.out _).trans (((cell_far (p := ⟨gb377, _, none⟩) NB391_377.out _).trans (((cell_far (p := ⟨gb377, _, none⟩) NB391_377.out _).trans (hHeld.2.2.1)))))), ((cell_far (p := ⟨gb377, _, none⟩) (by first | exact Kd.own_blk (Kd.R_ne HO382.out BK377.out (by decide)) | (rw [add_block]; exact Kd.own_blk (Kd.R_ne HO382.out BK377.out (by decide))) | (show (Addr.add _ _).block ≠ _; rw [add_block]; exact Kd.own_blk (Kd.R_ne HO382.out BK377.out (by decide))) | (dsimp only; exact Kd.own_blk (Kd.R_ne HO382.out BK377.out (by decide)))) _).trans (((cell_far (p := ⟨gb377, _, none⟩) (by first | exact Kd.own_blk (Kd.R_ne HO382.out BK377.out (by decide)) | (rw [add_block]; exact Kd.own_blk (Kd.R_ne HO382.out BK377.out (by decide))) | (show (Addr.add _ _).block ≠ _; rw [add_block]; exact Kd.own_blk (Kd.R_ne HO382.out BK377.out (by decide))) | (dsimp only; exact Kd.own_blk (Kd.R_ne HO382.out BK377.out (by decide)))) _).trans (((cell_far (p := ⟨gb377, _, none⟩) (by first | exact Kd.own_blk (Kd.R_ne HO382.out BK377.out (by decide)) | (rw [add_block]; exact Kd.own_blk (Kd.R_ne HO382.out BK377.out (by decide))) | (show (Addr.add _ _).block ≠ _; rw [add_block]; exact Kd.own_blk (Kd.R_ne HO382.out BK377.out (by decide))) | (dsimp only; exact Kd.own_blk (Kd.R_ne HO382.out BK377.out (by decide)))) _).trans (hHeld.2.2.2))))))⟩ (fun hHeld => ?_)
                clear hK K
                refine pure_ (i := 5) (N := some 3) (v := ?_) (a' := ?_) #[true, true, true, true, true, true, false] rfl rfl (by kernel_rfl) (fun _ _ _ h => h) (Or.inl ⟨by rfl, ?_⟩) ?_ ?_
                rotate_left
                · intro w'
                  go_simp
                  with_reducible rfl
                rotate_left
                · simp only [Act.put, List.setIfInBounds_toArray, List.set_cons_zero, List.set_cons_succ, i64_w, i32_w]
                  rfl
                refine pure_ (i := 6) (N := some 4) (v := ?_) (a' := ?_) #[true, true, true, true, true, true, true] rfl rfl (by kernel_rfl) (fun _ _ _ h => h) (Or.inl ⟨by rfl, ?_⟩) ?_ ?_
                rotate_left
                · intro w'
                  go_simp
                  with_reducible rfl
                rotate_left
                · simp only [Act.put, List.setIfInBounds_toArray, List.set_cons_zero, List.set_cons_succ, i64_w, i32_w]
                  rfl
                refine done_ (by kernel_rfl) ?_
                try go_wp2
                refine bodyPost_ret (results_ctt rfl _ _ gb377 36 #[.slice (some ⟨go21, 0, none⟩) t384.length co64, .slice (some ⟨go19, 0, none⟩) t387.length co68, .int .i64 (-1)] (0, 0) _ rfl (by (with_reducible repeat (first | refine blk_drewN ?_ _ | refine blk_drew ?_ | refine blk_alloc ?_ _)); refine blk_put (cs := #[.slice (some ⟨go21, 0, none⟩) t384.length co64, .slice (some ⟨go19, 0, none⟩) t387.length co68, .int .i64 0]) ?_ 2 _ rfl; (with_reducible repeat (first | refine blk_drewN ?_ _ | refine blk_drew ?_ | refine blk_alloc ?_ _)); refine blk_put (cs := #[.slice (some ⟨go21, 0, none⟩) t384.length co64, .slice none 0 0, .int .i64 0]) ?_ 1 _ rfl; (with_reducible repeat (first | refine blk_drewN ?_ _ | refine blk_drew ?_ | refine blk_alloc ?_ _)); refine blk_put (cs := #[.slice none 0 0, .slice none 0 0, .int .i64 0]) ?_ 0 _ rfl; (with_reducible repeat (first | refine blk_drewN ?_ _ | refine blk_drew ?_ | refine blk_alloc ?_ _)); exact BK377.out) Try.underlying36 rfl (by kernel_rfl)) rfl ?_
                exact ⟨_, _, by first | rfl | (simp [errW_none, errW_some] <;> rfl) | (simp [*, errW_none, errW_some] <;> rfl), Kd.pR (Kd.R_mono (Kd.R_far (p := ⟨gb377, 2, none⟩) (Kd.R_far (p := ⟨gb377, 1, none⟩) (Kd.R_far (p := ⟨gb377, 0, none⟩) (Kd.R_types HO386.out BK377.out (by decide)) (fun _ hk => hk.2) (.slice (some ⟨go21, 0, none⟩) t384.length co64)) (fun _ hk => hk.2) (.slice (some ⟨go19, 0, none⟩) t387.length co68)) (fun _ hk => hk.2) (.int .i64 (-1))) (fun _ hk => trivial)), Kd.pR (Kd.R_mono (Kd.R_far (p := ⟨gb377, 2, none⟩) (Kd.R_far (p := ⟨gb377, 1, none⟩) (Kd.R_far (p := ⟨gb377, 0, none⟩) (Kd.R_types HO389.out BK377.out (by decide)) (fun _ hk => hk.2) (.slice (some ⟨go21, 0, none⟩) t384.length co64)) (fun _ hk => hk.2) (.slice (some ⟨go19, 0, none⟩) t387.length co68)) (fun _ hk => hk.2) (.int .i64 (-1))) (fun _ hk => trivial)), pB HB.out⟩
            · rw [if_neg c20] at H
              exact absurd H (by simp)
          · rw [if_neg c18] at H
            exact absurd H (by simp)
        · rw [if_neg c17] at H
          exact absurd H (by simp)
      · rw [if_neg c16] at H
        exact absurd H (by simp)
  · rw [if_neg c3] at H
    have c3b0 : (t378 == 0) = false := beq_eq_false_iff_ne.mpr c3
    have c3b1 : (t378 != 0) = true := bne_iff_ne.mpr c3
    replace H := Option.bind_eq_some_iff.mp H
    obtain ⟨t379, A820, H⟩ := H
    replace H : (some (([] : List Int), ([] : List Bool), 0, 0, t379)) = some (r1, r2, r3, r4, r5) := H
    have A82 := Aside0.mk A820
    (try clear A820)
    simp only [Option.some.injEq, Prod.mk.injEq] at H
    obtain ⟨rfl, rfl, rfl, rfl, rfl⟩ := H
    go_enter Try.func31, Try.ntmps31
    go_wp2_with (first | ((with_reducible refine gate_dst (N := 1) rfl ?_); refine boxE (N := 1) (cs := #[.slice A0_0 l0_0.length c0_0, .slice A0_1 l0_1.length c0_1, .int .i64 a0_2]) (t := 36) ?_; intro gb376 hg w83 hbox hb; have n0_ := Aside0.mk (below_step (pB HB.out) hb); have n1_ := Aside0.mk (hbox); have n3_ := Aside0.mk (pL HB.out hg); clear HB; have HB := n0_; have BK376 := n1_; have GE376 := n3_; clear n0_ n1_ n3_; clear hb hbox hg) | ((with_reducible refine gate_dst (N := 2) rfl ?_); refine boxE (N := 2) (cs := #[.slice none 0 0, .slice none 0 0, .int .i64 0]) (t := 36) ?_; intro gb377 hg w84 hbox hb; have n0_ := Aside0.mk (blk_below (pK BK376.out) hb); have n1_ := Aside0.mk (below_step (pB HB.out) hb); have n2_ := Aside0.mk (hbox); have n4_ := Aside0.mk (pL HB.out hg); have n5_ := Aside0.mk (pNl BK376.out hg); have n6_ := Aside0.mk (pNg BK376.out hg); clear BK376; clear HB; have BK376 := n0_; have HB := n1_; have BK377 := n2_; have GE377 := n4_; have NB376_377 := n5_; have NB377_376 := n6_; clear n0_ n1_ n2_ n4_ n5_ n6_; clear hb hbox hg; have hnb85 := NB376_377.out; have hnc85 := NB377_376.out; obtain ⟨hcz86_0, hcz86_1, hcz86_2, hfz86_0, hfz86_1, hfz86_2⟩ := bk3 BK376.out) | ((with_reducible refine gate_callee (f := 24) rfl ?_); refine goesE (some 9) rfl rfl Try.func24 (by kernel_rfl) rfl #[.agg #[.slice A0_0 l0_0.length c0_0, .slice A0_1 l0_1.length c0_1, .int .i64 a0_2]] rfl ?_; (with_reducible refine (spigotref13_Check.calls k _ _ l0_0 _ _ l0_1 a0_2 t378 _ ?side1 ?side2 ?side3 ?side4 A2.out).mono ?_); (case side1 => exact Kd.pC ((Kd.C_below HR0_0.out HB.out))); (case side2 => exact HC0_0.out); (case side3 => exact Kd.pC ((Kd.C_below HR0_1.out HB.out))); (case side4 => exact HC0_1.out); rintro e w87 ⟨rfl, hb⟩; refine ⟨_, rfl, ?_⟩; have n0_ := Aside0.mk (blk_below (pK BK376.out) hb); have n1_ := Aside0.mk (blk_below (pK BK377.out) hb); have n2_ := Aside0.mk (below_step (pB HB.out) hb); clear BK376; clear BK377; clear HB; have BK376 := n0_; have BK377 := n1_; have HB := n2_; clear n0_ n1_ n2_; (try clear hb); (try clear hb2); (try clear hk); (try clear hi); obtain ⟨hcz88_0, hcz88_1, hcz88_2, hfz88_0, hfz88_1, hfz88_2⟩ := bk3 BK376.out) | ((with_reducible refine gate_callee (f := 24) rfl ?_); refine goesE (some 13) rfl rfl Try.func24 (by kernel_rfl) rfl #[.agg #[.slice A0_0 l0_0.length c0_0, .slice A0_1 l0_1.length c0_1, .int .i64 a0_2]] rfl ?_; (with_reducible refine (spigotref13_Check.calls k _ _ l0_0 _ _ l0_1 a0_2 t379 _ ?side1 ?side2 ?side3 ?side4 A82.out).mono ?_); (case side1 => exact Kd.pC ((Kd.C_below HR0_0.out HB.out))); (case side2 => exact HC0_0.out); (case side3 => exact Kd.pC ((Kd.C_below HR0_1.out HB.out))); (case side4 => exact HC0_1.out); rintro e w89 ⟨rfl, hb⟩; refine ⟨_, rfl, ?_⟩; have n1_ := Aside0.mk (blk_below (pK BK377.out) hb); have n2_ := Aside0.mk (below_step (pB HB.out) hb); (try clear BK376); clear BK377; clear HB; have BK377 := n1_; have HB := n2_; clear n1_ n2_; (try clear hb); (try clear hb2); (try clear hk); (try clear hi); obtain ⟨hcz90_0, hcz90_1, hcz90_2, hfz90_0, hfz90_1, hfz90_2⟩ := bk3 BK377.out))
    refine bodyPost_ret (results_ctt rfl _ _ gb377 36 #[.slice none 0 0, .slice none 0 0, .int .i64 0] (0, 0) _ rfl (by (with_reducible repeat (first | refine blk_drewN ?_ _ | refine blk_drew ?_ | refine blk_alloc ?_ _)); refine blk_put (cs := #[.slice none 0 0, .slice none 0 0, .int .i64 0]) ?_ 2 _ rfl; (with_reducible repeat (first | refine blk_drewN ?_ _ | refine blk_drew ?_ | refine blk_alloc ?_ _)); refine blk_put (cs := #[.slice none 0 0, .slice none 0 0, .int .i64 0]) ?_ 1 _ rfl; (with_reducible repeat (first | refine blk_drewN ?_ _ | refine blk_drew ?_ | refine blk_alloc ?_ _)); refine blk_put (cs := #[.slice none 0 0, .slice none 0 0, .int .i64 0]) ?_ 0 _ rfl; (with_reducible repeat (first | refine blk_drewN ?_ _ | refine blk_drew ?_ | refine blk_alloc ?_ _)); exact BK377.out) Try.underlying36 rfl (by kernel_rfl)) rfl ?_
    exact ⟨_, _, by first | rfl | (simp [errW_none, errW_some] <;> rfl) | (simp [*, errW_none, errW_some] <;> rfl), by first | exact Kd.R_nil _ _ _ _ _ | exact Kd.N_nil _ _ _ _ _ | exact Kd.V_nil _ _ _ _ _ | exact Kd.Q_nil _ _ _ _ _ | exact Kd.S_nil _ _ _ _ _, by first | exact Kd.R_nil _ _ _ _ _ | exact Kd.N_nil _ _ _ _ _ | exact Kd.V_nil _ _ _ _ _ | exact Kd.Q_nil _ _ _ _ _ | exact Kd.S_nil _ _ _ _ _, pB HB.out⟩

end Go.Proofs.Ytlgfopdindklnaa.PArena
