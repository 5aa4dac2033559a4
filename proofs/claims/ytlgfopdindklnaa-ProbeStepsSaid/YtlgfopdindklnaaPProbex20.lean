-- printed by a program of this session (a turned copy of the kit's print); Lean checks it
import Derived.Test.YtlgfopdindklnaaPProbex0
import Derived.Test.YtlgfopdindklnaaPProbex4
import Derived.Test.YtlgfopdindklnaaPProbex6
import Derived.Test.YtlgfopdindklnaaPProbex7
import Derived.Test.YtlgfopdindklnaaPProbex17
namespace Go.Proofs.Ytlgfopdindklnaa.PProbe
open Go.RowKit Go.Proofs.YtlgfopdindklnaaW.PrintWords Go.Proofs.YtlgfopdindklnaaW.PrintLast Go.Proofs.YtlgfopdindklnaaW.PrintMore
attribute [local go_sem] max2_int min2_int max_two min_two max_three min_three max_four min_four   -- for this text's walks alone
set_option linter.unusedVariables false
set_option linter.unusedSimpArgs false

/-! ### spigotlaw14_ProbeSteps: function 12 -/
def spigotlaw14_ProbeSteps.f (k : Nat) (l0 : List (S71)) (a1 : Int) : Option (Bool) := (spigotlaw14_alive.f k).bind fun t422 => (if t422 = true then ((spigotref14_Check.f k l0).bind fun t423 => (if t423 = 0 then ((probe_Find.f k l0 a1).bind fun bt424 => ((probe_Steps.f k l0 a1).bind fun bt426 => ((spigotref14_Count.f k l0).bind fun t428 => (if bt424.2 = 6 then (if bt426.2 = 0 then (if bt426.1 ≥ 1 then (if bt426.1 ≤ (wrap64 (t428 + 1)) then ((spigotref14_Home.f a1).bind fun t429 => (if 0 ≤ t429 then (if t429 < (l0.length : Int) then (if ((rd_T71 l0 t429).f2 = true) then ((spigotref14_Home.f a1).bind fun t431 => (if 0 ≤ t431 then (if t431 < (l0.length : Int) then (some ((bt426.1 == 1) == (((rd_T71 l0 t431).f0) == a1))) else (none)) else (none))) else (some ((bt426.1 == 1) == true))) else (none)) else (none))) else (some false)) else (some false)) else (some false)) else (if bt426.2 = 0 then (if bt426.1 ≥ 1 then (if bt426.1 ≤ t428 then ((spigotref14_Home.f a1).bind fun t433 => (if 0 ≤ t433 then (if t433 < (l0.length : Int) then (if ((rd_T71 l0 t433).f2 = true) then ((spigotref14_Home.f a1).bind fun t435 => (if 0 ≤ t435 then (if t435 < (l0.length : Int) then (some ((bt426.1 == 1) == (((rd_T71 l0 t435).f0) == a1))) else (none)) else (none))) else (some ((bt426.1 == 1) == true))) else (none)) else (none))) else (some false)) else (some false)) else (some false)))))) else (some t422))) else (none))
theorem spigotlaw14_ProbeSteps.mono : ∀ a0 a1 k, LeO (spigotlaw14_ProbeSteps.f k a0 a1) (spigotlaw14_ProbeSteps.f (k + 1) a0 a1) := by
  intro a0 a1 k
  unfold spigotlaw14_ProbeSteps.f
  repeat' first
      | (with_reducible exact probe_Find.mono _ _ _)
      | (with_reducible exact probe_Steps.mono _ _ _)
      | (with_reducible exact spigotlaw14_alive.mono _)
      | (with_reducible exact spigotref14_Check.mono _ _)
      | (with_reducible exact spigotref14_Count.mono _ _)
      | (with_reducible exact LeO.refl _)
      | (with_reducible exact LeO.none _)
      | (with_reducible refine LeO.ite ?_ ?_)
      | (with_reducible refine LeO.bind ?_ (fun _ => ?_))
      | exact probe_Find.mono _ _ _
      | exact probe_Steps.mono _ _ _
      | exact spigotlaw14_alive.mono _
      | exact spigotref14_Check.mono _ _
      | exact spigotref14_Count.mono _ _
      | exact LeO.none _
      | refine LeO.ite ?_ ?_
      | refine LeO.bind ?_ (fun _ => ?_)
set_option maxHeartbeats 8000000 in
set_option maxRecDepth 100000 in
theorem spigotlaw14_ProbeSteps.calls (k : Nat) (A0 : Option Addr) (c0 : Nat) (l0 : List (S71)) (a1 : Int) (w : World) (hr0 : Kd.C k71 w A0 l0.length l0) (hc0 : l0.length ≤ c0) (h : spigotlaw14_ProbeSteps.f k l0 a1 = some true) :
    Calls Try.prog 12 #[.slice A0 l0.length c0, .int .u32 a1] w fun e w' => e = .returned (.bool true) ∧ Below w.heap.size w w' := by
  have HR0 := Aside0.mk hr0
  have HC0 := Aside0.mk hc0
  clear hr0 hc0
  have HB := Aside0.mk (Below.refl w.heap.size w)
  have H : ((spigotlaw14_alive.f k).bind fun t422 => (if t422 = true then ((spigotref14_Check.f k l0).bind fun t423 => (if t423 = 0 then ((probe_Find.f k l0 a1).bind fun bt424 => ((probe_Steps.f k l0 a1).bind fun bt426 => ((spigotref14_Count.f k l0).bind fun t428 => (if bt424.2 = 6 then (if bt426.2 = 0 then (if bt426.1 ≥ 1 then (if bt426.1 ≤ (wrap64 (t428 + 1)) then ((spigotref14_Home.f a1).bind fun t429 => (if 0 ≤ t429 then (if t429 < (l0.length : Int) then (if ((rd_T71 l0 t429).f2 = true) then ((spigotref14_Home.f a1).bind fun t431 => (if 0 ≤ t431 then (if t431 < (l0.length : Int) then (some ((bt426.1 == 1) == (((rd_T71 l0 t431).f0) == a1))) else (none)) else (none))) else (some ((bt426.1 == 1) == true))) else (none)) else (none))) else (some false)) else (some false)) else (some false)) else (if bt426.2 = 0 then (if bt426.1 ≥ 1 then (if bt426.1 ≤ t428 then ((spigotref14_Home.f a1).bind fun t433 => (if 0 ≤ t433 then (if t433 < (l0.length : Int) then (if ((rd_T71 l0 t433).f2 = true) then ((spigotref14_Home.f a1).bind fun t435 => (if 0 ≤ t435 then (if t435 < (l0.length : Int) then (some ((bt426.1 == 1) == (((rd_T71 l0 t435).f0) == a1))) else (none)) else (none))) else (some ((bt426.1 == 1) == true))) else (none)) else (none))) else (some false)) else (some false)) else (some false)))))) else (some t422))) else (none))) = some true := h
  (try clear h)
  replace H := Option.bind_eq_some_iff.mp H
  obtain ⟨t422, A30, H⟩ := H
  replace H : (if t422 = true then ((spigotref14_Check.f k l0).bind fun t423 => (if t423 = 0 then ((probe_Find.f k l0 a1).bind fun bt424 => ((probe_Steps.f k l0 a1).bind fun bt426 => ((spigotref14_Count.f k l0).bind fun t428 => (if bt424.2 = 6 then (if bt426.2 = 0 then (if bt426.1 ≥ 1 then (if bt426.1 ≤ (wrap64 (t428 + 1)) then ((spigotref14_Home.f a1).bind fun t429 => (if 0 ≤ t429 then (if t429 < (l0.length : Int) then (if ((rd_T71 l0 t429).f2 = true) then ((spigotref14_Home.f a1).bind fun t431 => (if 0 ≤ t431 then (if t431 < (l0.length : Int) then (some ((bt426.1 == 1) == (((rd_T71 l0 t431).f0) == a1))) else (none)) else (none))) else (some ((bt426.1 == 1) == true))) else (none)) else (none))) else (some false)) else (some false)) else (some false)) else (if bt426.2 = 0 then (if bt426.1 ≥ 1 then (if bt426.1 ≤ t428 then ((spigotref14_Home.f a1).bind fun t433 => (if 0 ≤ t433 then (if t433 < (l0.length : Int) then (if ((rd_T71 l0 t433).f2 = true) then ((spigotref14_Home.f a1).bind fun t435 => (if 0 ≤ t435 then (if t435 < (l0.length : Int) then (some ((bt426.1 == 1) == (((rd_T71 l0 t435).f0) == a1))) else (none)) else (none))) else (some ((bt426.1 == 1) == true))) else (none)) else (none))) else (some false)) else (some false)) else (some false)))))) else (some t422))) else (none)) = some true := H
  have A3 := Aside0.mk A30
  (try clear A30)
  by_cases c4 : t422 = true
  · subst c4
    have H1 : ((spigotref14_Check.f k l0).bind fun t423 => (if t423 = 0 then ((probe_Find.f k l0 a1).bind fun bt424 => ((probe_Steps.f k l0 a1).bind fun bt426 => ((spigotref14_Count.f k l0).bind fun t428 => (if bt424.2 = 6 then (if bt426.2 = 0 then (if bt426.1 ≥ 1 then (if bt426.1 ≤ (wrap64 (t428 + 1)) then ((spigotref14_Home.f a1).bind fun t429 => (if 0 ≤ t429 then (if t429 < (l0.length : Int) then (if ((rd_T71 l0 t429).f2 = true) then ((spigotref14_Home.f a1).bind fun t431 => (if 0 ≤ t431 then (if t431 < (l0.length : Int) then (some ((bt426.1 == 1) == (((rd_T71 l0 t431).f0) == a1))) else (none)) else (none))) else (some ((bt426.1 == 1) == true))) else (none)) else (none))) else (some false)) else (some false)) else (some false)) else (if bt426.2 = 0 then (if bt426.1 ≥ 1 then (if bt426.1 ≤ t428 then ((spigotref14_Home.f a1).bind fun t433 => (if 0 ≤ t433 then (if t433 < (l0.length : Int) then (if ((rd_T71 l0 t433).f2 = true) then ((spigotref14_Home.f a1).bind fun t435 => (if 0 ≤ t435 then (if t435 < (l0.length : Int) then (some ((bt426.1 == 1) == (((rd_T71 l0 t435).f0) == a1))) else (none)) else (none))) else (some ((bt426.1 == 1) == true))) else (none)) else (none))) else (some false)) else (some false)) else (some false)))))) else (some true))) = some true := by rw [if_pos rfl] at H; exact H
    clear H
    have H := H1
    clear H1
    replace H := Option.bind_eq_some_iff.mp H
    obtain ⟨t423, A50, H⟩ := H
    replace H : (if t423 = 0 then ((probe_Find.f k l0 a1).bind fun bt424 => ((probe_Steps.f k l0 a1).bind fun bt426 => ((spigotref14_Count.f k l0).bind fun t428 => (if bt424.2 = 6 then (if bt426.2 = 0 then (if bt426.1 ≥ 1 then (if bt426.1 ≤ (wrap64 (t428 + 1)) then ((spigotref14_Home.f a1).bind fun t429 => (if 0 ≤ t429 then (if t429 < (l0.length : Int) then (if ((rd_T71 l0 t429).f2 = true) then ((spigotref14_Home.f a1).bind fun t431 => (if 0 ≤ t431 then (if t431 < (l0.length : Int) then (some ((bt426.1 == 1) == (((rd_T71 l0 t431).f0) == a1))) else (none)) else (none))) else (some ((bt426.1 == 1) == true))) else (none)) else (none))) else (some false)) else (some false)) else (some false)) else (if bt426.2 = 0 then (if bt426.1 ≥ 1 then (if bt426.1 ≤ t428 then ((spigotref14_Home.f a1).bind fun t433 => (if 0 ≤ t433 then (if t433 < (l0.length : Int) then (if ((rd_T71 l0 t433).f2 = true) then ((spigotref14_Home.f a1).bind fun t435 => (if 0 ≤ t435 then (if t435 < (l0.length : Int) then (some ((bt426.1 == 1) == (((rd_T71 l0 t435).f0) == a1))) else (none)) else (none))) else (some ((bt426.1 == 1) == true))) else (none)) else (none))) else (some false)) else (some false)) else (some false)))))) else (some true)) = some true := H
    have A5 := Aside0.mk A50
    (try clear A50)
    by_cases c6 : t423 = 0
    · rw [if_pos c6] at H
      have c6b0 : (t423 == 0) = true := beq_iff_eq.mpr c6
      have c6b1 : (t423 != 0) = false := bne_eq_false_iff_eq.mpr c6
      clear c6
      replace H := Option.bind_eq_some_iff.mp H
      obtain ⟨⟨t424, t425⟩, A70, H⟩ := H
      replace H : ((probe_Steps.f k l0 a1).bind fun bt426 => ((spigotref14_Count.f k l0).bind fun t428 => (if t425 = 6 then (if bt426.2 = 0 then (if bt426.1 ≥ 1 then (if bt426.1 ≤ (wrap64 (t428 + 1)) then ((spigotref14_Home.f a1).bind fun t429 => (if 0 ≤ t429 then (if t429 < (l0.length : Int) then (if ((rd_T71 l0 t429).f2 = true) then ((spigotref14_Home.f a1).bind fun t431 => (if 0 ≤ t431 then (if t431 < (l0.length : Int) then (some ((bt426.1 == 1) == (((rd_T71 l0 t431).f0) == a1))) else (none)) else (none))) else (some ((bt426.1 == 1) == true))) else (none)) else (none))) else (some false)) else (some false)) else (some false)) else (if bt426.2 = 0 then (if bt426.1 ≥ 1 then (if bt426.1 ≤ t428 then ((spigotref14_Home.f a1).bind fun t433 => (if 0 ≤ t433 then (if t433 < (l0.length : Int) then (if ((rd_T71 l0 t433).f2 = true) then ((spigotref14_Home.f a1).bind fun t435 => (if 0 ≤ t435 then (if t435 < (l0.length : Int) then (some ((bt426.1 == 1) == (((rd_T71 l0 t435).f0) == a1))) else (none)) else (none))) else (some ((bt426.1 == 1) == true))) else (none)) else (none))) else (some false)) else (some false)) else (some false))))) = some true := H
      have A7 := Aside0.mk A70
      (try clear A70)
      replace H := Option.bind_eq_some_iff.mp H
      obtain ⟨⟨t426, t427⟩, A80, H⟩ := H
      replace H : ((spigotref14_Count.f k l0).bind fun t428 => (if t425 = 6 then (if t427 = 0 then (if t426 ≥ 1 then (if t426 ≤ (wrap64 (t428 + 1)) then ((spigotref14_Home.f a1).bind fun t429 => (if 0 ≤ t429 then (if t429 < (l0.length : Int) then (if ((rd_T71 l0 t429).f2 = true) then ((spigotref14_Home.f a1).bind fun t431 => (if 0 ≤ t431 then (if t431 < (l0.length : Int) then (some ((t426 == 1) == (((rd_T71 l0 t431).f0) == a1))) else (none)) else (none))) else (some ((t426 == 1) == true))) else (none)) else (none))) else (some false)) else (some false)) else (some false)) else (if t427 = 0 then (if t426 ≥ 1 then (if t426 ≤ t428 then ((spigotref14_Home.f a1).bind fun t433 => (if 0 ≤ t433 then (if t433 < (l0.length : Int) then (if ((rd_T71 l0 t433).f2 = true) then ((spigotref14_Home.f a1).bind fun t435 => (if 0 ≤ t435 then (if t435 < (l0.length : Int) then (some ((t426 == 1) == (((rd_T71 l0 t435).f0) == a1))) else (none)) else (none))) else (some ((t426 == 1) == true))) else (none)) else (none))) else (some false)) else (some false)) else (some false)))) = some true := H
      have A8 := Aside0.mk A80
      (try clear A80)
      replace H := Option.bind_eq_some_iff.mp H
      obtain ⟨t428, A90, H⟩ := H
      replace H : (if t425 = 6 then (if t427 = 0 then (if t426 ≥ 1 then (if t426 ≤ (wrap64 (t428 + 1)) then ((spigotref14_Home.f a1).bind fun t429 => (if 0 ≤ t429 then (if t429 < (l0.length : Int) then (if ((rd_T71 l0 t429).f2 = true) then ((spigotref14_Home.f a1).bind fun t431 => (if 0 ≤ t431 then (if t431 < (l0.length : Int) then (some ((t426 == 1) == (((rd_T71 l0 t431).f0) == a1))) else (none)) else (none))) else (some ((t426 == 1) == true))) else (none)) else (none))) else (some false)) else (some false)) else (some false)) else (if t427 = 0 then (if t426 ≥ 1 then (if t426 ≤ t428 then ((spigotref14_Home.f a1).bind fun t433 => (if 0 ≤ t433 then (if t433 < (l0.length : Int) then (if ((rd_T71 l0 t433).f2 = true) then ((spigotref14_Home.f a1).bind fun t435 => (if 0 ≤ t435 then (if t435 < (l0.length : Int) then (some ((t426 == 1) == (((rd_T71 l0 t435).f0) == a1))) else (none)) else (none))) else (some ((t426 == 1) == true))) else (none)) else (none))) else (some false)) else (some false)) else (some false))) = some true := H
      have A9 := Aside0.mk A90
      (try clear A90)
      by_cases c10 : t425 = 6
      · rw [if_pos c10] at H
        have c10b0 : (t425 == 6) = true := beq_iff_eq.mpr c10
        have c10b1 : (t425 != 6) = false := bne_eq_false_iff_eq.mpr c10
        clear c10
        by_cases c11 : t427 = 0
        · rw [if_pos c11] at H
          have c11b0 : (t427 == 0) = true := beq_iff_eq.mpr c11
          have c11b1 : (t427 != 0) = false := bne_eq_false_iff_eq.mpr c11
          clear c11
          by_cases c12 : t426 ≥ 1
          · rw [if_pos c12] at H
            have c12b0 : decide (1 ≤ t426) = true := decide_eq_true c12
            clear c12
            by_cases c13 : t426 ≤ (wrap64 (t428 + 1))
            · rw [if_pos c13] at H
              have c13b0 : decide (t426 ≤ (wrap64 (t428 + 1))) = true := decide_eq_true c13
              clear c13
              replace H := Option.bind_eq_some_iff.mp H
              obtain ⟨t429, A140, H⟩ := H
              replace H : (if 0 ≤ t429 then (if t429 < (l0.length : Int) then (if ((rd_T71 l0 t429).f2 = true) then ((spigotref14_Home.f a1).bind fun t431 => (if 0 ≤ t431 then (if t431 < (l0.length : Int) then (some ((t426 == 1) == (((rd_T71 l0 t431).f0) == a1))) else (none)) else (none))) else (some ((t426 == 1) == true))) else (none)) else (none)) = some true := H
              have A14 := Aside0.mk A140
              (try clear A140)
              by_cases c15 : 0 ≤ t429
              · rw [if_pos c15] at H
                have c15b0 : decide (0 ≤ t429) = true := decide_eq_true c15
                clear c15
                by_cases c16 : t429 < (l0.length : Int)
                · rw [if_pos c16] at H
                  have c16b0 : decide (t429 < (l0.length : Int)) = true := decide_eq_true c16
                  clear c16
                  obtain ⟨bq17, hbq17⟩ : ∃ b_ : Bool, b_ = ((rd_T71 l0 t429).f2) := ⟨_, rfl⟩
                  replace H : (if (bq17 = true) then ((spigotref14_Home.f a1).bind fun t431 => (if 0 ≤ t431 then (if t431 < (l0.length : Int) then (some ((t426 == 1) == (((rd_T71 l0 t431).f0) == a1))) else (none)) else (none))) else (some ((t426 == 1) == true))) = some true := by rw [← hbq17] at H; exact H
                  have Nbq17 := Aside0.mk hbq17
                  (try clear hbq17)
                  by_cases c18 : (bq17 = true)
                  · subst c18
                    have H1 : ((spigotref14_Home.f a1).bind fun t431 => (if 0 ≤ t431 then (if t431 < (l0.length : Int) then (some ((t426 == 1) == (((rd_T71 l0 t431).f0) == a1))) else (none)) else (none))) = some true := by rw [if_pos rfl] at H; exact H
                    clear H
                    have H := H1
                    clear H1
                    replace H := Option.bind_eq_some_iff.mp H
                    obtain ⟨t431, A190, H⟩ := H
                    replace H : (if 0 ≤ t431 then (if t431 < (l0.length : Int) then (some ((t426 == 1) == (((rd_T71 l0 t431).f0) == a1))) else (none)) else (none)) = some true := H
                    have A19 := Aside0.mk A190
                    (try clear A190)
                    by_cases c20 : 0 ≤ t431
                    · rw [if_pos c20] at H
                      have c20b0 : decide (0 ≤ t431) = true := decide_eq_true c20
                      clear c20
                      by_cases c21 : t431 < (l0.length : Int)
                      · rw [if_pos c21] at H
                        have c21b0 : decide (t431 < (l0.length : Int)) = true := decide_eq_true c21
                        clear c21
                        have HRT := Aside0.mk (Option.some.inj H)
                        clear H
                        obtain rfl : t429 = t431 := Option.some.inj (A14.out.symm.trans A19.out)
                        go_enter Try.func12, Try.ntmps12
                        go_wp2_with (first | ((with_reducible refine gate_callee (f := 42) rfl ?_); refine goesE (some 11) rfl rfl Try.func42 (by kernel_rfl) rfl #[] rfl ?_; (with_reducible refine (spigotlaw14_alive.calls k   _ A3.out).mono ?_); rintro e w22 ⟨rfl, hb⟩; refine ⟨_, rfl, ?_⟩; have n0_ := Aside0.mk (below_step (pB HB.out) hb); clear HB; have HB := n0_; clear n0_; (try clear hb); (try clear hb2); (try clear hk); (try clear hi)) | ((with_reducible refine gate_callee (f := 21) rfl ?_); refine goesE (some 13) rfl rfl Try.func21 (by kernel_rfl) rfl #[.slice A0 l0.length c0] rfl ?_; (with_reducible refine (spigotref14_Check.calls k _ _ l0 t423 _ ?side1 ?side2 A5.out).mono ?_); (case side1 => exact Kd.pC ((Kd.C_below HR0.out HB.out))); (case side2 => exact HC0.out); rintro e w' ⟨rfl, ⟨nd, rfl⟩⟩; refine ⟨_, rfl, ?_⟩) | ((with_reducible refine gate_callee (f := 14) rfl ?_); refine goesE (some 23) rfl rfl Try.func14 (by kernel_rfl) rfl #[.slice A0 l0.length c0, .int .u32 a1] rfl ?_; (with_reducible refine (probe_Find.calls k _ _ l0 a1 t424 t425 _ ?side1 ?side2 A7.out).mono ?_); (case side1 => exact Kd.pC ((Kd.C_below HR0.out (pB HB.out)))); (case side2 => exact HC0.out); rintro e w23 ⟨rfl, hb⟩; refine ⟨_, rfl, ?_⟩; have n0_ := Aside0.mk (below_step (pB HB.out) hb); clear HB; have HB := n0_; clear n0_; (try clear hb); (try clear hb2); (try clear hk); (try clear hi)) | ((with_reducible refine gate_callee (f := 16) rfl ?_); refine goesE (some 29) rfl rfl Try.func16 (by kernel_rfl) rfl #[.slice A0 l0.length c0, .int .u32 a1] rfl ?_; (with_reducible refine (probe_Steps.calls k _ _ l0 a1 t426 t427 _ ?side1 ?side2 A8.out).mono ?_); (case side1 => exact Kd.pC ((Kd.C_below HR0.out HB.out))); (case side2 => exact HC0.out); rintro e w24 ⟨rfl, hb⟩; refine ⟨_, rfl, ?_⟩; have n0_ := Aside0.mk (below_step (pB HB.out) hb); clear HB; have HB := n0_; clear n0_; (try clear hb); (try clear hb2); (try clear hk); (try clear hi)) | ((with_reducible refine gate_callee (f := 43) rfl ?_); refine goesE (some 33) rfl rfl Try.func43 (by kernel_rfl) rfl #[.slice A0 l0.length c0] rfl ?_; (with_reducible refine (spigotref14_Count.calls k _ _ l0 t428 _ ?side1 ?side2 A9.out).mono ?_); (case side1 => exact Kd.pC ((Kd.C_below HR0.out HB.out))); (case side2 => exact HC0.out); rintro e w' ⟨rfl, ⟨nd, rfl⟩⟩; refine ⟨_, rfl, ?_⟩) | (go_at_call 19; (with_reducible refine (spigotref14_Home.calls a1 t429 _ A14.out).mono ?_); rintro e w' ⟨rfl, ⟨nd, rfl⟩⟩; have p430 : 0 ≤ (t429 : Int) := od; have q430 : t429 < (l0.length : Int) := od; obtain ⟨ad430, e430, hx430_0, hx430_1, hx430_2⟩ := at_T71 HR0.out t429 p430 q430; (try rw [← Nbq17.out] at hx430_2); cases e430; replace hx430_0 := (HB.out.cell (World.block_lt_of_cell? w _ hx430_0)).trans hx430_0; replace hx430_1 := (HB.out.cell (World.block_lt_of_cell? w _ hx430_1)).trans hx430_1; replace hx430_2 := (HB.out.cell (World.block_lt_of_cell? w _ hx430_2)).trans hx430_2; replace p430 := eq_true p430; replace q430 := eq_true q430) | (go_at_call 19; (with_reducible refine (spigotref14_Home.calls a1 t431 _ A19.out).mono ?_); rintro e w' ⟨rfl, ⟨nd, rfl⟩⟩; have p432 : 0 ≤ (t431 : Int) := od; have q432 : t431 < (l0.length : Int) := od; obtain ⟨ad432, e432, hx432_0, hx432_1, hx432_2⟩ := at_T71 HR0.out t431 p432 q432; (try rw [← Nbq17.out] at hx432_2); obtain rfl : ad430 = ad432 := (by injection e432); replace hx432_0 := (HB.out.cell (World.block_lt_of_cell? w _ hx432_0)).trans hx432_0; replace hx432_1 := (HB.out.cell (World.block_lt_of_cell? w _ hx432_1)).trans hx432_1; replace hx432_2 := (HB.out.cell (World.block_lt_of_cell? w _ hx432_2)).trans hx432_2; replace p432 := eq_true p432; replace q432 := eq_true q432))
                        go_ret
                        exact ⟨by first | rfl | (simp [errW_none, errW_some] <;> rfl) | (simp [*, errW_none, errW_some] <;> rfl) | (rw [HRT.out] <;> rfl) | (simp [HRT.out]; done) | (have h_ := HRT.out; simp [*] at h_ ⊢ <;> first | done | assumption | omega) | (have h_ := HRT.out; simp [*] at h_; done), pB HB.out⟩
                      · rw [if_neg c21] at H
                        exact absurd H (by simp)
                    · rw [if_neg c20] at H
                      exact absurd H (by simp)
                  · replace c18 := Bool.eq_false_iff.mpr c18
                    subst c18
                    have H1 : (some ((t426 == 1) == true)) = some true := by rw [if_neg (show ¬ (false = true) by decide)] at H; exact H
                    clear H
                    have H := H1
                    clear H1
                    have HRT := Aside0.mk (Option.some.inj H)
                    clear H
                    go_enter Try.func12, Try.ntmps12
                    go_wp2_with (first | ((with_reducible refine gate_callee (f := 42) rfl ?_); refine goesE (some 11) rfl rfl Try.func42 (by kernel_rfl) rfl #[] rfl ?_; (with_reducible refine (spigotlaw14_alive.calls k   _ A3.out).mono ?_); rintro e w25 ⟨rfl, hb⟩; refine ⟨_, rfl, ?_⟩; have n0_ := Aside0.mk (below_step (pB HB.out) hb); clear HB; have HB := n0_; clear n0_; (try clear hb); (try clear hb2); (try clear hk); (try clear hi)) | ((with_reducible refine gate_callee (f := 21) rfl ?_); refine goesE (some 13) rfl rfl Try.func21 (by kernel_rfl) rfl #[.slice A0 l0.length c0] rfl ?_; (with_reducible refine (spigotref14_Check.calls k _ _ l0 t423 _ ?side1 ?side2 A5.out).mono ?_); (case side1 => exact Kd.pC ((Kd.C_below HR0.out HB.out))); (case side2 => exact HC0.out); rintro e w' ⟨rfl, ⟨nd, rfl⟩⟩; refine ⟨_, rfl, ?_⟩) | ((with_reducible refine gate_callee (f := 14) rfl ?_); refine goesE (some 23) rfl rfl Try.func14 (by kernel_rfl) rfl #[.slice A0 l0.length c0, .int .u32 a1] rfl ?_; (with_reducible refine (probe_Find.calls k _ _ l0 a1 t424 t425 _ ?side1 ?side2 A7.out).mono ?_); (case side1 => exact Kd.pC ((Kd.C_below HR0.out (pB HB.out)))); (case side2 => exact HC0.out); rintro e w26 ⟨rfl, hb⟩; refine ⟨_, rfl, ?_⟩; have n0_ := Aside0.mk (below_step (pB HB.out) hb); clear HB; have HB := n0_; clear n0_; (try clear hb); (try clear hb2); (try clear hk); (try clear hi)) | ((with_reducible refine gate_callee (f := 16) rfl ?_); refine goesE (some 29) rfl rfl Try.func16 (by kernel_rfl) rfl #[.slice A0 l0.length c0, .int .u32 a1] rfl ?_; (with_reducible refine (probe_Steps.calls k _ _ l0 a1 t426 t427 _ ?side1 ?side2 A8.out).mono ?_); (case side1 => exact Kd.pC ((Kd.C_below HR0.out HB.out))); (case side2 => exact HC0.out); rintro e w27 ⟨rfl, hb⟩; refine ⟨_, rfl, ?_⟩; have n0_ := Aside0.mk (below_step (pB HB.out) hb); clear HB; have HB := n0_; clear n0_; (try clear hb); (try clear hb2); (try clear hk); (try clear hi)) | ((with_reducible refine gate_callee (f := 43) rfl ?_); refine goesE (some 33) rfl rfl Try.func43 (by kernel_rfl) rfl #[.slice A0 l0.length c0] rfl ?_; (with_reducible refine (spigotref14_Count.calls k _ _ l0 t428 _ ?side1 ?side2 A9.out).mono ?_); (case side1 => exact Kd.pC ((Kd.C_below HR0.out HB.out))); (case side2 => exact HC0.out); rintro e w' ⟨rfl, ⟨nd, rfl⟩⟩; refine ⟨_, rfl, ?_⟩) | (go_at_call 19; (with_reducible refine (spigotref14_Home.calls a1 t429 _ A14.out).mono ?_); rintro e w' ⟨rfl, ⟨nd, rfl⟩⟩; have p430 : 0 ≤ (t429 : Int) := od; have q430 : t429 < (l0.length : Int) := od; obtain ⟨ad430, e430, hx430_0, hx430_1, hx430_2⟩ := at_T71 HR0.out t429 p430 q430; (try rw [← Nbq17.out] at hx430_2); cases e430; replace hx430_0 := (HB.out.cell (World.block_lt_of_cell? w _ hx430_0)).trans hx430_0; replace hx430_1 := (HB.out.cell (World.block_lt_of_cell? w _ hx430_1)).trans hx430_1; replace hx430_2 := (HB.out.cell (World.block_lt_of_cell? w _ hx430_2)).trans hx430_2; replace p430 := eq_true p430; replace q430 := eq_true q430))
                    go_ret
                    exact ⟨by first | rfl | (simp [errW_none, errW_some] <;> rfl) | (simp [*, errW_none, errW_some] <;> rfl) | (rw [HRT.out] <;> rfl) | (simp [HRT.out]; done) | (have h_ := HRT.out; simp [*] at h_ ⊢ <;> first | done | assumption | omega) | (have h_ := HRT.out; simp [*] at h_; done), pB HB.out⟩
                · rw [if_neg c16] at H
                  exact absurd H (by simp)
              · rw [if_neg c15] at H
                exact absurd H (by simp)
            · rw [if_neg c13] at H
              have c13b0 : decide (t426 ≤ (wrap64 (t428 + 1))) = false := decide_eq_false c13
              (try clear c13)
              exact absurd H (by simp)
          · rw [if_neg c12] at H
            have c12b0 : decide (1 ≤ t426) = false := decide_eq_false c12
            (try clear c12)
            exact absurd H (by simp)
        · rw [if_neg c11] at H
          have c11b0 : (t427 == 0) = false := beq_eq_false_iff_ne.mpr c11
          have c11b1 : (t427 != 0) = true := bne_iff_ne.mpr c11
          exact absurd H (by simp)
      · rw [if_neg c10] at H
        have c10b0 : (t425 == 6) = false := beq_eq_false_iff_ne.mpr c10
        have c10b1 : (t425 != 6) = true := bne_iff_ne.mpr c10
        by_cases c28 : t427 = 0
        · rw [if_pos c28] at H
          have c28b0 : (t427 == 0) = true := beq_iff_eq.mpr c28
          have c28b1 : (t427 != 0) = false := bne_eq_false_iff_eq.mpr c28
          clear c28
          by_cases c29 : t426 ≥ 1
          · rw [if_pos c29] at H
            have c29b0 : decide (1 ≤ t426) = true := decide_eq_true c29
            clear c29
            by_cases c30 : t426 ≤ t428
            · rw [if_pos c30] at H
              have c30b0 : decide (t426 ≤ t428) = true := decide_eq_true c30
              clear c30
              replace H := Option.bind_eq_some_iff.mp H
              obtain ⟨t433, A310, H⟩ := H
              replace H : (if 0 ≤ t433 then (if t433 < (l0.length : Int) then (if ((rd_T71 l0 t433).f2 = true) then ((spigotref14_Home.f a1).bind fun t435 => (if 0 ≤ t435 then (if t435 < (l0.length : Int) then (some ((t426 == 1) == (((rd_T71 l0 t435).f0) == a1))) else (none)) else (none))) else (some ((t426 == 1) == true))) else (none)) else (none)) = some true := H
              have A31 := Aside0.mk A310
              (try clear A310)
              by_cases c32 : 0 ≤ t433
              · rw [if_pos c32] at H
                have c32b0 : decide (0 ≤ t433) = true := decide_eq_true c32
                clear c32
                by_cases c33 : t433 < (l0.length : Int)
                · rw [if_pos c33] at H
                  have c33b0 : decide (t433 < (l0.length : Int)) = true := decide_eq_true c33
                  clear c33
                  obtain ⟨bq34, hbq34⟩ : ∃ b_ : Bool, b_ = ((rd_T71 l0 t433).f2) := ⟨_, rfl⟩
                  replace H : (if (bq34 = true) then ((spigotref14_Home.f a1).bind fun t435 => (if 0 ≤ t435 then (if t435 < (l0.length : Int) then (some ((t426 == 1) == (((rd_T71 l0 t435).f0) == a1))) else (none)) else (none))) else (some ((t426 == 1) == true))) = some true := by rw [← hbq34] at H; exact H
                  have Nbq34 := Aside0.mk hbq34
                  (try clear hbq34)
                  by_cases c35 : (bq34 = true)
                  · subst c35
                    have H1 : ((spigotref14_Home.f a1).bind fun t435 => (if 0 ≤ t435 then (if t435 < (l0.length : Int) then (some ((t426 == 1) == (((rd_T71 l0 t435).f0) == a1))) else (none)) else (none))) = some true := by rw [if_pos rfl] at H; exact H
                    clear H
                    have H := H1
                    clear H1
                    replace H := Option.bind_eq_some_iff.mp H
                    obtain ⟨t435, A360, H⟩ := H
                    replace H : (if 0 ≤ t435 then (if t435 < (l0.length : Int) then (some ((t426 == 1) == (((rd_T71 l0 t435).f0) == a1))) else (none)) else (none)) = some true := H
                    have A36 := Aside0.mk A360
                    (try clear A360)
                    by_cases c37 : 0 ≤ t435
                    · rw [if_pos c37] at H
                      have c37b0 : decide (0 ≤ t435) = true := decide_eq_true c37
                      clear c37
                      by_cases c38 : t435 < (l0.length : Int)
                      · rw [if_pos c38] at H
                        have c38b0 : decide (t435 < (l0.length : Int)) = true := decide_eq_true c38
                        clear c38
                        have HRT := Aside0.mk (Option.some.inj H)
                        clear H
                        obtain rfl : t433 = t435 := Option.some.inj (A31.out.symm.trans A36.out)
                        go_enter Try.func12, Try.ntmps12
                        go_wp2_with (first | ((with_reducible refine gate_callee (f := 42) rfl ?_); refine goesE (some 11) rfl rfl Try.func42 (by kernel_rfl) rfl #[] rfl ?_; (with_reducible refine (spigotlaw14_alive.calls k   _ A3.out).mono ?_); rintro e w39 ⟨rfl, hb⟩; refine ⟨_, rfl, ?_⟩; have n0_ := Aside0.mk (below_step (pB HB.out) hb); clear HB; have HB := n0_; clear n0_; (try clear hb); (try clear hb2); (try clear hk); (try clear hi)) | ((with_reducible refine gate_callee (f := 21) rfl ?_); refine goesE (some 13) rfl rfl Try.func21 (by kernel_rfl) rfl #[.slice A0 l0.length c0] rfl ?_; (with_reducible refine (spigotref14_Check.calls k _ _ l0 t423 _ ?side1 ?side2 A5.out).mono ?_); (case side1 => exact Kd.pC ((Kd.C_below HR0.out HB.out))); (case side2 => exact HC0.out); rintro e w' ⟨rfl, ⟨nd, rfl⟩⟩; refine ⟨_, rfl, ?_⟩) | ((with_reducible refine gate_callee (f := 14) rfl ?_); refine goesE (some 23) rfl rfl Try.func14 (by kernel_rfl) rfl #[.slice A0 l0.length c0, .int .u32 a1] rfl ?_; (with_reducible refine (probe_Find.calls k _ _ l0 a1 t424 t425 _ ?side1 ?side2 A7.out).mono ?_); (case side1 => exact Kd.pC ((Kd.C_below HR0.out (pB HB.out)))); (case side2 => exact HC0.out); rintro e w40 ⟨rfl, hb⟩; refine ⟨_, rfl, ?_⟩; have n0_ := Aside0.mk (below_step (pB HB.out) hb); clear HB; have HB := n0_; clear n0_; (try clear hb); (try clear hb2); (try clear hk); (try clear hi)) | ((with_reducible refine gate_callee (f := 16) rfl ?_); refine goesE (some 29) rfl rfl Try.func16 (by kernel_rfl) rfl #[.slice A0 l0.length c0, .int .u32 a1] rfl ?_; (with_reducible refine (probe_Steps.calls k _ _ l0 a1 t426 t427 _ ?side1 ?side2 A8.out).mono ?_); (case side1 => exact Kd.pC ((Kd.C_below HR0.out HB.out))); (case side2 => exact HC0.out); rintro e w41 ⟨rfl, hb⟩; refine ⟨_, rfl, ?_⟩; have n0_ := Aside0.mk (below_step (pB HB.out) hb); clear HB; have HB := n0_; clear n0_; (try clear hb); (try clear hb2); (try clear hk); (try clear hi)) | ((with_reducible refine gate_callee (f := 43) rfl ?_); refine goesE (some 33) rfl rfl Try.func43 (by kernel_rfl) rfl #[.slice A0 l0.length c0] rfl ?_; (with_reducible refine (spigotref14_Count.calls k _ _ l0 t428 _ ?side1 ?side2 A9.out).mono ?_); (case side1 => exact Kd.pC ((Kd.C_below HR0.out HB.out))); (case side2 => exact HC0.out); rintro e w' ⟨rfl, ⟨nd, rfl⟩⟩; refine ⟨_, rfl, ?_⟩) | (go_at_call 19; (with_reducible refine (spigotref14_Home.calls a1 t433 _ A31.out).mono ?_); rintro e w' ⟨rfl, ⟨nd, rfl⟩⟩; have p434 : 0 ≤ (t433 : Int) := od; have q434 : t433 < (l0.length : Int) := od; obtain ⟨ad434, e434, hx434_0, hx434_1, hx434_2⟩ := at_T71 HR0.out t433 p434 q434; (try rw [← Nbq34.out] at hx434_2); cases e434; replace hx434_0 := (HB.out.cell (World.block_lt_of_cell? w _ hx434_0)).trans hx434_0; replace hx434_1 := (HB.out.cell (World.block_lt_of_cell? w _ hx434_1)).trans hx434_1; replace hx434_2 := (HB.out.cell (World.block_lt_of_cell? w _ hx434_2)).trans hx434_2; replace p434 := eq_true p434; replace q434 := eq_true q434) | (go_at_call 19; (with_reducible refine (spigotref14_Home.calls a1 t435 _ A36.out).mono ?_); rintro e w' ⟨rfl, ⟨nd, rfl⟩⟩; have p436 : 0 ≤ (t435 : Int) := od; have q436 : t435 < (l0.length : Int) := od; obtain ⟨ad436, e436, hx436_0, hx436_1, hx436_2⟩ := at_T71 HR0.out t435 p436 q436; (try rw [← Nbq34.out] at hx436_2); obtain rfl : ad434 = ad436 := (by injection e436); replace hx436_0 := (HB.out.cell (World.block_lt_of_cell? w _ hx436_0)).trans hx436_0; replace hx436_1 := (HB.out.cell (World.block_lt_of_cell? w _ hx436_1)).trans hx436_1; replace hx436_2 := (HB.out.cell (World.block_lt_of_cell? w _ hx436_2)).trans hx436_2; replace p436 := eq_true p436; replace q436 := eq_true q436))
                        go_ret
                        exact ⟨by first | rfl | (simp [errW_none, errW_some] <;> rfl) | (simp [*, errW_none, errW_some] <;> rfl) | (rw [HRT.out] <;> rfl) | (simp [HRT.out]; done) | (have h_ := HRT.out; simp [*] at h_ ⊢ <;> first | done | assumption | omega) | (have h_ := HRT.out; simp [*] at h_; done), pB HB.out⟩
                      · rw [if_neg c38] at H
                        exact absurd H (by simp)
                    · rw [if_neg c37] at H
                      exact absurd H (by simp)
                  · replace c35 := Bool.eq_false_iff.mpr c35
                    subst c35
                    have H1 : (some ((t426 == 1) == true)) = some true := by rw [if_neg (show ¬ (false = true) by decide)] at H; exact H
                    clear H
                    have H := H1
                    clear H1
                    have HRT := Aside0.mk (Option.some.inj H)
                    clear H
                    go_enter Try.func12, Try.ntmps12
                    go_wp2_with (first | ((with_reducible refine gate_callee (f := 42) rfl ?_); refine goesE (some 11) rfl rfl Try.func42 (by kernel_rfl) rfl #[] rfl ?_; (with_reducible refine (spigotlaw14_alive.calls k   _ A3.out).mono ?_); rintro e w42 ⟨rfl, hb⟩; refine ⟨_, rfl, ?_⟩; have n0_ := Aside0.mk (below_step (pB HB.out) hb); clear HB; have HB := n0_; clear n0_; (try clear hb); (try clear hb2); (try clear hk); (try clear hi)) | ((with_reducible refine gate_callee (f := 21) rfl ?_); refine goesE (some 13) rfl rfl Try.func21 (by kernel_rfl) rfl #[.slice A0 l0.length c0] rfl ?_; (with_reducible refine (spigotref14_Check.calls k _ _ l0 t423 _ ?side1 ?side2 A5.out).mono ?_); (case side1 => exact Kd.pC ((Kd.C_below HR0.out HB.out))); (case side2 => exact HC0.out); rintro e w' ⟨rfl, ⟨nd, rfl⟩⟩; refine ⟨_, rfl, ?_⟩) | ((with_reducible refine gate_callee (f := 14) rfl ?_); refine goesE (some 23) rfl rfl Try.func14 (by kernel_rfl) rfl #[.slice A0 l0.length c0, .int .u32 a1] rfl ?_; (with_reducible refine (probe_Find.calls k _ _ l0 a1 t424 t425 _ ?side1 ?side2 A7.out).mono ?_); (case side1 => exact Kd.pC ((Kd.C_below HR0.out (pB HB.out)))); (case side2 => exact HC0.out); rintro e w43 ⟨rfl, hb⟩; refine ⟨_, rfl, ?_⟩; have n0_ := Aside0.mk (below_step (pB HB.out) hb); clear HB; have HB := n0_; clear n0_; (try clear hb); (try clear hb2); (try clear hk); (try clear hi)) | ((with_reducible refine gate_callee (f := 16) rfl ?_); refine goesE (some 29) rfl rfl Try.func16 (by kernel_rfl) rfl #[.slice A0 l0.length c0, .int .u32 a1] rfl ?_; (with_reducible refine (probe_Steps.calls k _ _ l0 a1 t426 t427 _ ?side1 ?side2 A8.out).mono ?_); (case side1 => exact Kd.pC ((Kd.C_below HR0.out HB.out))); (case side2 => exact HC0.out); rintro e w44 ⟨rfl, hb⟩; refine ⟨_, rfl, ?_⟩; have n0_ := Aside0.mk (below_step (pB HB.out) hb); clear HB; have HB := n0_; clear n0_; (try clear hb); (try clear hb2); (try clear hk); (try clear hi)) | ((with_reducible refine gate_callee (f := 43) rfl ?_); refine goesE (some 33) rfl rfl Try.func43 (by kernel_rfl) rfl #[.slice A0 l0.length c0] rfl ?_; (with_reducible refine (spigotref14_Count.calls k _ _ l0 t428 _ ?side1 ?side2 A9.out).mono ?_); (case side1 => exact Kd.pC ((Kd.C_below HR0.out HB.out))); (case side2 => exact HC0.out); rintro e w' ⟨rfl, ⟨nd, rfl⟩⟩; refine ⟨_, rfl, ?_⟩) | (go_at_call 19; (with_reducible refine (spigotref14_Home.calls a1 t433 _ A31.out).mono ?_); rintro e w' ⟨rfl, ⟨nd, rfl⟩⟩; have p434 : 0 ≤ (t433 : Int) := od; have q434 : t433 < (l0.length : Int) := od; obtain ⟨ad434, e434, hx434_0, hx434_1, hx434_2⟩ := at_T71 HR0.out t433 p434 q434; (try rw [← Nbq34.out] at hx434_2); cases e434; replace hx434_0 := (HB.out.cell (World.block_lt_of_cell? w _ hx434_0)).trans hx434_0; replace hx434_1 := (HB.out.cell (World.block_lt_of_cell? w _ hx434_1)).trans hx434_1; replace hx434_2 := (HB.out.cell (World.block_lt_of_cell? w _ hx434_2)).trans hx434_2; replace p434 := eq_true p434; replace q434 := eq_true q434))
                    go_ret
                    exact ⟨by first | rfl | (simp [errW_none, errW_some] <;> rfl) | (simp [*, errW_none, errW_some] <;> rfl) | (rw [HRT.out] <;> rfl) | (simp [HRT.out]; done) | (have h_ := HRT.out; simp [*] at h_ ⊢ <;> first | done | assumption | omega) | (have h_ := HRT.out; simp [*] at h_; done), pB HB.out⟩
                · rw [if_neg c33] at H
                  exact absurd H (by simp)
              · rw [if_neg c32] at H
                exact absurd H (by simp)
            · rw [if_neg c30] at H
              have c30b0 : decide (t426 ≤ t428) = false := decide_eq_false c30
              (try clear c30)
              exact absurd H (by simp)
          · rw [if_neg c29] at H
            have c29b0 : decide (1 ≤ t426) = false := decide_eq_false c29
            (try clear c29)
            exact absurd H (by simp)
        · rw [if_neg c28] at H
          have c28b0 : (t427 == 0) = false := beq_eq_false_iff_ne.mpr c28
          have c28b1 : (t427 != 0) = true := bne_iff_ne.mpr c28
          exact absurd H (by simp)
    · rw [if_neg c6] at H
      have c6b0 : (t423 == 0) = false := beq_eq_false_iff_ne.mpr c6
      have c6b1 : (t423 != 0) = true := bne_iff_ne.mpr c6
      clear H
      go_enter Try.func12, Try.ntmps12
      go_wp2_with (first | ((with_reducible refine gate_callee (f := 42) rfl ?_); refine goesE (some 11) rfl rfl Try.func42 (by kernel_rfl) rfl #[] rfl ?_; (with_reducible refine (spigotlaw14_alive.calls k   _ A3.out).mono ?_); rintro e w45 ⟨rfl, hb⟩; refine ⟨_, rfl, ?_⟩; have n0_ := Aside0.mk (below_step (pB HB.out) hb); clear HB; have HB := n0_; clear n0_; (try clear hb); (try clear hb2); (try clear hk); (try clear hi)) | ((with_reducible refine gate_callee (f := 21) rfl ?_); refine goesE (some 13) rfl rfl Try.func21 (by kernel_rfl) rfl #[.slice A0 l0.length c0] rfl ?_; (with_reducible refine (spigotref14_Check.calls k _ _ l0 t423 _ ?side1 ?side2 A5.out).mono ?_); (case side1 => exact Kd.pC ((Kd.C_below HR0.out HB.out))); (case side2 => exact HC0.out); rintro e w' ⟨rfl, ⟨nd, rfl⟩⟩; refine ⟨_, rfl, ?_⟩))
      go_ret
      exact ⟨by first | rfl | (simp [errW_none, errW_some] <;> rfl) | (simp [*, errW_none, errW_some] <;> rfl), pB HB.out⟩
  · replace c4 := Bool.eq_false_iff.mpr c4
    subst c4
    have H1 : (none) = some true := by rw [if_neg (show ¬ (false = true) by decide)] at H; exact H
    clear H
    have H := H1
    clear H1
    exact absurd H (by simp)

/-- THE ONE PURE STATEMENT of spigotlaw14_ProbeSteps. -/
def spigotlaw14_ProbeSteps.Pure : Prop := ∀ (l0 : List (S71)) (a1 : Int), ((∀ x ∈ l0, ((Lit.int .u32 x.f0).wf = true) ∧ ((Lit.int .i64 x.f1).wf = true) ∧ (True)) ∧ l0.length ≤ maxLen) → ((Lit.int .u32 a1).wf = true) → ∃ k, spigotlaw14_ProbeSteps.f k l0 a1 = some true

end Go.Proofs.Ytlgfopdindklnaa.PProbe
