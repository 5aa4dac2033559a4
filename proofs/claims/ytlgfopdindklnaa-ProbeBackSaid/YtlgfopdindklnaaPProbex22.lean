-- printed by a program of this session (a turned copy of the kit's print); Lean checks it
import Derived.Test.YtlgfopdindklnaaPProbex0
import Derived.Test.YtlgfopdindklnaaPProbex4
import Derived.Test.YtlgfopdindklnaaPProbex5
import Derived.Test.YtlgfopdindklnaaPProbex6
import Derived.Test.YtlgfopdindklnaaPProbex10
import Derived.Test.YtlgfopdindklnaaPProbex12
import Derived.Test.YtlgfopdindklnaaPProbex17
import Derived.Test.YtlgfopdindklnaaPProbex21
namespace Go.Proofs.Ytlgfopdindklnaa.PProbe
open Go.RowKit Go.Proofs.YtlgfopdindklnaaW.PrintWords Go.Proofs.YtlgfopdindklnaaW.PrintLast Go.Proofs.YtlgfopdindklnaaW.PrintMore
attribute [local go_sem] max2_int min2_int max_two min_two max_three min_three max_four min_four   -- for this text's walks alone
set_option linter.unusedVariables false
set_option linter.unusedSimpArgs false

/-! ### spigotlaw14_ProbeBack: function 13 -/
def spigotlaw14_ProbeBack.f (k : Nat) (l0 : List (S71)) (a1 : Int) (a2 : Int) (a3 : Int) : Option (Bool) := (spigotlaw14_alive.f k).bind fun t444 => (if t444 = true then ((spigotref14_Check.f k l0).bind fun t445 => (if t445 = 0 then ((probe_Put.f k l0 a1 a3).bind fun bt446 => (if bt446.2 = 0 then ((probe_Drop.f k bt446.1 a1).bind fun bt450 => (if bt450.2 = 0 then ((spigotlaw14_alike.f k l0 bt450.1).bind fun t454 => (if t454 = true then ((spigotref14_Check.f k bt446.1).bind fun t455 => (if t455 = 0 then ((probe_Drop.f k l0 a1).bind fun bt456 => (if bt456.2 = 0 then ((probe_Find.f k l0 a2).bind fun bt460 => ((probe_Find.f k bt456.1 a2).bind fun bt462 => ((spigotref14_Check.f k bt456.1).bind fun t464 => (if t464 = 0 then ((spigotref14_At.f k bt456.1 a1).bind fun t465 => (if t465 < 0 then (if a2 = a1 then (if bt462.2 = 6 then (some true) else (some false)) else (if bt460.1 = bt462.1 then (some (bt460.2 == bt462.2)) else (some false))) else (some false))) else (some false))))) else (some (bt456.2 == 6)))) else (some false))) else (some false))) else (some false))) else ((probe_Drop.f k l0 a1).bind fun bt466 => (if bt466.2 = 0 then ((probe_Find.f k l0 a2).bind fun bt470 => ((probe_Find.f k bt466.1 a2).bind fun bt472 => ((spigotref14_Check.f k bt466.1).bind fun t474 => (if t474 = 0 then ((spigotref14_At.f k bt466.1 a1).bind fun t475 => (if t475 < 0 then (if a2 = a1 then (if bt472.2 = 6 then (some true) else (some false)) else (if bt470.1 = bt472.1 then (some (bt470.2 == bt472.2)) else (some false))) else (some false))) else (some false))))) else (some (bt466.2 == 6)))))) else (some t444))) else (none))
theorem spigotlaw14_ProbeBack.mono : ∀ a0 a1 a2 a3 k, LeO (spigotlaw14_ProbeBack.f k a0 a1 a2 a3) (spigotlaw14_ProbeBack.f (k + 1) a0 a1 a2 a3) := by
  intro a0 a1 a2 a3 k
  unfold spigotlaw14_ProbeBack.f
  repeat' first
      | (with_reducible exact probe_Drop.mono _ _ _)
      | (with_reducible exact probe_Find.mono _ _ _)
      | (with_reducible exact probe_Put.mono _ _ _ _)
      | (with_reducible exact spigotlaw14_alike.mono _ _ _)
      | (with_reducible exact spigotlaw14_alive.mono _)
      | (with_reducible exact spigotref14_At.mono _ _ _)
      | (with_reducible exact spigotref14_Check.mono _ _)
      | (with_reducible exact LeO.refl _)
      | (with_reducible exact LeO.none _)
      | (with_reducible refine LeO.ite ?_ ?_)
      | (with_reducible refine LeO.bind ?_ (fun _ => ?_))
      | exact probe_Drop.mono _ _ _
      | exact probe_Find.mono _ _ _
      | exact probe_Put.mono _ _ _ _
      | exact spigotlaw14_alike.mono _ _ _
      | exact spigotlaw14_alive.mono _
      | exact spigotref14_At.mono _ _ _
      | exact spigotref14_Check.mono _ _
      | exact LeO.none _
      | refine LeO.ite ?_ ?_
      | refine LeO.bind ?_ (fun _ => ?_)
set_option maxHeartbeats 8000000 in
set_option maxRecDepth 100000 in
theorem spigotlaw14_ProbeBack.calls (k : Nat) (A0 : Option Addr) (c0 : Nat) (l0 : List (S71)) (a1 : Int) (a2 : Int) (a3 : Int) (w : World) (hr0 : Kd.C k71 w A0 l0.length l0) (hc0 : l0.length ≤ c0) (h : spigotlaw14_ProbeBack.f k l0 a1 a2 a3 = some true) :
    Calls Try.prog 13 #[.slice A0 l0.length c0, .int .u32 a1, .int .u32 a2, .int .i64 a3] w fun e w' => e = .returned (.bool true) ∧ Below w.heap.size w w' := by
  have HR0 := Aside0.mk hr0
  have HC0 := Aside0.mk hc0
  clear hr0 hc0
  have HB := Aside0.mk (Below.refl w.heap.size w)
  have H : ((spigotlaw14_alive.f k).bind fun t444 => (if t444 = true then ((spigotref14_Check.f k l0).bind fun t445 => (if t445 = 0 then ((probe_Put.f k l0 a1 a3).bind fun bt446 => (if bt446.2 = 0 then ((probe_Drop.f k bt446.1 a1).bind fun bt450 => (if bt450.2 = 0 then ((spigotlaw14_alike.f k l0 bt450.1).bind fun t454 => (if t454 = true then ((spigotref14_Check.f k bt446.1).bind fun t455 => (if t455 = 0 then ((probe_Drop.f k l0 a1).bind fun bt456 => (if bt456.2 = 0 then ((probe_Find.f k l0 a2).bind fun bt460 => ((probe_Find.f k bt456.1 a2).bind fun bt462 => ((spigotref14_Check.f k bt456.1).bind fun t464 => (if t464 = 0 then ((spigotref14_At.f k bt456.1 a1).bind fun t465 => (if t465 < 0 then (if a2 = a1 then (if bt462.2 = 6 then (some true) else (some false)) else (if bt460.1 = bt462.1 then (some (bt460.2 == bt462.2)) else (some false))) else (some false))) else (some false))))) else (some (bt456.2 == 6)))) else (some false))) else (some false))) else (some false))) else ((probe_Drop.f k l0 a1).bind fun bt466 => (if bt466.2 = 0 then ((probe_Find.f k l0 a2).bind fun bt470 => ((probe_Find.f k bt466.1 a2).bind fun bt472 => ((spigotref14_Check.f k bt466.1).bind fun t474 => (if t474 = 0 then ((spigotref14_At.f k bt466.1 a1).bind fun t475 => (if t475 < 0 then (if a2 = a1 then (if bt472.2 = 6 then (some true) else (some false)) else (if bt470.1 = bt472.1 then (some (bt470.2 == bt472.2)) else (some false))) else (some false))) else (some false))))) else (some (bt466.2 == 6)))))) else (some t444))) else (none))) = some true := h
  (try clear h)
  replace H := Option.bind_eq_some_iff.mp H
  obtain ⟨t444, A50, H⟩ := H
  replace H : (if t444 = true then ((spigotref14_Check.f k l0).bind fun t445 => (if t445 = 0 then ((probe_Put.f k l0 a1 a3).bind fun bt446 => (if bt446.2 = 0 then ((probe_Drop.f k bt446.1 a1).bind fun bt450 => (if bt450.2 = 0 then ((spigotlaw14_alike.f k l0 bt450.1).bind fun t454 => (if t454 = true then ((spigotref14_Check.f k bt446.1).bind fun t455 => (if t455 = 0 then ((probe_Drop.f k l0 a1).bind fun bt456 => (if bt456.2 = 0 then ((probe_Find.f k l0 a2).bind fun bt460 => ((probe_Find.f k bt456.1 a2).bind fun bt462 => ((spigotref14_Check.f k bt456.1).bind fun t464 => (if t464 = 0 then ((spigotref14_At.f k bt456.1 a1).bind fun t465 => (if t465 < 0 then (if a2 = a1 then (if bt462.2 = 6 then (some true) else (some false)) else (if bt460.1 = bt462.1 then (some (bt460.2 == bt462.2)) else (some false))) else (some false))) else (some false))))) else (some (bt456.2 == 6)))) else (some false))) else (some false))) else (some false))) else ((probe_Drop.f k l0 a1).bind fun bt466 => (if bt466.2 = 0 then ((probe_Find.f k l0 a2).bind fun bt470 => ((probe_Find.f k bt466.1 a2).bind fun bt472 => ((spigotref14_Check.f k bt466.1).bind fun t474 => (if t474 = 0 then ((spigotref14_At.f k bt466.1 a1).bind fun t475 => (if t475 < 0 then (if a2 = a1 then (if bt472.2 = 6 then (some true) else (some false)) else (if bt470.1 = bt472.1 then (some (bt470.2 == bt472.2)) else (some false))) else (some false))) else (some false))))) else (some (bt466.2 == 6)))))) else (some t444))) else (none)) = some true := H
  have A5 := Aside0.mk A50
  (try clear A50)
  by_cases c6 : t444 = true
  · subst c6
    have H1 : ((spigotref14_Check.f k l0).bind fun t445 => (if t445 = 0 then ((probe_Put.f k l0 a1 a3).bind fun bt446 => (if bt446.2 = 0 then ((probe_Drop.f k bt446.1 a1).bind fun bt450 => (if bt450.2 = 0 then ((spigotlaw14_alike.f k l0 bt450.1).bind fun t454 => (if t454 = true then ((spigotref14_Check.f k bt446.1).bind fun t455 => (if t455 = 0 then ((probe_Drop.f k l0 a1).bind fun bt456 => (if bt456.2 = 0 then ((probe_Find.f k l0 a2).bind fun bt460 => ((probe_Find.f k bt456.1 a2).bind fun bt462 => ((spigotref14_Check.f k bt456.1).bind fun t464 => (if t464 = 0 then ((spigotref14_At.f k bt456.1 a1).bind fun t465 => (if t465 < 0 then (if a2 = a1 then (if bt462.2 = 6 then (some true) else (some false)) else (if bt460.1 = bt462.1 then (some (bt460.2 == bt462.2)) else (some false))) else (some false))) else (some false))))) else (some (bt456.2 == 6)))) else (some false))) else (some false))) else (some false))) else ((probe_Drop.f k l0 a1).bind fun bt466 => (if bt466.2 = 0 then ((probe_Find.f k l0 a2).bind fun bt470 => ((probe_Find.f k bt466.1 a2).bind fun bt472 => ((spigotref14_Check.f k bt466.1).bind fun t474 => (if t474 = 0 then ((spigotref14_At.f k bt466.1 a1).bind fun t475 => (if t475 < 0 then (if a2 = a1 then (if bt472.2 = 6 then (some true) else (some false)) else (if bt470.1 = bt472.1 then (some (bt470.2 == bt472.2)) else (some false))) else (some false))) else (some false))))) else (some (bt466.2 == 6)))))) else (some true))) = some true := by rw [if_pos rfl] at H; exact H
    clear H
    have H := H1
    clear H1
    replace H := Option.bind_eq_some_iff.mp H
    obtain ⟨t445, A70, H⟩ := H
    replace H : (if t445 = 0 then ((probe_Put.f k l0 a1 a3).bind fun bt446 => (if bt446.2 = 0 then ((probe_Drop.f k bt446.1 a1).bind fun bt450 => (if bt450.2 = 0 then ((spigotlaw14_alike.f k l0 bt450.1).bind fun t454 => (if t454 = true then ((spigotref14_Check.f k bt446.1).bind fun t455 => (if t455 = 0 then ((probe_Drop.f k l0 a1).bind fun bt456 => (if bt456.2 = 0 then ((probe_Find.f k l0 a2).bind fun bt460 => ((probe_Find.f k bt456.1 a2).bind fun bt462 => ((spigotref14_Check.f k bt456.1).bind fun t464 => (if t464 = 0 then ((spigotref14_At.f k bt456.1 a1).bind fun t465 => (if t465 < 0 then (if a2 = a1 then (if bt462.2 = 6 then (some true) else (some false)) else (if bt460.1 = bt462.1 then (some (bt460.2 == bt462.2)) else (some false))) else (some false))) else (some false))))) else (some (bt456.2 == 6)))) else (some false))) else (some false))) else (some false))) else ((probe_Drop.f k l0 a1).bind fun bt466 => (if bt466.2 = 0 then ((probe_Find.f k l0 a2).bind fun bt470 => ((probe_Find.f k bt466.1 a2).bind fun bt472 => ((spigotref14_Check.f k bt466.1).bind fun t474 => (if t474 = 0 then ((spigotref14_At.f k bt466.1 a1).bind fun t475 => (if t475 < 0 then (if a2 = a1 then (if bt472.2 = 6 then (some true) else (some false)) else (if bt470.1 = bt472.1 then (some (bt470.2 == bt472.2)) else (some false))) else (some false))) else (some false))))) else (some (bt466.2 == 6)))))) else (some true)) = some true := H
    have A7 := Aside0.mk A70
    (try clear A70)
    by_cases c8 : t445 = 0
    · rw [if_pos c8] at H
      have c8b0 : (t445 == 0) = true := beq_iff_eq.mpr c8
      have c8b1 : (t445 != 0) = false := bne_eq_false_iff_eq.mpr c8
      clear c8
      replace H := Option.bind_eq_some_iff.mp H
      obtain ⟨⟨t446, t447⟩, A90, H⟩ := H
      replace H : (if t447 = 0 then ((probe_Drop.f k t446 a1).bind fun bt450 => (if bt450.2 = 0 then ((spigotlaw14_alike.f k l0 bt450.1).bind fun t454 => (if t454 = true then ((spigotref14_Check.f k t446).bind fun t455 => (if t455 = 0 then ((probe_Drop.f k l0 a1).bind fun bt456 => (if bt456.2 = 0 then ((probe_Find.f k l0 a2).bind fun bt460 => ((probe_Find.f k bt456.1 a2).bind fun bt462 => ((spigotref14_Check.f k bt456.1).bind fun t464 => (if t464 = 0 then ((spigotref14_At.f k bt456.1 a1).bind fun t465 => (if t465 < 0 then (if a2 = a1 then (if bt462.2 = 6 then (some true) else (some false)) else (if bt460.1 = bt462.1 then (some (bt460.2 == bt462.2)) else (some false))) else (some false))) else (some false))))) else (some (bt456.2 == 6)))) else (some false))) else (some false))) else (some false))) else ((probe_Drop.f k l0 a1).bind fun bt466 => (if bt466.2 = 0 then ((probe_Find.f k l0 a2).bind fun bt470 => ((probe_Find.f k bt466.1 a2).bind fun bt472 => ((spigotref14_Check.f k bt466.1).bind fun t474 => (if t474 = 0 then ((spigotref14_At.f k bt466.1 a1).bind fun t475 => (if t475 < 0 then (if a2 = a1 then (if bt472.2 = 6 then (some true) else (some false)) else (if bt470.1 = bt472.1 then (some (bt470.2 == bt472.2)) else (some false))) else (some false))) else (some false))))) else (some (bt466.2 == 6))))) = some true := H
      have A9 := Aside0.mk A90
      (try clear A90)
      by_cases c10 : t447 = 0
      · rw [if_pos c10] at H
        have c10b0 : (t447 == 0) = true := beq_iff_eq.mpr c10
        have c10b1 : (t447 != 0) = false := bne_eq_false_iff_eq.mpr c10
        clear c10
        replace H := Option.bind_eq_some_iff.mp H
        obtain ⟨⟨t450, t451⟩, A110, H⟩ := H
        replace H : (if t451 = 0 then ((spigotlaw14_alike.f k l0 t450).bind fun t454 => (if t454 = true then ((spigotref14_Check.f k t446).bind fun t455 => (if t455 = 0 then ((probe_Drop.f k l0 a1).bind fun bt456 => (if bt456.2 = 0 then ((probe_Find.f k l0 a2).bind fun bt460 => ((probe_Find.f k bt456.1 a2).bind fun bt462 => ((spigotref14_Check.f k bt456.1).bind fun t464 => (if t464 = 0 then ((spigotref14_At.f k bt456.1 a1).bind fun t465 => (if t465 < 0 then (if a2 = a1 then (if bt462.2 = 6 then (some true) else (some false)) else (if bt460.1 = bt462.1 then (some (bt460.2 == bt462.2)) else (some false))) else (some false))) else (some false))))) else (some (bt456.2 == 6)))) else (some false))) else (some false))) else (some false)) = some true := H
        have A11 := Aside0.mk A110
        (try clear A110)
        by_cases c12 : t451 = 0
        · rw [if_pos c12] at H
          have c12b0 : (t451 == 0) = true := beq_iff_eq.mpr c12
          have c12b1 : (t451 != 0) = false := bne_eq_false_iff_eq.mpr c12
          clear c12
          replace H := Option.bind_eq_some_iff.mp H
          obtain ⟨t454, A130, H⟩ := H
          replace H : (if t454 = true then ((spigotref14_Check.f k t446).bind fun t455 => (if t455 = 0 then ((probe_Drop.f k l0 a1).bind fun bt456 => (if bt456.2 = 0 then ((probe_Find.f k l0 a2).bind fun bt460 => ((probe_Find.f k bt456.1 a2).bind fun bt462 => ((spigotref14_Check.f k bt456.1).bind fun t464 => (if t464 = 0 then ((spigotref14_At.f k bt456.1 a1).bind fun t465 => (if t465 < 0 then (if a2 = a1 then (if bt462.2 = 6 then (some true) else (some false)) else (if bt460.1 = bt462.1 then (some (bt460.2 == bt462.2)) else (some false))) else (some false))) else (some false))))) else (some (bt456.2 == 6)))) else (some false))) else (some false)) = some true := H
          have A13 := Aside0.mk A130
          (try clear A130)
          by_cases c14 : t454 = true
          · subst c14
            have H1 : ((spigotref14_Check.f k t446).bind fun t455 => (if t455 = 0 then ((probe_Drop.f k l0 a1).bind fun bt456 => (if bt456.2 = 0 then ((probe_Find.f k l0 a2).bind fun bt460 => ((probe_Find.f k bt456.1 a2).bind fun bt462 => ((spigotref14_Check.f k bt456.1).bind fun t464 => (if t464 = 0 then ((spigotref14_At.f k bt456.1 a1).bind fun t465 => (if t465 < 0 then (if a2 = a1 then (if bt462.2 = 6 then (some true) else (some false)) else (if bt460.1 = bt462.1 then (some (bt460.2 == bt462.2)) else (some false))) else (some false))) else (some false))))) else (some (bt456.2 == 6)))) else (some false))) = some true := by rw [if_pos rfl] at H; exact H
            clear H
            have H := H1
            clear H1
            replace H := Option.bind_eq_some_iff.mp H
            obtain ⟨t455, A150, H⟩ := H
            replace H : (if t455 = 0 then ((probe_Drop.f k l0 a1).bind fun bt456 => (if bt456.2 = 0 then ((probe_Find.f k l0 a2).bind fun bt460 => ((probe_Find.f k bt456.1 a2).bind fun bt462 => ((spigotref14_Check.f k bt456.1).bind fun t464 => (if t464 = 0 then ((spigotref14_At.f k bt456.1 a1).bind fun t465 => (if t465 < 0 then (if a2 = a1 then (if bt462.2 = 6 then (some true) else (some false)) else (if bt460.1 = bt462.1 then (some (bt460.2 == bt462.2)) else (some false))) else (some false))) else (some false))))) else (some (bt456.2 == 6)))) else (some false)) = some true := H
            have A15 := Aside0.mk A150
            (try clear A150)
            by_cases c16 : t455 = 0
            · rw [if_pos c16] at H
              have c16b0 : (t455 == 0) = true := beq_iff_eq.mpr c16
              have c16b1 : (t455 != 0) = false := bne_eq_false_iff_eq.mpr c16
              clear c16
              replace H := Option.bind_eq_some_iff.mp H
              obtain ⟨⟨t456, t457⟩, A170, H⟩ := H
              replace H : (if t457 = 0 then ((probe_Find.f k l0 a2).bind fun bt460 => ((probe_Find.f k t456 a2).bind fun bt462 => ((spigotref14_Check.f k t456).bind fun t464 => (if t464 = 0 then ((spigotref14_At.f k t456 a1).bind fun t465 => (if t465 < 0 then (if a2 = a1 then (if bt462.2 = 6 then (some true) else (some false)) else (if bt460.1 = bt462.1 then (some (bt460.2 == bt462.2)) else (some false))) else (some false))) else (some false))))) else (some (t457 == 6))) = some true := H
              have A17 := Aside0.mk A170
              (try clear A170)
              by_cases c18 : t457 = 0
              · rw [if_pos c18] at H
                have c18b0 : (t457 == 0) = true := beq_iff_eq.mpr c18
                have c18b1 : (t457 != 0) = false := bne_eq_false_iff_eq.mpr c18
                clear c18
                replace H := Option.bind_eq_some_iff.mp H
                obtain ⟨⟨t460, t461⟩, A190, H⟩ := H
                replace H : ((probe_Find.f k t456 a2).bind fun bt462 => ((spigotref14_Check.f k t456).bind fun t464 => (if t464 = 0 then ((spigotref14_At.f k t456 a1).bind fun t465 => (if t465 < 0 then (if a2 = a1 then (if bt462.2 = 6 then (some true) else (some false)) else (if t460 = bt462.1 then (some (t461 == bt462.2)) else (some false))) else (some false))) else (some false)))) = some true := H
                have A19 := Aside0.mk A190
                (try clear A190)
                replace H := Option.bind_eq_some_iff.mp H
                obtain ⟨⟨t462, t463⟩, A200, H⟩ := H
                replace H : ((spigotref14_Check.f k t456).bind fun t464 => (if t464 = 0 then ((spigotref14_At.f k t456 a1).bind fun t465 => (if t465 < 0 then (if a2 = a1 then (if t463 = 6 then (some true) else (some false)) else (if t460 = t462 then (some (t461 == t463)) else (some false))) else (some false))) else (some false))) = some true := H
                have A20 := Aside0.mk A200
                (try clear A200)
                replace H := Option.bind_eq_some_iff.mp H
                obtain ⟨t464, A210, H⟩ := H
                replace H : (if t464 = 0 then ((spigotref14_At.f k t456 a1).bind fun t465 => (if t465 < 0 then (if a2 = a1 then (if t463 = 6 then (some true) else (some false)) else (if t460 = t462 then (some (t461 == t463)) else (some false))) else (some false))) else (some false)) = some true := H
                have A21 := Aside0.mk A210
                (try clear A210)
                by_cases c22 : t464 = 0
                · rw [if_pos c22] at H
                  have c22b0 : (t464 == 0) = true := beq_iff_eq.mpr c22
                  have c22b1 : (t464 != 0) = false := bne_eq_false_iff_eq.mpr c22
                  clear c22
                  replace H := Option.bind_eq_some_iff.mp H
                  obtain ⟨t465, A230, H⟩ := H
                  replace H : (if t465 < 0 then (if a2 = a1 then (if t463 = 6 then (some true) else (some false)) else (if t460 = t462 then (some (t461 == t463)) else (some false))) else (some false)) = some true := H
                  have A23 := Aside0.mk A230
                  (try clear A230)
                  by_cases c24 : t465 < 0
                  · rw [if_pos c24] at H
                    have c24b0 : decide (t465 < 0) = true := decide_eq_true c24
                    clear c24
                    by_cases c25 : a2 = a1
                    · rw [if_pos c25] at H
                      have c25b0 : (a2 == a1) = true := beq_iff_eq.mpr c25
                      have c25b1 : (a2 != a1) = false := bne_eq_false_iff_eq.mpr c25
                      clear c25
                      by_cases c26 : t463 = 6
                      · rw [if_pos c26] at H
                        have c26b0 : (t463 == 6) = true := beq_iff_eq.mpr c26
                        have c26b1 : (t463 != 6) = false := bne_eq_false_iff_eq.mpr c26
                        clear c26
                        clear H
                        go_enter Try.func13, Try.ntmps13
                        go_wp2_with (first | ((with_reducible refine gate_callee (f := 42) rfl ?_); refine goesE (some 20) rfl rfl Try.func42 (by kernel_rfl) rfl #[] rfl ?_; (with_reducible refine (spigotlaw14_alive.calls k   _ A5.out).mono ?_); rintro e w27 ⟨rfl, hb⟩; refine ⟨_, rfl, ?_⟩; have n0_ := Aside0.mk (below_step (pB HB.out) hb); clear HB; have HB := n0_; clear n0_; (try clear hb); (try clear hb2); (try clear hk); (try clear hi)) | ((with_reducible refine gate_callee (f := 21) rfl ?_); refine goesE (some 22) rfl rfl Try.func21 (by kernel_rfl) rfl #[.slice A0 l0.length c0] rfl ?_; (with_reducible refine (spigotref14_Check.calls k _ _ l0 t445 _ ?side1 ?side2 A7.out).mono ?_); (case side1 => exact Kd.pC ((Kd.C_below HR0.out HB.out))); (case side2 => exact HC0.out); rintro e w' ⟨rfl, ⟨nd, rfl⟩⟩; refine ⟨_, rfl, ?_⟩) | ((with_reducible refine gate_callee (f := 36) rfl ?_); refine goesE (some 33) rfl rfl Try.func36 (by kernel_rfl) rfl #[.slice A0 l0.length c0, .int .u32 a1, .int .i64 a3] rfl ?_; (with_reducible refine (probe_Put.calls k _ _ l0 a1 a3 t446 t447 _ ?side1 ?side2 A9.out).mono ?_); (case side1 => exact Kd.pC ((Kd.C_below HR0.out (pB HB.out)))); (case side2 => exact HC0.out); rintro e w28 ⟨v448, rfl, ho0, hb⟩; refine ⟨_, rfl, ?_⟩; have n0_ := Aside0.mk (Kd.R_lower ho0 (below_size (pB HB.out))); have n1_ := Aside0.mk (below_step (pB HB.out) hb); clear HB; have HO449 := n0_; have HB := n1_; clear n0_ n1_; (try clear hb); (try clear hb2); (try clear hk); (try clear hi); (try clear ho0); obtain ⟨Ao29, co29, eo29⟩ := Kd.R_slice HO449.out; subst eo29) | ((with_reducible refine gate_callee (f := 38) rfl ?_); refine goesE (some 41) rfl rfl Try.func38 (by kernel_rfl) rfl #[.slice Ao29 t446.length co29, .int .u32 a1] rfl ?_; (with_reducible refine (probe_Drop.calls k _ _ t446 a1 t450 t451 _ ?side1 ?side2 A11.out).mono ?_); (case side1 => exact Kd.pC ((Kd.R_reads' HO449.out).2.2)); (case side2 => exact (Kd.R_reads' HO449.out).2.1); rintro e w30 ⟨v452, rfl, ho0, hb⟩; refine ⟨_, rfl, ?_⟩; have n0_ := Aside0.mk (Kd.R_elder' (Kd.pR HO449.out) (Kd.R_base ho0) hb); have n1_ := Aside0.mk (Kd.R_lower (Kd.R_new' ho0 (Kd.R_lt (Kd.pR HO449.out))) (below_size (pB HB.out))); have n2_ := Aside0.mk (below_step (pB HB.out) hb); clear HO449; clear HB; have HO449 := n0_; have HO453 := n1_; have HB := n2_; clear n0_ n1_ n2_; (try clear hb); (try clear hb2); (try clear hk); (try clear hi); (try clear ho0); obtain ⟨Ao31, co31, eo31⟩ := Kd.R_slice HO453.out; subst eo31) | (go_at_call 44; (with_reducible refine (spigotlaw14_alike.calls k _ _ l0 _ _ t450 true _ ?side1 ?side2 ?side3 ?side4 A13.out).mono ?_); (case side1 => exact Kd.pC ((Kd.C_below HR0.out HB.out))); (case side2 => exact HC0.out); (case side3 => exact Kd.pC ((Kd.R_reads' HO453.out).2.2)); (case side4 => exact (Kd.R_reads' HO453.out).2.1); rintro e w' ⟨rfl, ⟨nd, rfl⟩⟩) | (go_at_call 21; (with_reducible refine (spigotref14_Check.calls k _ _ t446 t455 _ ?side1 ?side2 A15.out).mono ?_); (case side1 => exact Kd.pC ((Kd.R_reads' HO449.out).2.2)); (case side2 => exact (Kd.R_reads' HO449.out).2.1); rintro e w' ⟨rfl, ⟨nd, rfl⟩⟩) | ((with_reducible refine gate_callee (f := 38) rfl ?_); refine goesE (some 60) rfl rfl Try.func38 (by kernel_rfl) rfl #[.slice A0 l0.length c0, .int .u32 a1] rfl ?_; (with_reducible refine (probe_Drop.calls k _ _ l0 a1 t456 t457 _ ?side1 ?side2 A17.out).mono ?_); (case side1 => exact Kd.pC ((Kd.C_below HR0.out (pB HB.out)))); (case side2 => exact HC0.out); rintro e w32 ⟨v458, rfl, ho0, hb⟩; refine ⟨_, rfl, ?_⟩; have n2_ := Aside0.mk (Kd.R_lower (Kd.R_new' (Kd.R_new' ho0 (Kd.R_lt (Kd.pR HO449.out))) (Kd.R_lt (Kd.pR HO453.out))) (below_size (pB HB.out))); have n3_ := Aside0.mk (below_step (pB HB.out) hb); (try clear HO449); (try clear HO453); clear HB; have HO459 := n2_; have HB := n3_; clear n2_ n3_; (try clear hb); (try clear hb2); (try clear hk); (try clear hi); (try clear ho0)) | ((with_reducible refine gate_callee (f := 14) rfl ?_); refine goesE (some 73) rfl rfl Try.func14 (by kernel_rfl) rfl #[.slice A0 l0.length c0, .int .u32 a2] rfl ?_; (with_reducible refine (probe_Find.calls k _ _ l0 a2 t460 t461 _ ?side1 ?side2 A19.out).mono ?_); (case side1 => exact Kd.pC ((Kd.C_below HR0.out HB.out))); (case side2 => exact HC0.out); rintro e w33 ⟨rfl, hb⟩; refine ⟨_, rfl, ?_⟩; have n2_ := Aside0.mk (Kd.R_below (Kd.pR HO459.out) hb); have n3_ := Aside0.mk (below_step (pB HB.out) hb); (try clear HO449); (try clear HO453); clear HO459; clear HB; have HO459 := n2_; have HB := n3_; clear n2_ n3_; (try clear hb); (try clear hb2); (try clear hk); (try clear hi); obtain ⟨Ao34, co34, eo34⟩ := Kd.R_slice HO459.out; subst eo34) | ((with_reducible refine gate_callee (f := 14) rfl ?_); refine goesE (some 79) rfl rfl Try.func14 (by kernel_rfl) rfl #[.slice Ao34 t456.length co34, .int .u32 a2] rfl ?_; (with_reducible refine (probe_Find.calls k _ _ t456 a2 t462 t463 _ ?side1 ?side2 A20.out).mono ?_); (case side1 => exact Kd.pC ((Kd.R_reads' HO459.out).2.2)); (case side2 => exact (Kd.R_reads' HO459.out).2.1); rintro e w35 ⟨rfl, hb⟩; refine ⟨_, rfl, ?_⟩; have n2_ := Aside0.mk (Kd.R_below (Kd.pR HO459.out) hb); have n3_ := Aside0.mk (below_step (pB HB.out) hb); (try clear HO449); (try clear HO453); clear HO459; clear HB; have HO459 := n2_; have HB := n3_; clear n2_ n3_; (try clear hb); (try clear hb2); (try clear hk); (try clear hi)) | (go_at_call 21; (with_reducible refine (spigotref14_Check.calls k _ _ t456 t464 _ ?side1 ?side2 A21.out).mono ?_); (case side1 => exact Kd.pC ((Kd.R_reads' HO459.out).2.2)); (case side2 => exact (Kd.R_reads' HO459.out).2.1); rintro e w' ⟨rfl, ⟨nd, rfl⟩⟩) | (go_at_call 45; (with_reducible refine (spigotref14_At.calls k _ _ t456 a1 t465 _ ?side1 ?side2 A23.out).mono ?_); (case side1 => exact Kd.pC ((Kd.R_reads' HO459.out).2.2)); (case side2 => exact (Kd.R_reads' HO459.out).2.1); rintro e w' ⟨rfl, ⟨nd, rfl⟩⟩))
                        go_ret
                        exact ⟨by first | rfl | (simp [errW_none, errW_some] <;> rfl) | (simp [*, errW_none, errW_some] <;> rfl), pB HB.out⟩
                      · rw [if_neg c26] at H
                        have c26b0 : (t463 == 6) = false := beq_eq_false_iff_ne.mpr c26
                        have c26b1 : (t463 != 6) = true := bne_iff_ne.mpr c26
                        exact absurd H (by simp)
                    · rw [if_neg c25] at H
                      have c25b0 : (a2 == a1) = false := beq_eq_false_iff_ne.mpr c25
                      have c25b1 : (a2 != a1) = true := bne_iff_ne.mpr c25
                      by_cases c36 : t460 = t462
                      · rw [if_pos c36] at H
                        have c36b0 : (t460 == t462) = true := beq_iff_eq.mpr c36
                        have c36b1 : (t460 != t462) = false := bne_eq_false_iff_eq.mpr c36
                        clear c36
                        have HRT := Aside0.mk (Option.some.inj H)
                        clear H
                        go_enter Try.func13, Try.ntmps13
                        go_wp2_with (first | ((with_reducible refine gate_callee (f := 42) rfl ?_); refine goesE (some 20) rfl rfl Try.func42 (by kernel_rfl) rfl #[] rfl ?_; (with_reducible refine (spigotlaw14_alive.calls k   _ A5.out).mono ?_); rintro e w37 ⟨rfl, hb⟩; refine ⟨_, rfl, ?_⟩; have n0_ := Aside0.mk (below_step (pB HB.out) hb); clear HB; have HB := n0_; clear n0_; (try clear hb); (try clear hb2); (try clear hk); (try clear hi)) | ((with_reducible refine gate_callee (f := 21) rfl ?_); refine goesE (some 22) rfl rfl Try.func21 (by kernel_rfl) rfl #[.slice A0 l0.length c0] rfl ?_; (with_reducible refine (spigotref14_Check.calls k _ _ l0 t445 _ ?side1 ?side2 A7.out).mono ?_); (case side1 => exact Kd.pC ((Kd.C_below HR0.out HB.out))); (case side2 => exact HC0.out); rintro e w' ⟨rfl, ⟨nd, rfl⟩⟩; refine ⟨_, rfl, ?_⟩) | ((with_reducible refine gate_callee (f := 36) rfl ?_); refine goesE (some 33) rfl rfl Try.func36 (by kernel_rfl) rfl #[.slice A0 l0.length c0, .int .u32 a1, .int .i64 a3] rfl ?_; (with_reducible refine (probe_Put.calls k _ _ l0 a1 a3 t446 t447 _ ?side1 ?side2 A9.out).mono ?_); (case side1 => exact Kd.pC ((Kd.C_below HR0.out (pB HB.out)))); (case side2 => exact HC0.out); rintro e w38 ⟨v448, rfl, ho0, hb⟩; refine ⟨_, rfl, ?_⟩; have n0_ := Aside0.mk (Kd.R_lower ho0 (below_size (pB HB.out))); have n1_ := Aside0.mk (below_step (pB HB.out) hb); clear HB; have HO449 := n0_; have HB := n1_; clear n0_ n1_; (try clear hb); (try clear hb2); (try clear hk); (try clear hi); (try clear ho0); obtain ⟨Ao39, co39, eo39⟩ := Kd.R_slice HO449.out; subst eo39) | ((with_reducible refine gate_callee (f := 38) rfl ?_); refine goesE (some 41) rfl rfl Try.func38 (by kernel_rfl) rfl #[.slice Ao39 t446.length co39, .int .u32 a1] rfl ?_; (with_reducible refine (probe_Drop.calls k _ _ t446 a1 t450 t451 _ ?side1 ?side2 A11.out).mono ?_); (case side1 => exact Kd.pC ((Kd.R_reads' HO449.out).2.2)); (case side2 => exact (Kd.R_reads' HO449.out).2.1); rintro e w40 ⟨v452, rfl, ho0, hb⟩; refine ⟨_, rfl, ?_⟩; have n0_ := Aside0.mk (Kd.R_elder' (Kd.pR HO449.out) (Kd.R_base ho0) hb); have n1_ := Aside0.mk (Kd.R_lower (Kd.R_new' ho0 (Kd.R_lt (Kd.pR HO449.out))) (below_size (pB HB.out))); have n2_ := Aside0.mk (below_step (pB HB.out) hb); clear HO449; clear HB; have HO449 := n0_; have HO453 := n1_; have HB := n2_; clear n0_ n1_ n2_; (try clear hb); (try clear hb2); (try clear hk); (try clear hi); (try clear ho0); obtain ⟨Ao41, co41, eo41⟩ := Kd.R_slice HO453.out; subst eo41) | (go_at_call 44; (with_reducible refine (spigotlaw14_alike.calls k _ _ l0 _ _ t450 true _ ?side1 ?side2 ?side3 ?side4 A13.out).mono ?_); (case side1 => exact Kd.pC ((Kd.C_below HR0.out HB.out))); (case side2 => exact HC0.out); (case side3 => exact Kd.pC ((Kd.R_reads' HO453.out).2.2)); (case side4 => exact (Kd.R_reads' HO453.out).2.1); rintro e w' ⟨rfl, ⟨nd, rfl⟩⟩) | (go_at_call 21; (with_reducible refine (spigotref14_Check.calls k _ _ t446 t455 _ ?side1 ?side2 A15.out).mono ?_); (case side1 => exact Kd.pC ((Kd.R_reads' HO449.out).2.2)); (case side2 => exact (Kd.R_reads' HO449.out).2.1); rintro e w' ⟨rfl, ⟨nd, rfl⟩⟩) | ((with_reducible refine gate_callee (f := 38) rfl ?_); refine goesE (some 60) rfl rfl Try.func38 (by kernel_rfl) rfl #[.slice A0 l0.length c0, .int .u32 a1] rfl ?_; (with_reducible refine (probe_Drop.calls k _ _ l0 a1 t456 t457 _ ?side1 ?side2 A17.out).mono ?_); (case side1 => exact Kd.pC ((Kd.C_below HR0.out (pB HB.out)))); (case side2 => exact HC0.out); rintro e w42 ⟨v458, rfl, ho0, hb⟩; refine ⟨_, rfl, ?_⟩; have n2_ := Aside0.mk (Kd.R_lower (Kd.R_new' (Kd.R_new' ho0 (Kd.R_lt (Kd.pR HO449.out))) (Kd.R_lt (Kd.pR HO453.out))) (below_size (pB HB.out))); have n3_ := Aside0.mk (below_step (pB HB.out) hb); (try clear HO449); (try clear HO453); clear HB; have HO459 := n2_; have HB := n3_; clear n2_ n3_; (try clear hb); (try clear hb2); (try clear hk); (try clear hi); (try clear ho0)) | ((with_reducible refine gate_callee (f := 14) rfl ?_); refine goesE (some 73) rfl rfl Try.func14 (by kernel_rfl) rfl #[.slice A0 l0.length c0, .int .u32 a2] rfl ?_; (with_reducible refine (probe_Find.calls k _ _ l0 a2 t460 t461 _ ?side1 ?side2 A19.out).mono ?_); (case side1 => exact Kd.pC ((Kd.C_below HR0.out HB.out))); (case side2 => exact HC0.out); rintro e w43 ⟨rfl, hb⟩; refine ⟨_, rfl, ?_⟩; have n2_ := Aside0.mk (Kd.R_below (Kd.pR HO459.out) hb); have n3_ := Aside0.mk (below_step (pB HB.out) hb); (try clear HO449); (try clear HO453); clear HO459; clear HB; have HO459 := n2_; have HB := n3_; clear n2_ n3_; (try clear hb); (try clear hb2); (try clear hk); (try clear hi); obtain ⟨Ao44, co44, eo44⟩ := Kd.R_slice HO459.out; subst eo44) | ((with_reducible refine gate_callee (f := 14) rfl ?_); refine goesE (some 79) rfl rfl Try.func14 (by kernel_rfl) rfl #[.slice Ao44 t456.length co44, .int .u32 a2] rfl ?_; (with_reducible refine (probe_Find.calls k _ _ t456 a2 t462 t463 _ ?side1 ?side2 A20.out).mono ?_); (case side1 => exact Kd.pC ((Kd.R_reads' HO459.out).2.2)); (case side2 => exact (Kd.R_reads' HO459.out).2.1); rintro e w45 ⟨rfl, hb⟩; refine ⟨_, rfl, ?_⟩; have n2_ := Aside0.mk (Kd.R_below (Kd.pR HO459.out) hb); have n3_ := Aside0.mk (below_step (pB HB.out) hb); (try clear HO449); (try clear HO453); clear HO459; clear HB; have HO459 := n2_; have HB := n3_; clear n2_ n3_; (try clear hb); (try clear hb2); (try clear hk); (try clear hi)) | (go_at_call 21; (with_reducible refine (spigotref14_Check.calls k _ _ t456 t464 _ ?side1 ?side2 A21.out).mono ?_); (case side1 => exact Kd.pC ((Kd.R_reads' HO459.out).2.2)); (case side2 => exact (Kd.R_reads' HO459.out).2.1); rintro e w' ⟨rfl, ⟨nd, rfl⟩⟩) | (go_at_call 45; (with_reducible refine (spigotref14_At.calls k _ _ t456 a1 t465 _ ?side1 ?side2 A23.out).mono ?_); (case side1 => exact Kd.pC ((Kd.R_reads' HO459.out).2.2)); (case side2 => exact (Kd.R_reads' HO459.out).2.1); rintro e w' ⟨rfl, ⟨nd, rfl⟩⟩))
                        go_ret
                        exact ⟨by first | rfl | (simp [errW_none, errW_some] <;> rfl) | (simp [*, errW_none, errW_some] <;> rfl) | (rw [HRT.out] <;> rfl) | (simp [HRT.out]; done) | (have h_ := HRT.out; simp [*] at h_ ⊢ <;> first | done | assumption | omega) | (have h_ := HRT.out; simp [*] at h_; done), pB HB.out⟩
                      · rw [if_neg c36] at H
                        have c36b0 : (t460 == t462) = false := beq_eq_false_iff_ne.mpr c36
                        have c36b1 : (t460 != t462) = true := bne_iff_ne.mpr c36
                        exact absurd H (by simp)
                  · rw [if_neg c24] at H
                    have c24b0 : decide (t465 < 0) = false := decide_eq_false c24
                    (try clear c24)
                    exact absurd H (by simp)
                · rw [if_neg c22] at H
                  have c22b0 : (t464 == 0) = false := beq_eq_false_iff_ne.mpr c22
                  have c22b1 : (t464 != 0) = true := bne_iff_ne.mpr c22
                  exact absurd H (by simp)
              · rw [if_neg c18] at H
                have c18b0 : (t457 == 0) = false := beq_eq_false_iff_ne.mpr c18
                have c18b1 : (t457 != 0) = true := bne_iff_ne.mpr c18
                have HRT := Aside0.mk (Option.some.inj H)
                clear H
                go_enter Try.func13, Try.ntmps13
                go_wp2_with (first | ((with_reducible refine gate_callee (f := 42) rfl ?_); refine goesE (some 20) rfl rfl Try.func42 (by kernel_rfl) rfl #[] rfl ?_; (with_reducible refine (spigotlaw14_alive.calls k   _ A5.out).mono ?_); rintro e w46 ⟨rfl, hb⟩; refine ⟨_, rfl, ?_⟩; have n0_ := Aside0.mk (below_step (pB HB.out) hb); clear HB; have HB := n0_; clear n0_; (try clear hb); (try clear hb2); (try clear hk); (try clear hi)) | ((with_reducible refine gate_callee (f := 21) rfl ?_); refine goesE (some 22) rfl rfl Try.func21 (by kernel_rfl) rfl #[.slice A0 l0.length c0] rfl ?_; (with_reducible refine (spigotref14_Check.calls k _ _ l0 t445 _ ?side1 ?side2 A7.out).mono ?_); (case side1 => exact Kd.pC ((Kd.C_below HR0.out HB.out))); (case side2 => exact HC0.out); rintro e w' ⟨rfl, ⟨nd, rfl⟩⟩; refine ⟨_, rfl, ?_⟩) | ((with_reducible refine gate_callee (f := 36) rfl ?_); refine goesE (some 33) rfl rfl Try.func36 (by kernel_rfl) rfl #[.slice A0 l0.length c0, .int .u32 a1, .int .i64 a3] rfl ?_; (with_reducible refine (probe_Put.calls k _ _ l0 a1 a3 t446 t447 _ ?side1 ?side2 A9.out).mono ?_); (case side1 => exact Kd.pC ((Kd.C_below HR0.out (pB HB.out)))); (case side2 => exact HC0.out); rintro e w47 ⟨v448, rfl, ho0, hb⟩; refine ⟨_, rfl, ?_⟩; have n0_ := Aside0.mk (Kd.R_lower ho0 (below_size (pB HB.out))); have n1_ := Aside0.mk (below_step (pB HB.out) hb); clear HB; have HO449 := n0_; have HB := n1_; clear n0_ n1_; (try clear hb); (try clear hb2); (try clear hk); (try clear hi); (try clear ho0); obtain ⟨Ao48, co48, eo48⟩ := Kd.R_slice HO449.out; subst eo48) | ((with_reducible refine gate_callee (f := 38) rfl ?_); refine goesE (some 41) rfl rfl Try.func38 (by kernel_rfl) rfl #[.slice Ao48 t446.length co48, .int .u32 a1] rfl ?_; (with_reducible refine (probe_Drop.calls k _ _ t446 a1 t450 t451 _ ?side1 ?side2 A11.out).mono ?_); (case side1 => exact Kd.pC ((Kd.R_reads' HO449.out).2.2)); (case side2 => exact (Kd.R_reads' HO449.out).2.1); rintro e w49 ⟨v452, rfl, ho0, hb⟩; refine ⟨_, rfl, ?_⟩; have n0_ := Aside0.mk (Kd.R_elder' (Kd.pR HO449.out) (Kd.R_base ho0) hb); have n1_ := Aside0.mk (Kd.R_lower (Kd.R_new' ho0 (Kd.R_lt (Kd.pR HO449.out))) (below_size (pB HB.out))); have n2_ := Aside0.mk (below_step (pB HB.out) hb); clear HO449; clear HB; have HO449 := n0_; have HO453 := n1_; have HB := n2_; clear n0_ n1_ n2_; (try clear hb); (try clear hb2); (try clear hk); (try clear hi); (try clear ho0); obtain ⟨Ao50, co50, eo50⟩ := Kd.R_slice HO453.out; subst eo50) | (go_at_call 44; (with_reducible refine (spigotlaw14_alike.calls k _ _ l0 _ _ t450 true _ ?side1 ?side2 ?side3 ?side4 A13.out).mono ?_); (case side1 => exact Kd.pC ((Kd.C_below HR0.out HB.out))); (case side2 => exact HC0.out); (case side3 => exact Kd.pC ((Kd.R_reads' HO453.out).2.2)); (case side4 => exact (Kd.R_reads' HO453.out).2.1); rintro e w' ⟨rfl, ⟨nd, rfl⟩⟩) | (go_at_call 21; (with_reducible refine (spigotref14_Check.calls k _ _ t446 t455 _ ?side1 ?side2 A15.out).mono ?_); (case side1 => exact Kd.pC ((Kd.R_reads' HO449.out).2.2)); (case side2 => exact (Kd.R_reads' HO449.out).2.1); rintro e w' ⟨rfl, ⟨nd, rfl⟩⟩) | ((with_reducible refine gate_callee (f := 38) rfl ?_); refine goesE (some 60) rfl rfl Try.func38 (by kernel_rfl) rfl #[.slice A0 l0.length c0, .int .u32 a1] rfl ?_; (with_reducible refine (probe_Drop.calls k _ _ l0 a1 t456 t457 _ ?side1 ?side2 A17.out).mono ?_); (case side1 => exact Kd.pC ((Kd.C_below HR0.out (pB HB.out)))); (case side2 => exact HC0.out); rintro e w51 ⟨v458, rfl, ho0, hb⟩; refine ⟨_, rfl, ?_⟩; have n3_ := Aside0.mk (below_step (pB HB.out) hb); (try clear HO449); (try clear HO453); clear HB; have HB := n3_; clear n3_; (try clear hb); (try clear hb2); (try clear hk); (try clear hi); (try clear ho0)))
                go_ret
                exact ⟨by first | rfl | (simp [errW_none, errW_some] <;> rfl) | (simp [*, errW_none, errW_some] <;> rfl) | (rw [HRT.out] <;> rfl) | (simp [HRT.out]; done) | (have h_ := HRT.out; simp [*] at h_ ⊢ <;> first | done | assumption | omega) | (have h_ := HRT.out; simp [*] at h_; done), pB HB.out⟩
            · rw [if_neg c16] at H
              have c16b0 : (t455 == 0) = false := beq_eq_false_iff_ne.mpr c16
              have c16b1 : (t455 != 0) = true := bne_iff_ne.mpr c16
              exact absurd H (by simp)
          · replace c14 := Bool.eq_false_iff.mpr c14
            subst c14
            have H1 : (some false) = some true := by rw [if_neg (show ¬ (false = true) by decide)] at H; exact H
            clear H
            have H := H1
            clear H1
            exact absurd H (by simp)
        · rw [if_neg c12] at H
          have c12b0 : (t451 == 0) = false := beq_eq_false_iff_ne.mpr c12
          have c12b1 : (t451 != 0) = true := bne_iff_ne.mpr c12
          exact absurd H (by simp)
      · rw [if_neg c10] at H
        have c10b0 : (t447 == 0) = false := beq_eq_false_iff_ne.mpr c10
        have c10b1 : (t447 != 0) = true := bne_iff_ne.mpr c10
        replace H := Option.bind_eq_some_iff.mp H
        obtain ⟨⟨t466, t467⟩, A520, H⟩ := H
        replace H : (if t467 = 0 then ((probe_Find.f k l0 a2).bind fun bt470 => ((probe_Find.f k t466 a2).bind fun bt472 => ((spigotref14_Check.f k t466).bind fun t474 => (if t474 = 0 then ((spigotref14_At.f k t466 a1).bind fun t475 => (if t475 < 0 then (if a2 = a1 then (if bt472.2 = 6 then (some true) else (some false)) else (if bt470.1 = bt472.1 then (some (bt470.2 == bt472.2)) else (some false))) else (some false))) else (some false))))) else (some (t467 == 6))) = some true := H
        have A52 := Aside0.mk A520
        (try clear A520)
        by_cases c53 : t467 = 0
        · rw [if_pos c53] at H
          have c53b0 : (t467 == 0) = true := beq_iff_eq.mpr c53
          have c53b1 : (t467 != 0) = false := bne_eq_false_iff_eq.mpr c53
          clear c53
          replace H := Option.bind_eq_some_iff.mp H
          obtain ⟨⟨t470, t471⟩, A540, H⟩ := H
          replace H : ((probe_Find.f k t466 a2).bind fun bt472 => ((spigotref14_Check.f k t466).bind fun t474 => (if t474 = 0 then ((spigotref14_At.f k t466 a1).bind fun t475 => (if t475 < 0 then (if a2 = a1 then (if bt472.2 = 6 then (some true) else (some false)) else (if t470 = bt472.1 then (some (t471 == bt472.2)) else (some false))) else (some false))) else (some false)))) = some true := H
          have A54 := Aside0.mk A540
          (try clear A540)
          replace H := Option.bind_eq_some_iff.mp H
          obtain ⟨⟨t472, t473⟩, A550, H⟩ := H
          replace H : ((spigotref14_Check.f k t466).bind fun t474 => (if t474 = 0 then ((spigotref14_At.f k t466 a1).bind fun t475 => (if t475 < 0 then (if a2 = a1 then (if t473 = 6 then (some true) else (some false)) else (if t470 = t472 then (some (t471 == t473)) else (some false))) else (some false))) else (some false))) = some true := H
          have A55 := Aside0.mk A550
          (try clear A550)
          replace H := Option.bind_eq_some_iff.mp H
          obtain ⟨t474, A560, H⟩ := H
          replace H : (if t474 = 0 then ((spigotref14_At.f k t466 a1).bind fun t475 => (if t475 < 0 then (if a2 = a1 then (if t473 = 6 then (some true) else (some false)) else (if t470 = t472 then (some (t471 == t473)) else (some false))) else (some false))) else (some false)) = some true := H
          have A56 := Aside0.mk A560
          (try clear A560)
          by_cases c57 : t474 = 0
          · rw [if_pos c57] at H
            have c57b0 : (t474 == 0) = true := beq_iff_eq.mpr c57
            have c57b1 : (t474 != 0) = false := bne_eq_false_iff_eq.mpr c57
            clear c57
            replace H := Option.bind_eq_some_iff.mp H
            obtain ⟨t475, A580, H⟩ := H
            replace H : (if t475 < 0 then (if a2 = a1 then (if t473 = 6 then (some true) else (some false)) else (if t470 = t472 then (some (t471 == t473)) else (some false))) else (some false)) = some true := H
            have A58 := Aside0.mk A580
            (try clear A580)
            by_cases c59 : t475 < 0
            · rw [if_pos c59] at H
              have c59b0 : decide (t475 < 0) = true := decide_eq_true c59
              clear c59
              by_cases c60 : a2 = a1
              · rw [if_pos c60] at H
                have c60b0 : (a2 == a1) = true := beq_iff_eq.mpr c60
                have c60b1 : (a2 != a1) = false := bne_eq_false_iff_eq.mpr c60
                clear c60
                by_cases c61 : t473 = 6
                · rw [if_pos c61] at H
                  have c61b0 : (t473 == 6) = true := beq_iff_eq.mpr c61
                  have c61b1 : (t473 != 6) = false := bne_eq_false_iff_eq.mpr c61
                  clear c61
                  clear H
                  go_enter Try.func13, Try.ntmps13
                  go_wp2_with (first | ((with_reducible refine gate_callee (f := 42) rfl ?_); refine goesE (some 20) rfl rfl Try.func42 (by kernel_rfl) rfl #[] rfl ?_; (with_reducible refine (spigotlaw14_alive.calls k   _ A5.out).mono ?_); rintro e w62 ⟨rfl, hb⟩; refine ⟨_, rfl, ?_⟩; have n0_ := Aside0.mk (below_step (pB HB.out) hb); clear HB; have HB := n0_; clear n0_; (try clear hb); (try clear hb2); (try clear hk); (try clear hi)) | ((with_reducible refine gate_callee (f := 21) rfl ?_); refine goesE (some 22) rfl rfl Try.func21 (by kernel_rfl) rfl #[.slice A0 l0.length c0] rfl ?_; (with_reducible refine (spigotref14_Check.calls k _ _ l0 t445 _ ?side1 ?side2 A7.out).mono ?_); (case side1 => exact Kd.pC ((Kd.C_below HR0.out HB.out))); (case side2 => exact HC0.out); rintro e w' ⟨rfl, ⟨nd, rfl⟩⟩; refine ⟨_, rfl, ?_⟩) | ((with_reducible refine gate_callee (f := 36) rfl ?_); refine goesE (some 33) rfl rfl Try.func36 (by kernel_rfl) rfl #[.slice A0 l0.length c0, .int .u32 a1, .int .i64 a3] rfl ?_; (with_reducible refine (probe_Put.calls k _ _ l0 a1 a3 t446 t447 _ ?side1 ?side2 A9.out).mono ?_); (case side1 => exact Kd.pC ((Kd.C_below HR0.out (pB HB.out)))); (case side2 => exact HC0.out); rintro e w63 ⟨v448, rfl, ho0, hb⟩; refine ⟨_, rfl, ?_⟩; have n0_ := Aside0.mk (Kd.R_lower ho0 (below_size (pB HB.out))); have n1_ := Aside0.mk (below_step (pB HB.out) hb); clear HB; have HO449 := n0_; have HB := n1_; clear n0_ n1_; (try clear hb); (try clear hb2); (try clear hk); (try clear hi); (try clear ho0)) | ((with_reducible refine gate_callee (f := 38) rfl ?_); refine goesE (some 60) rfl rfl Try.func38 (by kernel_rfl) rfl #[.slice A0 l0.length c0, .int .u32 a1] rfl ?_; (with_reducible refine (probe_Drop.calls k _ _ l0 a1 t466 t467 _ ?side1 ?side2 A52.out).mono ?_); (case side1 => exact Kd.pC ((Kd.C_below HR0.out HB.out))); (case side2 => exact HC0.out); rintro e w64 ⟨v468, rfl, ho0, hb⟩; refine ⟨_, rfl, ?_⟩; have n1_ := Aside0.mk (Kd.R_lower (Kd.R_new' ho0 (Kd.R_lt (Kd.pR HO449.out))) (below_size (pB HB.out))); have n2_ := Aside0.mk (below_step (pB HB.out) hb); (try clear HO449); clear HB; have HO469 := n1_; have HB := n2_; clear n1_ n2_; (try clear hb); (try clear hb2); (try clear hk); (try clear hi); (try clear ho0)) | ((with_reducible refine gate_callee (f := 14) rfl ?_); refine goesE (some 73) rfl rfl Try.func14 (by kernel_rfl) rfl #[.slice A0 l0.length c0, .int .u32 a2] rfl ?_; (with_reducible refine (probe_Find.calls k _ _ l0 a2 t470 t471 _ ?side1 ?side2 A54.out).mono ?_); (case side1 => exact Kd.pC ((Kd.C_below HR0.out HB.out))); (case side2 => exact HC0.out); rintro e w65 ⟨rfl, hb⟩; refine ⟨_, rfl, ?_⟩; have n1_ := Aside0.mk (Kd.R_below (Kd.pR HO469.out) hb); have n2_ := Aside0.mk (below_step (pB HB.out) hb); (try clear HO449); clear HO469; clear HB; have HO469 := n1_; have HB := n2_; clear n1_ n2_; (try clear hb); (try clear hb2); (try clear hk); (try clear hi); obtain ⟨Ao66, co66, eo66⟩ := Kd.R_slice HO469.out; subst eo66) | ((with_reducible refine gate_callee (f := 14) rfl ?_); refine goesE (some 79) rfl rfl Try.func14 (by kernel_rfl) rfl #[.slice Ao66 t466.length co66, .int .u32 a2] rfl ?_; (with_reducible refine (probe_Find.calls k _ _ t466 a2 t472 t473 _ ?side1 ?side2 A55.out).mono ?_); (case side1 => exact Kd.pC ((Kd.R_reads' HO469.out).2.2)); (case side2 => exact (Kd.R_reads' HO469.out).2.1); rintro e w67 ⟨rfl, hb⟩; refine ⟨_, rfl, ?_⟩; have n1_ := Aside0.mk (Kd.R_below (Kd.pR HO469.out) hb); have n2_ := Aside0.mk (below_step (pB HB.out) hb); (try clear HO449); clear HO469; clear HB; have HO469 := n1_; have HB := n2_; clear n1_ n2_; (try clear hb); (try clear hb2); (try clear hk); (try clear hi)) | (go_at_call 21; (with_reducible refine (spigotref14_Check.calls k _ _ t466 t474 _ ?side1 ?side2 A56.out).mono ?_); (case side1 => exact Kd.pC ((Kd.R_reads' HO469.out).2.2)); (case side2 => exact (Kd.R_reads' HO469.out).2.1); rintro e w' ⟨rfl, ⟨nd, rfl⟩⟩) | (go_at_call 45; (with_reducible refine (spigotref14_At.calls k _ _ t466 a1 t475 _ ?side1 ?side2 A58.out).mono ?_); (case side1 => exact Kd.pC ((Kd.R_reads' HO469.out).2.2)); (case side2 => exact (Kd.R_reads' HO469.out).2.1); rintro e w' ⟨rfl, ⟨nd, rfl⟩⟩))
                  go_ret
                  exact ⟨by first | rfl | (simp [errW_none, errW_some] <;> rfl) | (simp [*, errW_none, errW_some] <;> rfl), pB HB.out⟩
                · rw [if_neg c61] at H
                  have c61b0 : (t473 == 6) = false := beq_eq_false_iff_ne.mpr c61
                  have c61b1 : (t473 != 6) = true := bne_iff_ne.mpr c61
                  exact absurd H (by simp)
              · rw [if_neg c60] at H
                have c60b0 : (a2 == a1) = false := beq_eq_false_iff_ne.mpr c60
                have c60b1 : (a2 != a1) = true := bne_iff_ne.mpr c60
                by_cases c68 : t470 = t472
                · rw [if_pos c68] at H
                  have c68b0 : (t470 == t472) = true := beq_iff_eq.mpr c68
                  have c68b1 : (t470 != t472) = false := bne_eq_false_iff_eq.mpr c68
                  clear c68
                  have HRT := Aside0.mk (Option.some.inj H)
                  clear H
                  go_enter Try.func13, Try.ntmps13
                  go_wp2_with (first | ((with_reducible refine gate_callee (f := 42) rfl ?_); refine goesE (some 20) rfl rfl Try.func42 (by kernel_rfl) rfl #[] rfl ?_; (with_reducible refine (spigotlaw14_alive.calls k   _ A5.out).mono ?_); rintro e w69 ⟨rfl, hb⟩; refine ⟨_, rfl, ?_⟩; have n0_ := Aside0.mk (below_step (pB HB.out) hb); clear HB; have HB := n0_; clear n0_; (try clear hb); (try clear hb2); (try clear hk); (try clear hi)) | ((with_reducible refine gate_callee (f := 21) rfl ?_); refine goesE (some 22) rfl rfl Try.func21 (by kernel_rfl) rfl #[.slice A0 l0.length c0] rfl ?_; (with_reducible refine (spigotref14_Check.calls k _ _ l0 t445 _ ?side1 ?side2 A7.out).mono ?_); (case side1 => exact Kd.pC ((Kd.C_below HR0.out HB.out))); (case side2 => exact HC0.out); rintro e w' ⟨rfl, ⟨nd, rfl⟩⟩; refine ⟨_, rfl, ?_⟩) | ((with_reducible refine gate_callee (f := 36) rfl ?_); refine goesE (some 33) rfl rfl Try.func36 (by kernel_rfl) rfl #[.slice A0 l0.length c0, .int .u32 a1, .int .i64 a3] rfl ?_; (with_reducible refine (probe_Put.calls k _ _ l0 a1 a3 t446 t447 _ ?side1 ?side2 A9.out).mono ?_); (case side1 => exact Kd.pC ((Kd.C_below HR0.out (pB HB.out)))); (case side2 => exact HC0.out); rintro e w70 ⟨v448, rfl, ho0, hb⟩; refine ⟨_, rfl, ?_⟩; have n0_ := Aside0.mk (Kd.R_lower ho0 (below_size (pB HB.out))); have n1_ := Aside0.mk (below_step (pB HB.out) hb); clear HB; have HO449 := n0_; have HB := n1_; clear n0_ n1_; (try clear hb); (try clear hb2); (try clear hk); (try clear hi); (try clear ho0)) | ((with_reducible refine gate_callee (f := 38) rfl ?_); refine goesE (some 60) rfl rfl Try.func38 (by kernel_rfl) rfl #[.slice A0 l0.length c0, .int .u32 a1] rfl ?_; (with_reducible refine (probe_Drop.calls k _ _ l0 a1 t466 t467 _ ?side1 ?side2 A52.out).mono ?_); (case side1 => exact Kd.pC ((Kd.C_below HR0.out HB.out))); (case side2 => exact HC0.out); rintro e w71 ⟨v468, rfl, ho0, hb⟩; refine ⟨_, rfl, ?_⟩; have n1_ := Aside0.mk (Kd.R_lower (Kd.R_new' ho0 (Kd.R_lt (Kd.pR HO449.out))) (below_size (pB HB.out))); have n2_ := Aside0.mk (below_step (pB HB.out) hb); (try clear HO449); clear HB; have HO469 := n1_; have HB := n2_; clear n1_ n2_; (try clear hb); (try clear hb2); (try clear hk); (try clear hi); (try clear ho0)) | ((with_reducible refine gate_callee (f := 14) rfl ?_); refine goesE (some 73) rfl rfl Try.func14 (by kernel_rfl) rfl #[.slice A0 l0.length c0, .int .u32 a2] rfl ?_; (with_reducible refine (probe_Find.calls k _ _ l0 a2 t470 t471 _ ?side1 ?side2 A54.out).mono ?_); (case side1 => exact Kd.pC ((Kd.C_below HR0.out HB.out))); (case side2 => exact HC0.out); rintro e w72 ⟨rfl, hb⟩; refine ⟨_, rfl, ?_⟩; have n1_ := Aside0.mk (Kd.R_below (Kd.pR HO469.out) hb); have n2_ := Aside0.mk (below_step (pB HB.out) hb); (try clear HO449); clear HO469; clear HB; have HO469 := n1_; have HB := n2_; clear n1_ n2_; (try clear hb); (try clear hb2); (try clear hk); (try clear hi); obtain ⟨Ao73, co73, eo73⟩ := Kd.R_slice HO469.out; subst eo73) | ((with_reducible refine gate_callee (f := 14) rfl ?_); refine goesE (some 79) rfl rfl Try.func14 (by kernel_rfl) rfl #[.slice Ao73 t466.length co73, .int .u32 a2] rfl ?_; (with_reducible refine (probe_Find.calls k _ _ t466 a2 t472 t473 _ ?side1 ?side2 A55.out).mono ?_); (case side1 => exact Kd.pC ((Kd.R_reads' HO469.out).2.2)); (case side2 => exact (Kd.R_reads' HO469.out).2.1); rintro e w74 ⟨rfl, hb⟩; refine ⟨_, rfl, ?_⟩; have n1_ := Aside0.mk (Kd.R_below (Kd.pR HO469.out) hb); have n2_ := Aside0.mk (below_step (pB HB.out) hb); (try clear HO449); clear HO469; clear HB; have HO469 := n1_; have HB := n2_; clear n1_ n2_; (try clear hb); (try clear hb2); (try clear hk); (try clear hi)) | (go_at_call 21; (with_reducible refine (spigotref14_Check.calls k _ _ t466 t474 _ ?side1 ?side2 A56.out).mono ?_); (case side1 => exact Kd.pC ((Kd.R_reads' HO469.out).2.2)); (case side2 => exact (Kd.R_reads' HO469.out).2.1); rintro e w' ⟨rfl, ⟨nd, rfl⟩⟩) | (go_at_call 45; (with_reducible refine (spigotref14_At.calls k _ _ t466 a1 t475 _ ?side1 ?side2 A58.out).mono ?_); (case side1 => exact Kd.pC ((Kd.R_reads' HO469.out).2.2)); (case side2 => exact (Kd.R_reads' HO469.out).2.1); rintro e w' ⟨rfl, ⟨nd, rfl⟩⟩))
                  go_ret
                  exact ⟨by first | rfl | (simp [errW_none, errW_some] <;> rfl) | (simp [*, errW_none, errW_some] <;> rfl) | (rw [HRT.out] <;> rfl) | (simp [HRT.out]; done) | (have h_ := HRT.out; simp [*] at h_ ⊢ <;> first | done | assumption | omega) | (have h_ := HRT.out; simp [*] at h_; done), pB HB.out⟩
                · rw [if_neg c68] at H
                  have c68b0 : (t470 == t472) = false := beq_eq_false_iff_ne.mpr c68
                  have c68b1 : (t470 != t472) = true := bne_iff_ne.mpr c68
                  exact absurd H (by simp)
            · rw [if_neg c59] at H
              have c59b0 : decide (t475 < 0) = false := decide_eq_false c59
              (try clear c59)
              exact absurd H (by simp)
          · rw [if_neg c57] at H
            have c57b0 : (t474 == 0) = false := beq_eq_false_iff_ne.mpr c57
            have c57b1 : (t474 != 0) = true := bne_iff_ne.mpr c57
            exact absurd H (by simp)
        · rw [if_neg c53] at H
          have c53b0 : (t467 == 0) = false := beq_eq_false_iff_ne.mpr c53
          have c53b1 : (t467 != 0) = true := bne_iff_ne.mpr c53
          have HRT := Aside0.mk (Option.some.inj H)
          clear H
          go_enter Try.func13, Try.ntmps13
          go_wp2_with (first | ((with_reducible refine gate_callee (f := 42) rfl ?_); refine goesE (some 20) rfl rfl Try.func42 (by kernel_rfl) rfl #[] rfl ?_; (with_reducible refine (spigotlaw14_alive.calls k   _ A5.out).mono ?_); rintro e w75 ⟨rfl, hb⟩; refine ⟨_, rfl, ?_⟩; have n0_ := Aside0.mk (below_step (pB HB.out) hb); clear HB; have HB := n0_; clear n0_; (try clear hb); (try clear hb2); (try clear hk); (try clear hi)) | ((with_reducible refine gate_callee (f := 21) rfl ?_); refine goesE (some 22) rfl rfl Try.func21 (by kernel_rfl) rfl #[.slice A0 l0.length c0] rfl ?_; (with_reducible refine (spigotref14_Check.calls k _ _ l0 t445 _ ?side1 ?side2 A7.out).mono ?_); (case side1 => exact Kd.pC ((Kd.C_below HR0.out HB.out))); (case side2 => exact HC0.out); rintro e w' ⟨rfl, ⟨nd, rfl⟩⟩; refine ⟨_, rfl, ?_⟩) | ((with_reducible refine gate_callee (f := 36) rfl ?_); refine goesE (some 33) rfl rfl Try.func36 (by kernel_rfl) rfl #[.slice A0 l0.length c0, .int .u32 a1, .int .i64 a3] rfl ?_; (with_reducible refine (probe_Put.calls k _ _ l0 a1 a3 t446 t447 _ ?side1 ?side2 A9.out).mono ?_); (case side1 => exact Kd.pC ((Kd.C_below HR0.out (pB HB.out)))); (case side2 => exact HC0.out); rintro e w76 ⟨v448, rfl, ho0, hb⟩; refine ⟨_, rfl, ?_⟩; have n1_ := Aside0.mk (below_step (pB HB.out) hb); clear HB; have HB := n1_; clear n1_; (try clear hb); (try clear hb2); (try clear hk); (try clear hi); (try clear ho0)) | ((with_reducible refine gate_callee (f := 38) rfl ?_); refine goesE (some 60) rfl rfl Try.func38 (by kernel_rfl) rfl #[.slice A0 l0.length c0, .int .u32 a1] rfl ?_; (with_reducible refine (probe_Drop.calls k _ _ l0 a1 t466 t467 _ ?side1 ?side2 A52.out).mono ?_); (case side1 => exact Kd.pC ((Kd.C_below HR0.out HB.out))); (case side2 => exact HC0.out); rintro e w77 ⟨v468, rfl, ho0, hb⟩; refine ⟨_, rfl, ?_⟩; have n2_ := Aside0.mk (below_step (pB HB.out) hb); (try clear HO449); clear HB; have HB := n2_; clear n2_; (try clear hb); (try clear hb2); (try clear hk); (try clear hi); (try clear ho0)))
          go_ret
          exact ⟨by first | rfl | (simp [errW_none, errW_some] <;> rfl) | (simp [*, errW_none, errW_some] <;> rfl) | (rw [HRT.out] <;> rfl) | (simp [HRT.out]; done) | (have h_ := HRT.out; simp [*] at h_ ⊢ <;> first | done | assumption | omega) | (have h_ := HRT.out; simp [*] at h_; done), pB HB.out⟩
    · rw [if_neg c8] at H
      have c8b0 : (t445 == 0) = false := beq_eq_false_iff_ne.mpr c8
      have c8b1 : (t445 != 0) = true := bne_iff_ne.mpr c8
      clear H
      go_enter Try.func13, Try.ntmps13
      go_wp2_with (first | ((with_reducible refine gate_callee (f := 42) rfl ?_); refine goesE (some 20) rfl rfl Try.func42 (by kernel_rfl) rfl #[] rfl ?_; (with_reducible refine (spigotlaw14_alive.calls k   _ A5.out).mono ?_); rintro e w78 ⟨rfl, hb⟩; refine ⟨_, rfl, ?_⟩; have n0_ := Aside0.mk (below_step (pB HB.out) hb); clear HB; have HB := n0_; clear n0_; (try clear hb); (try clear hb2); (try clear hk); (try clear hi)) | ((with_reducible refine gate_callee (f := 21) rfl ?_); refine goesE (some 22) rfl rfl Try.func21 (by kernel_rfl) rfl #[.slice A0 l0.length c0] rfl ?_; (with_reducible refine (spigotref14_Check.calls k _ _ l0 t445 _ ?side1 ?side2 A7.out).mono ?_); (case side1 => exact Kd.pC ((Kd.C_below HR0.out HB.out))); (case side2 => exact HC0.out); rintro e w' ⟨rfl, ⟨nd, rfl⟩⟩; refine ⟨_, rfl, ?_⟩))
      go_ret
      exact ⟨by first | rfl | (simp [errW_none, errW_some] <;> rfl) | (simp [*, errW_none, errW_some] <;> rfl), pB HB.out⟩
  · replace c6 := Bool.eq_false_iff.mpr c6
    subst c6
    have H1 : (none) = some true := by rw [if_neg (show ¬ (false = true) by decide)] at H; exact H
    clear H
    have H := H1
    clear H1
    exact absurd H (by simp)

/-- THE ONE PURE STATEMENT of spigotlaw14_ProbeBack. -/
def spigotlaw14_ProbeBack.Pure : Prop := ∀ (l0 : List (S71)) (a1 : Int) (a2 : Int) (a3 : Int), ((∀ x ∈ l0, ((Lit.int .u32 x.f0).wf = true) ∧ ((Lit.int .i64 x.f1).wf = true) ∧ (True)) ∧ l0.length ≤ maxLen) → ((Lit.int .u32 a1).wf = true) → ((Lit.int .u32 a2).wf = true) → ((Lit.int .i64 a3).wf = true) → ∃ k, spigotlaw14_ProbeBack.f k l0 a1 a2 a3 = some true

end Go.Proofs.Ytlgfopdindklnaa.PProbe
