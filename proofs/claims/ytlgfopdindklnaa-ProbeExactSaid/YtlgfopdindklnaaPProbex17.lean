-- printed by a program of this session (a turned copy of the kit's print); Lean checks it
import Derived.Test.YtlgfopdindklnaaPProbex0
import Derived.Test.YtlgfopdindklnaaPProbex1
import Derived.Test.YtlgfopdindklnaaPProbex2
import Derived.Test.YtlgfopdindklnaaPProbex7
import Derived.Test.YtlgfopdindklnaaPProbex10
import Derived.Test.YtlgfopdindklnaaPProbex12
import Derived.Test.YtlgfopdindklnaaPProbex16
namespace Go.Proofs.Ytlgfopdindklnaa.PProbe
open Go.RowKit Go.Proofs.YtlgfopdindklnaaW.PrintWords Go.Proofs.YtlgfopdindklnaaW.PrintLast Go.Proofs.YtlgfopdindklnaaW.PrintMore
attribute [local go_sem] max2_int min2_int max_two min_two max_three min_three max_four min_four   -- for this text's walks alone
set_option linter.unusedVariables false
set_option linter.unusedSimpArgs false

attribute [local go_sem high] eqA71
/-! ### spigotlaw14_alive: function 42 -/
def spigotlaw14_alive.f (k : Nat)  : Option (Bool) := (probe_New.f).bind fun t248 => ((probe_Put.f k t248 1 4).bind fun bt251 => ((probe_Put.f k bt251.1 22 5).bind fun bt255 => ((probe_Drop.f k bt255.1 1).bind fun bt259 => ((probe_Steps.f k bt259.1 1).bind fun bt263 => ((probe_Home.f 0).bind fun t265 => (if t265 = 0 then ((probe_Home.f 1).bind fun t266 => (if t266 = 9 then ((probe_Home.f 2).bind fun t267 => (if t267 = 3 then ((probe_Home.f 8).bind fun t268 => (if t268 = 15 then ((probe_Home.f 22).bind fun t269 => (if t269 = 9 then (if bt251.2 = 0 then (if bt255.2 = 0 then (if bt259.2 = 0 then (if bt263.2 = 0 then (if (bt255.1.length : Int) = 16 then (if 9 < (bt255.1.length : Int) then (if ((rd_T71 bt255.1 9).f0) = 1 then (if 10 < (bt255.1.length : Int) then (if ((rd_T71 bt255.1 10).f0) = 22 then (if (bt259.1.length : Int) = 16 then (if 9 < (bt259.1.length : Int) then (if (((rd_T71 bt259.1 9).f0) == 22 && (((rd_T71 bt259.1 9).f1) == 5 && (((rd_T71 bt259.1 9).f2)))) = true then (if 10 < (bt259.1.length : Int) then (if ((rd_T71 bt259.1 10).f2 = true) then (some false) else (some (bt263.1 == 2))) else (none)) else (some false)) else (none)) else (some false)) else (some false)) else (none)) else (some false)) else (none)) else (some false)) else (some false)) else (some false)) else (some false)) else (some false)) else (some false))) else (some false))) else (some false))) else (some false))) else (some false)))))))
theorem spigotlaw14_alive.mono : ∀ k, LeO (spigotlaw14_alive.f k ) (spigotlaw14_alive.f (k + 1) ) := by
  intro  k
  unfold spigotlaw14_alive.f
  repeat' first
      | (with_reducible exact probe_Drop.mono _ _ _)
      | (with_reducible exact probe_Put.mono _ _ _ _)
      | (with_reducible exact probe_Steps.mono _ _ _)
      | (with_reducible exact LeO.refl _)
      | (with_reducible exact LeO.none _)
      | (with_reducible refine LeO.ite ?_ ?_)
      | (with_reducible refine LeO.bind ?_ (fun _ => ?_))
      | exact probe_Drop.mono _ _ _
      | exact probe_Put.mono _ _ _ _
      | exact probe_Steps.mono _ _ _
      | exact LeO.none _
      | refine LeO.ite ?_ ?_
      | refine LeO.bind ?_ (fun _ => ?_)
set_option maxHeartbeats 8000000 in
set_option maxRecDepth 100000 in
theorem spigotlaw14_alive.calls (k : Nat)  (w : World) (h : spigotlaw14_alive.f k  = some true) :
    Calls Try.prog 42 #[] w fun e w' => e = .returned (.bool true) ∧ Below w.heap.size w w' := by
  have hu71 := Try.underlying71
  have HB := Aside0.mk (Below.refl w.heap.size w)
  have H : ((probe_New.f).bind fun t248 => ((probe_Put.f k t248 1 4).bind fun bt251 => ((probe_Put.f k bt251.1 22 5).bind fun bt255 => ((probe_Drop.f k bt255.1 1).bind fun bt259 => ((probe_Steps.f k bt259.1 1).bind fun bt263 => ((probe_Home.f 0).bind fun t265 => (if t265 = 0 then ((probe_Home.f 1).bind fun t266 => (if t266 = 9 then ((probe_Home.f 2).bind fun t267 => (if t267 = 3 then ((probe_Home.f 8).bind fun t268 => (if t268 = 15 then ((probe_Home.f 22).bind fun t269 => (if t269 = 9 then (if bt251.2 = 0 then (if bt255.2 = 0 then (if bt259.2 = 0 then (if bt263.2 = 0 then (if (bt255.1.length : Int) = 16 then (if 9 < (bt255.1.length : Int) then (if ((rd_T71 bt255.1 9).f0) = 1 then (if 10 < (bt255.1.length : Int) then (if ((rd_T71 bt255.1 10).f0) = 22 then (if (bt259.1.length : Int) = 16 then (if 9 < (bt259.1.length : Int) then (if (((rd_T71 bt259.1 9).f0) == 22 && (((rd_T71 bt259.1 9).f1) == 5 && (((rd_T71 bt259.1 9).f2)))) = true then (if 10 < (bt259.1.length : Int) then (if ((rd_T71 bt259.1 10).f2 = true) then (some false) else (some (bt263.1 == 2))) else (none)) else (some false)) else (none)) else (some false)) else (some false)) else (none)) else (some false)) else (none)) else (some false)) else (some false)) else (some false)) else (some false)) else (some false)) else (some false))) else (some false))) else (some false))) else (some false))) else (some false)))))))) = some true := h
  (try clear h)
  replace H := Option.bind_eq_some_iff.mp H
  obtain ⟨t248, A10, H⟩ := H
  replace H : ((probe_Put.f k t248 1 4).bind fun bt251 => ((probe_Put.f k bt251.1 22 5).bind fun bt255 => ((probe_Drop.f k bt255.1 1).bind fun bt259 => ((probe_Steps.f k bt259.1 1).bind fun bt263 => ((probe_Home.f 0).bind fun t265 => (if t265 = 0 then ((probe_Home.f 1).bind fun t266 => (if t266 = 9 then ((probe_Home.f 2).bind fun t267 => (if t267 = 3 then ((probe_Home.f 8).bind fun t268 => (if t268 = 15 then ((probe_Home.f 22).bind fun t269 => (if t269 = 9 then (if bt251.2 = 0 then (if bt255.2 = 0 then (if bt259.2 = 0 then (if bt263.2 = 0 then (if (bt255.1.length : Int) = 16 then (if 9 < (bt255.1.length : Int) then (if ((rd_T71 bt255.1 9).f0) = 1 then (if 10 < (bt255.1.length : Int) then (if ((rd_T71 bt255.1 10).f0) = 22 then (if (bt259.1.length : Int) = 16 then (if 9 < (bt259.1.length : Int) then (if (((rd_T71 bt259.1 9).f0) == 22 && (((rd_T71 bt259.1 9).f1) == 5 && (((rd_T71 bt259.1 9).f2)))) = true then (if 10 < (bt259.1.length : Int) then (if ((rd_T71 bt259.1 10).f2 = true) then (some false) else (some (bt263.1 == 2))) else (none)) else (some false)) else (none)) else (some false)) else (some false)) else (none)) else (some false)) else (none)) else (some false)) else (some false)) else (some false)) else (some false)) else (some false)) else (some false))) else (some false))) else (some false))) else (some false))) else (some false))))))) = some true := H
  have A1 := Aside0.mk A10
  clear A10
  replace H := Option.bind_eq_some_iff.mp H
  obtain ⟨⟨t251, t252⟩, A20, H⟩ := H
  replace H : ((probe_Put.f k t251 22 5).bind fun bt255 => ((probe_Drop.f k bt255.1 1).bind fun bt259 => ((probe_Steps.f k bt259.1 1).bind fun bt263 => ((probe_Home.f 0).bind fun t265 => (if t265 = 0 then ((probe_Home.f 1).bind fun t266 => (if t266 = 9 then ((probe_Home.f 2).bind fun t267 => (if t267 = 3 then ((probe_Home.f 8).bind fun t268 => (if t268 = 15 then ((probe_Home.f 22).bind fun t269 => (if t269 = 9 then (if t252 = 0 then (if bt255.2 = 0 then (if bt259.2 = 0 then (if bt263.2 = 0 then (if (bt255.1.length : Int) = 16 then (if 9 < (bt255.1.length : Int) then (if ((rd_T71 bt255.1 9).f0) = 1 then (if 10 < (bt255.1.length : Int) then (if ((rd_T71 bt255.1 10).f0) = 22 then (if (bt259.1.length : Int) = 16 then (if 9 < (bt259.1.length : Int) then (if (((rd_T71 bt259.1 9).f0) == 22 && (((rd_T71 bt259.1 9).f1) == 5 && (((rd_T71 bt259.1 9).f2)))) = true then (if 10 < (bt259.1.length : Int) then (if ((rd_T71 bt259.1 10).f2 = true) then (some false) else (some (bt263.1 == 2))) else (none)) else (some false)) else (none)) else (some false)) else (some false)) else (none)) else (some false)) else (none)) else (some false)) else (some false)) else (some false)) else (some false)) else (some false)) else (some false))) else (some false))) else (some false))) else (some false))) else (some false)))))) = some true := H
  have A2 := Aside0.mk A20
  (try clear A20)
  replace H := Option.bind_eq_some_iff.mp H
  obtain ⟨⟨t255, t256⟩, A30, H⟩ := H
  replace H : ((probe_Drop.f k t255 1).bind fun bt259 => ((probe_Steps.f k bt259.1 1).bind fun bt263 => ((probe_Home.f 0).bind fun t265 => (if t265 = 0 then ((probe_Home.f 1).bind fun t266 => (if t266 = 9 then ((probe_Home.f 2).bind fun t267 => (if t267 = 3 then ((probe_Home.f 8).bind fun t268 => (if t268 = 15 then ((probe_Home.f 22).bind fun t269 => (if t269 = 9 then (if t252 = 0 then (if t256 = 0 then (if bt259.2 = 0 then (if bt263.2 = 0 then (if (t255.length : Int) = 16 then (if 9 < (t255.length : Int) then (if ((rd_T71 t255 9).f0) = 1 then (if 10 < (t255.length : Int) then (if ((rd_T71 t255 10).f0) = 22 then (if (bt259.1.length : Int) = 16 then (if 9 < (bt259.1.length : Int) then (if (((rd_T71 bt259.1 9).f0) == 22 && (((rd_T71 bt259.1 9).f1) == 5 && (((rd_T71 bt259.1 9).f2)))) = true then (if 10 < (bt259.1.length : Int) then (if ((rd_T71 bt259.1 10).f2 = true) then (some false) else (some (bt263.1 == 2))) else (none)) else (some false)) else (none)) else (some false)) else (some false)) else (none)) else (some false)) else (none)) else (some false)) else (some false)) else (some false)) else (some false)) else (some false)) else (some false))) else (some false))) else (some false))) else (some false))) else (some false))))) = some true := H
  have A3 := Aside0.mk A30
  (try clear A30)
  replace H := Option.bind_eq_some_iff.mp H
  obtain ⟨⟨t259, t260⟩, A40, H⟩ := H
  replace H : ((probe_Steps.f k t259 1).bind fun bt263 => ((probe_Home.f 0).bind fun t265 => (if t265 = 0 then ((probe_Home.f 1).bind fun t266 => (if t266 = 9 then ((probe_Home.f 2).bind fun t267 => (if t267 = 3 then ((probe_Home.f 8).bind fun t268 => (if t268 = 15 then ((probe_Home.f 22).bind fun t269 => (if t269 = 9 then (if t252 = 0 then (if t256 = 0 then (if t260 = 0 then (if bt263.2 = 0 then (if (t255.length : Int) = 16 then (if 9 < (t255.length : Int) then (if ((rd_T71 t255 9).f0) = 1 then (if 10 < (t255.length : Int) then (if ((rd_T71 t255 10).f0) = 22 then (if (t259.length : Int) = 16 then (if 9 < (t259.length : Int) then (if (((rd_T71 t259 9).f0) == 22 && (((rd_T71 t259 9).f1) == 5 && (((rd_T71 t259 9).f2)))) = true then (if 10 < (t259.length : Int) then (if ((rd_T71 t259 10).f2 = true) then (some false) else (some (bt263.1 == 2))) else (none)) else (some false)) else (none)) else (some false)) else (some false)) else (none)) else (some false)) else (none)) else (some false)) else (some false)) else (some false)) else (some false)) else (some false)) else (some false))) else (some false))) else (some false))) else (some false))) else (some false)))) = some true := H
  have A4 := Aside0.mk A40
  (try clear A40)
  replace H := Option.bind_eq_some_iff.mp H
  obtain ⟨⟨t263, t264⟩, A50, H⟩ := H
  replace H : ((probe_Home.f 0).bind fun t265 => (if t265 = 0 then ((probe_Home.f 1).bind fun t266 => (if t266 = 9 then ((probe_Home.f 2).bind fun t267 => (if t267 = 3 then ((probe_Home.f 8).bind fun t268 => (if t268 = 15 then ((probe_Home.f 22).bind fun t269 => (if t269 = 9 then (if t252 = 0 then (if t256 = 0 then (if t260 = 0 then (if t264 = 0 then (if (t255.length : Int) = 16 then (if 9 < (t255.length : Int) then (if ((rd_T71 t255 9).f0) = 1 then (if 10 < (t255.length : Int) then (if ((rd_T71 t255 10).f0) = 22 then (if (t259.length : Int) = 16 then (if 9 < (t259.length : Int) then (if (((rd_T71 t259 9).f0) == 22 && (((rd_T71 t259 9).f1) == 5 && (((rd_T71 t259 9).f2)))) = true then (if 10 < (t259.length : Int) then (if ((rd_T71 t259 10).f2 = true) then (some false) else (some (t263 == 2))) else (none)) else (some false)) else (none)) else (some false)) else (some false)) else (none)) else (some false)) else (none)) else (some false)) else (some false)) else (some false)) else (some false)) else (some false)) else (some false))) else (some false))) else (some false))) else (some false))) else (some false))) = some true := H
  have A5 := Aside0.mk A50
  (try clear A50)
  replace H := Option.bind_eq_some_iff.mp H
  obtain ⟨t265, A60, H⟩ := H
  replace H : (if t265 = 0 then ((probe_Home.f 1).bind fun t266 => (if t266 = 9 then ((probe_Home.f 2).bind fun t267 => (if t267 = 3 then ((probe_Home.f 8).bind fun t268 => (if t268 = 15 then ((probe_Home.f 22).bind fun t269 => (if t269 = 9 then (if t252 = 0 then (if t256 = 0 then (if t260 = 0 then (if t264 = 0 then (if (t255.length : Int) = 16 then (if 9 < (t255.length : Int) then (if ((rd_T71 t255 9).f0) = 1 then (if 10 < (t255.length : Int) then (if ((rd_T71 t255 10).f0) = 22 then (if (t259.length : Int) = 16 then (if 9 < (t259.length : Int) then (if (((rd_T71 t259 9).f0) == 22 && (((rd_T71 t259 9).f1) == 5 && (((rd_T71 t259 9).f2)))) = true then (if 10 < (t259.length : Int) then (if ((rd_T71 t259 10).f2 = true) then (some false) else (some (t263 == 2))) else (none)) else (some false)) else (none)) else (some false)) else (some false)) else (none)) else (some false)) else (none)) else (some false)) else (some false)) else (some false)) else (some false)) else (some false)) else (some false))) else (some false))) else (some false))) else (some false))) else (some false)) = some true := H
  have A6 := Aside0.mk A60
  (try clear A60)
  by_cases c7 : t265 = 0
  · rw [if_pos c7] at H
    have c7b0 : (t265 == 0) = true := beq_iff_eq.mpr c7
    have c7b1 : (t265 != 0) = false := bne_eq_false_iff_eq.mpr c7
    clear c7
    replace H := Option.bind_eq_some_iff.mp H
    obtain ⟨t266, A80, H⟩ := H
    replace H : (if t266 = 9 then ((probe_Home.f 2).bind fun t267 => (if t267 = 3 then ((probe_Home.f 8).bind fun t268 => (if t268 = 15 then ((probe_Home.f 22).bind fun t269 => (if t269 = 9 then (if t252 = 0 then (if t256 = 0 then (if t260 = 0 then (if t264 = 0 then (if (t255.length : Int) = 16 then (if 9 < (t255.length : Int) then (if ((rd_T71 t255 9).f0) = 1 then (if 10 < (t255.length : Int) then (if ((rd_T71 t255 10).f0) = 22 then (if (t259.length : Int) = 16 then (if 9 < (t259.length : Int) then (if (((rd_T71 t259 9).f0) == 22 && (((rd_T71 t259 9).f1) == 5 && (((rd_T71 t259 9).f2)))) = true then (if 10 < (t259.length : Int) then (if ((rd_T71 t259 10).f2 = true) then (some false) else (some (t263 == 2))) else (none)) else (some false)) else (none)) else (some false)) else (some false)) else (none)) else (some false)) else (none)) else (some false)) else (some false)) else (some false)) else (some false)) else (some false)) else (some false))) else (some false))) else (some false))) else (some false)) = some true := H
    have A8 := Aside0.mk A80
    (try clear A80)
    by_cases c9 : t266 = 9
    · rw [if_pos c9] at H
      have c9b0 : (t266 == 9) = true := beq_iff_eq.mpr c9
      have c9b1 : (t266 != 9) = false := bne_eq_false_iff_eq.mpr c9
      clear c9
      replace H := Option.bind_eq_some_iff.mp H
      obtain ⟨t267, A100, H⟩ := H
      replace H : (if t267 = 3 then ((probe_Home.f 8).bind fun t268 => (if t268 = 15 then ((probe_Home.f 22).bind fun t269 => (if t269 = 9 then (if t252 = 0 then (if t256 = 0 then (if t260 = 0 then (if t264 = 0 then (if (t255.length : Int) = 16 then (if 9 < (t255.length : Int) then (if ((rd_T71 t255 9).f0) = 1 then (if 10 < (t255.length : Int) then (if ((rd_T71 t255 10).f0) = 22 then (if (t259.length : Int) = 16 then (if 9 < (t259.length : Int) then (if (((rd_T71 t259 9).f0) == 22 && (((rd_T71 t259 9).f1) == 5 && (((rd_T71 t259 9).f2)))) = true then (if 10 < (t259.length : Int) then (if ((rd_T71 t259 10).f2 = true) then (some false) else (some (t263 == 2))) else (none)) else (some false)) else (none)) else (some false)) else (some false)) else (none)) else (some false)) else (none)) else (some false)) else (some false)) else (some false)) else (some false)) else (some false)) else (some false))) else (some false))) else (some false)) = some true := H
      have A10 := Aside0.mk A100
      (try clear A100)
      by_cases c11 : t267 = 3
      · rw [if_pos c11] at H
        have c11b0 : (t267 == 3) = true := beq_iff_eq.mpr c11
        have c11b1 : (t267 != 3) = false := bne_eq_false_iff_eq.mpr c11
        clear c11
        replace H := Option.bind_eq_some_iff.mp H
        obtain ⟨t268, A120, H⟩ := H
        replace H : (if t268 = 15 then ((probe_Home.f 22).bind fun t269 => (if t269 = 9 then (if t252 = 0 then (if t256 = 0 then (if t260 = 0 then (if t264 = 0 then (if (t255.length : Int) = 16 then (if 9 < (t255.length : Int) then (if ((rd_T71 t255 9).f0) = 1 then (if 10 < (t255.length : Int) then (if ((rd_T71 t255 10).f0) = 22 then (if (t259.length : Int) = 16 then (if 9 < (t259.length : Int) then (if (((rd_T71 t259 9).f0) == 22 && (((rd_T71 t259 9).f1) == 5 && (((rd_T71 t259 9).f2)))) = true then (if 10 < (t259.length : Int) then (if ((rd_T71 t259 10).f2 = true) then (some false) else (some (t263 == 2))) else (none)) else (some false)) else (none)) else (some false)) else (some false)) else (none)) else (some false)) else (none)) else (some false)) else (some false)) else (some false)) else (some false)) else (some false)) else (some false))) else (some false)) = some true := H
        have A12 := Aside0.mk A120
        (try clear A120)
        by_cases c13 : t268 = 15
        · rw [if_pos c13] at H
          have c13b0 : (t268 == 15) = true := beq_iff_eq.mpr c13
          have c13b1 : (t268 != 15) = false := bne_eq_false_iff_eq.mpr c13
          clear c13
          replace H := Option.bind_eq_some_iff.mp H
          obtain ⟨t269, A140, H⟩ := H
          replace H : (if t269 = 9 then (if t252 = 0 then (if t256 = 0 then (if t260 = 0 then (if t264 = 0 then (if (t255.length : Int) = 16 then (if 9 < (t255.length : Int) then (if ((rd_T71 t255 9).f0) = 1 then (if 10 < (t255.length : Int) then (if ((rd_T71 t255 10).f0) = 22 then (if (t259.length : Int) = 16 then (if 9 < (t259.length : Int) then (if (((rd_T71 t259 9).f0) == 22 && (((rd_T71 t259 9).f1) == 5 && (((rd_T71 t259 9).f2)))) = true then (if 10 < (t259.length : Int) then (if ((rd_T71 t259 10).f2 = true) then (some false) else (some (t263 == 2))) else (none)) else (some false)) else (none)) else (some false)) else (some false)) else (none)) else (some false)) else (none)) else (some false)) else (some false)) else (some false)) else (some false)) else (some false)) else (some false)) = some true := H
          have A14 := Aside0.mk A140
          (try clear A140)
          by_cases c15 : t269 = 9
          · rw [if_pos c15] at H
            have c15b0 : (t269 == 9) = true := beq_iff_eq.mpr c15
            have c15b1 : (t269 != 9) = false := bne_eq_false_iff_eq.mpr c15
            clear c15
            by_cases c16 : t252 = 0
            · rw [if_pos c16] at H
              have c16b0 : (t252 == 0) = true := beq_iff_eq.mpr c16
              have c16b1 : (t252 != 0) = false := bne_eq_false_iff_eq.mpr c16
              clear c16
              by_cases c17 : t256 = 0
              · rw [if_pos c17] at H
                have c17b0 : (t256 == 0) = true := beq_iff_eq.mpr c17
                have c17b1 : (t256 != 0) = false := bne_eq_false_iff_eq.mpr c17
                clear c17
                by_cases c18 : t260 = 0
                · rw [if_pos c18] at H
                  have c18b0 : (t260 == 0) = true := beq_iff_eq.mpr c18
                  have c18b1 : (t260 != 0) = false := bne_eq_false_iff_eq.mpr c18
                  clear c18
                  by_cases c19 : t264 = 0
                  · rw [if_pos c19] at H
                    have c19b0 : (t264 == 0) = true := beq_iff_eq.mpr c19
                    have c19b1 : (t264 != 0) = false := bne_eq_false_iff_eq.mpr c19
                    clear c19
                    by_cases c20 : (t255.length : Int) = 16
                    · rw [if_pos c20] at H
                      have c20b0 : ((t255.length : Int) == 16) = true := beq_iff_eq.mpr c20
                      have c20b1 : ((t255.length : Int) != 16) = false := bne_eq_false_iff_eq.mpr c20
                      clear c20
                      by_cases c21 : 9 < (t255.length : Int)
                      · rw [if_pos c21] at H
                        have c21b0 : decide (9 < (t255.length : Int)) = true := decide_eq_true c21
                        have c21b1 : decide (9 < t255.length) = true := decide_eq_true (by omega)
                        clear c21
                        by_cases c22 : ((rd_T71 t255 9).f0) = 1
                        · rw [if_pos c22] at H
                          have c22b0 : (((rd_T71 t255 9).f0) == 1) = true := beq_iff_eq.mpr c22
                          have c22b1 : (((rd_T71 t255 9).f0) != 1) = false := bne_eq_false_iff_eq.mpr c22
                          clear c22
                          by_cases c23 : 10 < (t255.length : Int)
                          · rw [if_pos c23] at H
                            have c23b0 : decide (10 < (t255.length : Int)) = true := decide_eq_true c23
                            have c23b1 : decide (10 < t255.length) = true := decide_eq_true (by omega)
                            clear c23
                            by_cases c24 : ((rd_T71 t255 10).f0) = 22
                            · rw [if_pos c24] at H
                              have c24b0 : (((rd_T71 t255 10).f0) == 22) = true := beq_iff_eq.mpr c24
                              have c24b1 : (((rd_T71 t255 10).f0) != 22) = false := bne_eq_false_iff_eq.mpr c24
                              clear c24
                              by_cases c25 : (t259.length : Int) = 16
                              · rw [if_pos c25] at H
                                have c25b0 : ((t259.length : Int) == 16) = true := beq_iff_eq.mpr c25
                                have c25b1 : ((t259.length : Int) != 16) = false := bne_eq_false_iff_eq.mpr c25
                                clear c25
                                by_cases c26 : 9 < (t259.length : Int)
                                · rw [if_pos c26] at H
                                  have c26b0 : decide (9 < (t259.length : Int)) = true := decide_eq_true c26
                                  have c26b1 : decide (9 < t259.length) = true := decide_eq_true (by omega)
                                  clear c26
                                  by_cases c27 : (((rd_T71 t259 9).f0) == 22 && (((rd_T71 t259 9).f1) == 5 && (((rd_T71 t259 9).f2)))) = true
                                  · rw [if_pos c27] at H
                                    have c27b0 : (((rd_T71 t259 9).f0) == 22 && (((rd_T71 t259 9).f1) == 5 && (((rd_T71 t259 9).f2)))) = true := c27
                                    (try (have c27b1 : decide (((rd_T71 t259 9).f0) = 22 && (((rd_T71 t259 9).f1) == 5 && (((rd_T71 t259 9).f2)))) = true := by simpa using c27))
                                    (try (have c27b2 : (((rd_T71 t259 9).f0) == 22 && (((rd_T71 t259 9).f1) == 5 && (((rd_T71 t259 9).f2)))) = true := by simpa using c27))
                                    clear c27
                                    by_cases c28 : 10 < (t259.length : Int)
                                    · rw [if_pos c28] at H
                                      have c28b0 : decide (10 < (t259.length : Int)) = true := decide_eq_true c28
                                      have c28b1 : decide (10 < t259.length) = true := decide_eq_true (by omega)
                                      clear c28
                                      obtain ⟨bq29, hbq29⟩ : ∃ b_ : Bool, b_ = ((rd_T71 t259 10).f2) := ⟨_, rfl⟩
                                      replace H : (if (bq29 = true) then (some false) else (some (t263 == 2))) = some true := by rw [← hbq29] at H; exact H
                                      have Nbq29 := Aside0.mk hbq29
                                      (try clear hbq29)
                                      by_cases c30 : (bq29 = true)
                                      · subst c30
                                        have H1 : (some false) = some true := by rw [if_pos rfl] at H; exact H
                                        clear H
                                        have H := H1
                                        clear H1
                                        exact absurd H (by simp)
                                      · replace c30 := Bool.eq_false_iff.mpr c30
                                        subst c30
                                        have H1 : (some (t263 == 2)) = some true := by rw [if_neg (show ¬ (false = true) by decide)] at H; exact H
                                        clear H
                                        have H := H1
                                        (try clear H1)
                                        have HRT := Aside0.mk (Option.some.inj H)
                                        clear H
                                        go_enter Try.func42, Try.ntmps42
                                        go_wp2_with (first | ((with_reducible refine gate_callee (f := 41) rfl ?_); refine goesE (some 11) rfl rfl Try.func41 (by kernel_rfl) rfl #[] rfl ?_; (with_reducible refine (probe_New.calls  t248 _ A1.out).mono ?_); rintro e w31 ⟨v249, rfl, ho0, hb⟩; refine ⟨_, rfl, ?_⟩; have n0_ := Aside0.mk (Kd.R_lower ho0 (below_size (pB HB.out))); have n1_ := Aside0.mk (below_step (pB HB.out) hb); clear HB; have HO250 := n0_; have HB := n1_; clear n0_ n1_; (try clear hb); (try clear hb2); (try clear hk); (try clear hi); (try clear ho0); obtain ⟨Ao32, co32, eo32⟩ := Kd.R_slice HO250.out; subst eo32) | ((with_reducible refine gate_callee (f := 36) rfl ?_); refine goesE (some 12) rfl rfl Try.func36 (by kernel_rfl) rfl #[.slice Ao32 t248.length co32, .int .u32 1, .int .i64 4] rfl ?_; (with_reducible refine (probe_Put.calls k _ _ t248 1 4 t251 t252 _ ?side1 ?side2 A2.out).mono ?_); (case side1 => exact Kd.pC ((Kd.R_reads' HO250.out).2.2)); (case side2 => exact (Kd.R_reads' HO250.out).2.1); rintro e w33 ⟨v253, rfl, ho0, hb⟩; refine ⟨_, rfl, ?_⟩; have n0_ := Aside0.mk (Kd.R_elder' (Kd.pR HO250.out) (Kd.R_base ho0) hb); have n1_ := Aside0.mk (Kd.R_lower (Kd.R_new' ho0 (Kd.R_lt (Kd.pR HO250.out))) (below_size (pB HB.out))); have n2_ := Aside0.mk (below_step (pB HB.out) hb); clear HO250; clear HB; have HO250 := n0_; have HO254 := n1_; have HB := n2_; clear n0_ n1_ n2_; (try clear hb); (try clear hb2); (try clear hk); (try clear hi); (try clear ho0); obtain ⟨Ao34, co34, eo34⟩ := Kd.R_slice HO254.out; subst eo34) | ((with_reducible refine gate_callee (f := 36) rfl ?_); refine goesE (some 17) rfl rfl Try.func36 (by kernel_rfl) rfl #[.slice Ao34 t251.length co34, .int .u32 22, .int .i64 5] rfl ?_; (with_reducible refine (probe_Put.calls k _ _ t251 22 5 t255 t256 _ ?side1 ?side2 A3.out).mono ?_); (case side1 => exact Kd.pC ((Kd.R_reads' HO254.out).2.2)); (case side2 => exact (Kd.R_reads' HO254.out).2.1); rintro e w35 ⟨v257, rfl, ho0, hb⟩; refine ⟨_, rfl, ?_⟩; have n0_ := Aside0.mk (Kd.R_elder' (Kd.pR HO250.out) (Kd.R_base ho0) hb); have n1_ := Aside0.mk (Kd.R_elder' (Kd.pR HO254.out) (Kd.R_base ho0) hb); have n2_ := Aside0.mk (Kd.R_lower (Kd.R_new' (Kd.R_new' ho0 (Kd.R_lt (Kd.pR HO250.out))) (Kd.R_lt (Kd.pR HO254.out))) (below_size (pB HB.out))); have n3_ := Aside0.mk (below_step (pB HB.out) hb); clear HO250; clear HO254; clear HB; have HO250 := n0_; have HO254 := n1_; have HO258 := n2_; have HB := n3_; clear n0_ n1_ n2_ n3_; (try clear hb); (try clear hb2); (try clear hk); (try clear hi); (try clear ho0); obtain ⟨Ao36, co36, eo36⟩ := Kd.R_slice HO258.out; subst eo36) | ((with_reducible refine gate_callee (f := 38) rfl ?_); refine goesE (some 22) rfl rfl Try.func38 (by kernel_rfl) rfl #[.slice Ao36 t255.length co36, .int .u32 1] rfl ?_; (with_reducible refine (probe_Drop.calls k _ _ t255 1 t259 t260 _ ?side1 ?side2 A4.out).mono ?_); (case side1 => exact Kd.pC ((Kd.R_reads' HO258.out).2.2)); (case side2 => exact (Kd.R_reads' HO258.out).2.1); rintro e w37 ⟨v261, rfl, ho0, hb⟩; refine ⟨_, rfl, ?_⟩; have n2_ := Aside0.mk (Kd.R_elder' (Kd.pR HO258.out) (Kd.R_base ho0) hb); have n3_ := Aside0.mk (Kd.R_lower (Kd.R_new' (Kd.R_new' (Kd.R_new' ho0 (Kd.R_lt (Kd.pR HO250.out))) (Kd.R_lt (Kd.pR HO254.out))) (Kd.R_lt (Kd.pR HO258.out))) (below_size (pB HB.out))); have n4_ := Aside0.mk (below_step (pB HB.out) hb); (try clear HO250); (try clear HO254); clear HO258; clear HB; have HO258 := n2_; have HO262 := n3_; have HB := n4_; clear n2_ n3_ n4_; (try clear hb); (try clear hb2); (try clear hk); (try clear hi); (try clear ho0); obtain ⟨Ao38, co38, eo38⟩ := Kd.R_slice HO262.out; subst eo38) | ((with_reducible refine gate_callee (f := 16) rfl ?_); refine goesE (some 27) rfl rfl Try.func16 (by kernel_rfl) rfl #[.slice Ao38 t259.length co38, .int .u32 1] rfl ?_; (with_reducible refine (probe_Steps.calls k _ _ t259 1 t263 t264 _ ?side1 ?side2 A5.out).mono ?_); (case side1 => exact Kd.pC ((Kd.R_reads' HO262.out).2.2)); (case side2 => exact (Kd.R_reads' HO262.out).2.1); rintro e w39 ⟨rfl, hb⟩; refine ⟨_, rfl, ?_⟩; have n2_ := Aside0.mk (Kd.R_below (Kd.pR HO258.out) hb); have n3_ := Aside0.mk (Kd.R_below (Kd.pR HO262.out) hb); have n4_ := Aside0.mk (below_step (pB HB.out) hb); (try clear HO250); (try clear HO254); clear HO258; clear HO262; clear HB; have HO258 := n2_; have HO262 := n3_; have HB := n4_; clear n2_ n3_ n4_; (try clear hb); (try clear hb2); (try clear hk); (try clear hi)) | ((with_reducible refine gate_callee (f := 18) rfl ?_); refine goesE (some 30) rfl rfl Try.func18 (by kernel_rfl) rfl #[.int .u32 0] rfl ?_; (with_reducible refine (probe_Home.calls 0 t265 _ A6.out).mono ?_); rintro e w' ⟨rfl, ⟨nd, rfl⟩⟩; refine ⟨_, rfl, ?_⟩) | (go_at_call 18; (with_reducible refine (probe_Home.calls 1 t266 _ A8.out).mono ?_); rintro e w' ⟨rfl, ⟨nd, rfl⟩⟩) | (go_at_call 18; (with_reducible refine (probe_Home.calls 2 t267 _ A10.out).mono ?_); rintro e w' ⟨rfl, ⟨nd, rfl⟩⟩) | (go_at_call 18; (with_reducible refine (probe_Home.calls 8 t268 _ A12.out).mono ?_); rintro e w' ⟨rfl, ⟨nd, rfl⟩⟩) | (go_at_call 18; (with_reducible refine (probe_Home.calls 22 t269 _ A14.out).mono ?_); rintro e w' ⟨rfl, ⟨nd, rfl⟩⟩; have p270 : 0 ≤ (9 : Int) := (by omega); have q270 : 9 < (t255.length : Int) := od; obtain ⟨ad270, e270, hx270_0, hx270_1, hx270_2⟩ := at_T71 (Kd.R_reads' HO258.out).2.2 9 p270 q270; (try rw [← Nbq29.out] at hx270_2); cases e270; (try simp only [show (9 : Int).toNat = 9 from rfl, Nat.reduceMul, Nat.reduceEqDiff, Go.Addr.add, ↓reduceIte] at hx270_0); (try simp only [show (9 : Int).toNat = 9 from rfl, Nat.reduceMul, Nat.reduceEqDiff, Go.Addr.add, ↓reduceIte] at hx270_1); (try simp only [show (9 : Int).toNat = 9 from rfl, Nat.reduceMul, Nat.reduceEqDiff, Go.Addr.add, ↓reduceIte] at hx270_2); have qi270 : (9 < t255.length) = True := eq_true (by omega); (try rw [show ((9 : Int)).toNat = 9 from rfl] at hx270_0); (try rw [show 9 * 3 = 27 from rfl] at hx270_0); (try rw [show ((9 : Int)).toNat = 9 from rfl] at hx270_1); (try rw [show 9 * 3 = 27 from rfl] at hx270_1); (try rw [show ((9 : Int)).toNat = 9 from rfl] at hx270_2); (try rw [show 9 * 3 = 27 from rfl] at hx270_2); replace p270 := eq_true p270; replace q270 := eq_true q270; have p271 : 0 ≤ (10 : Int) := (by omega); have q271 : 10 < (t255.length : Int) := od; obtain ⟨ad271, e271, hx271_0, hx271_1, hx271_2⟩ := at_T71 (Kd.R_reads' HO258.out).2.2 10 p271 q271; (try rw [← Nbq29.out] at hx271_2); obtain rfl : ad270 = ad271 := (by injection e271); (try simp only [show (10 : Int).toNat = 10 from rfl, Nat.reduceMul, Nat.reduceEqDiff, Go.Addr.add, ↓reduceIte] at hx271_0); (try simp only [show (10 : Int).toNat = 10 from rfl, Nat.reduceMul, Nat.reduceEqDiff, Go.Addr.add, ↓reduceIte] at hx271_1); (try simp only [show (10 : Int).toNat = 10 from rfl, Nat.reduceMul, Nat.reduceEqDiff, Go.Addr.add, ↓reduceIte] at hx271_2); have qi271 : (10 < t255.length) = True := eq_true (by omega); (try rw [show ((10 : Int)).toNat = 10 from rfl] at hx271_0); (try rw [show 10 * 3 = 30 from rfl] at hx271_0); (try rw [show ((10 : Int)).toNat = 10 from rfl] at hx271_1); (try rw [show 10 * 3 = 30 from rfl] at hx271_1); (try rw [show ((10 : Int)).toNat = 10 from rfl] at hx271_2); (try rw [show 10 * 3 = 30 from rfl] at hx271_2); replace p271 := eq_true p271; replace q271 := eq_true q271; have p272 : 0 ≤ (9 : Int) := (by omega); have q272 : 9 < (t259.length : Int) := od; obtain ⟨ad272, e272, hx272_0, hx272_1, hx272_2⟩ := at_T71 (Kd.R_reads' HO262.out).2.2 9 p272 q272; (try rw [← Nbq29.out] at hx272_2); cases e272; (try simp only [show (9 : Int).toNat = 9 from rfl, Nat.reduceMul, Nat.reduceEqDiff, Go.Addr.add, ↓reduceIte] at hx272_0); (try simp only [show (9 : Int).toNat = 9 from rfl, Nat.reduceMul, Nat.reduceEqDiff, Go.Addr.add, ↓reduceIte] at hx272_1); (try simp only [show (9 : Int).toNat = 9 from rfl, Nat.reduceMul, Nat.reduceEqDiff, Go.Addr.add, ↓reduceIte] at hx272_2); have qi272 : (9 < t259.length) = True := eq_true (by omega); (try rw [show ((9 : Int)).toNat = 9 from rfl] at hx272_0); (try rw [show 9 * 3 = 27 from rfl] at hx272_0); (try rw [show ((9 : Int)).toNat = 9 from rfl] at hx272_1); (try rw [show 9 * 3 = 27 from rfl] at hx272_1); (try rw [show ((9 : Int)).toNat = 9 from rfl] at hx272_2); (try rw [show 9 * 3 = 27 from rfl] at hx272_2); replace p272 := eq_true p272; replace q272 := eq_true q272; have p273 : 0 ≤ (10 : Int) := (by omega); have q273 : 10 < (t259.length : Int) := od; obtain ⟨ad273, e273, hx273_0, hx273_1, hx273_2⟩ := at_T71 (Kd.R_reads' HO262.out).2.2 10 p273 q273; (try rw [← Nbq29.out] at hx273_2); obtain rfl : ad272 = ad273 := (by injection e273); (try simp only [show (10 : Int).toNat = 10 from rfl, Nat.reduceMul, Nat.reduceEqDiff, Go.Addr.add, ↓reduceIte] at hx273_0); (try simp only [show (10 : Int).toNat = 10 from rfl, Nat.reduceMul, Nat.reduceEqDiff, Go.Addr.add, ↓reduceIte] at hx273_1); (try simp only [show (10 : Int).toNat = 10 from rfl, Nat.reduceMul, Nat.reduceEqDiff, Go.Addr.add, ↓reduceIte] at hx273_2); have qi273 : (10 < t259.length) = True := eq_true (by omega); (try rw [show ((10 : Int)).toNat = 10 from rfl] at hx273_0); (try rw [show 10 * 3 = 30 from rfl] at hx273_0); (try rw [show ((10 : Int)).toNat = 10 from rfl] at hx273_1); (try rw [show 10 * 3 = 30 from rfl] at hx273_1); (try rw [show ((10 : Int)).toNat = 10 from rfl] at hx273_2); (try rw [show 10 * 3 = 30 from rfl] at hx273_2); replace p273 := eq_true p273; replace q273 := eq_true q273))
                                        go_ret
                                        exact ⟨by first | rfl | (simp [errW_none, errW_some] <;> rfl) | (simp [*, errW_none, errW_some] <;> rfl) | (rw [HRT.out] <;> rfl) | (simp [HRT.out]; done) | (have h_ := HRT.out; simp [*] at h_ ⊢ <;> first | done | assumption | omega) | (have h_ := HRT.out; simp [*] at h_; done), pB HB.out⟩
                                    · rw [if_neg c28] at H
                                      exact absurd H (by simp)
                                  · rw [if_neg c27] at H
                                    have c27b0 : (((rd_T71 t259 9).f0) == 22 && (((rd_T71 t259 9).f1) == 5 && (((rd_T71 t259 9).f2)))) = false := by simpa using c27
                                    (try (have c27b1 : decide (((rd_T71 t259 9).f0) = 22 && (((rd_T71 t259 9).f1) == 5 && (((rd_T71 t259 9).f2)))) = false := by simpa using c27))
                                    (try (have c27b2 : (((rd_T71 t259 9).f0) == 22 && (((rd_T71 t259 9).f1) == 5 && (((rd_T71 t259 9).f2)))) = false := by simpa using c27))
                                    (try (have c27b3 : ¬ (((rd_T71 t259 9).f0) = 22 && (((rd_T71 t259 9).f1) == 5 && (((rd_T71 t259 9).f2)))) := by simpa using c27))
                                    clear c27
                                    exact absurd H (by simp)
                                · rw [if_neg c26] at H
                                  exact absurd H (by simp)
                              · rw [if_neg c25] at H
                                have c25b0 : ((t259.length : Int) == 16) = false := beq_eq_false_iff_ne.mpr c25
                                have c25b1 : ((t259.length : Int) != 16) = true := bne_iff_ne.mpr c25
                                exact absurd H (by simp)
                            · rw [if_neg c24] at H
                              have c24b0 : (((rd_T71 t255 10).f0) == 22) = false := beq_eq_false_iff_ne.mpr c24
                              have c24b1 : (((rd_T71 t255 10).f0) != 22) = true := bne_iff_ne.mpr c24
                              exact absurd H (by simp)
                          · rw [if_neg c23] at H
                            exact absurd H (by simp)
                        · rw [if_neg c22] at H
                          have c22b0 : (((rd_T71 t255 9).f0) == 1) = false := beq_eq_false_iff_ne.mpr c22
                          have c22b1 : (((rd_T71 t255 9).f0) != 1) = true := bne_iff_ne.mpr c22
                          exact absurd H (by simp)
                      · rw [if_neg c21] at H
                        exact absurd H (by simp)
                    · rw [if_neg c20] at H
                      have c20b0 : ((t255.length : Int) == 16) = false := beq_eq_false_iff_ne.mpr c20
                      have c20b1 : ((t255.length : Int) != 16) = true := bne_iff_ne.mpr c20
                      exact absurd H (by simp)
                  · rw [if_neg c19] at H
                    have c19b0 : (t264 == 0) = false := beq_eq_false_iff_ne.mpr c19
                    have c19b1 : (t264 != 0) = true := bne_iff_ne.mpr c19
                    exact absurd H (by simp)
                · rw [if_neg c18] at H
                  have c18b0 : (t260 == 0) = false := beq_eq_false_iff_ne.mpr c18
                  have c18b1 : (t260 != 0) = true := bne_iff_ne.mpr c18
                  exact absurd H (by simp)
              · rw [if_neg c17] at H
                have c17b0 : (t256 == 0) = false := beq_eq_false_iff_ne.mpr c17
                have c17b1 : (t256 != 0) = true := bne_iff_ne.mpr c17
                exact absurd H (by simp)
            · rw [if_neg c16] at H
              have c16b0 : (t252 == 0) = false := beq_eq_false_iff_ne.mpr c16
              have c16b1 : (t252 != 0) = true := bne_iff_ne.mpr c16
              exact absurd H (by simp)
          · rw [if_neg c15] at H
            have c15b0 : (t269 == 9) = false := beq_eq_false_iff_ne.mpr c15
            have c15b1 : (t269 != 9) = true := bne_iff_ne.mpr c15
            exact absurd H (by simp)
        · rw [if_neg c13] at H
          have c13b0 : (t268 == 15) = false := beq_eq_false_iff_ne.mpr c13
          have c13b1 : (t268 != 15) = true := bne_iff_ne.mpr c13
          exact absurd H (by simp)
      · rw [if_neg c11] at H
        have c11b0 : (t267 == 3) = false := beq_eq_false_iff_ne.mpr c11
        have c11b1 : (t267 != 3) = true := bne_iff_ne.mpr c11
        exact absurd H (by simp)
    · rw [if_neg c9] at H
      have c9b0 : (t266 == 9) = false := beq_eq_false_iff_ne.mpr c9
      have c9b1 : (t266 != 9) = true := bne_iff_ne.mpr c9
      exact absurd H (by simp)
  · rw [if_neg c7] at H
    have c7b0 : (t265 == 0) = false := beq_eq_false_iff_ne.mpr c7
    have c7b1 : (t265 != 0) = true := bne_iff_ne.mpr c7
    exact absurd H (by simp)

end Go.Proofs.Ytlgfopdindklnaa.PProbe
