-- printed by a program of this session (a turned copy of the kit's print); Lean checks it
import Derived.Test.YtlgfopdindklnaaPProbex0
import Derived.Test.YtlgfopdindklnaaPProbex4
import Derived.Test.YtlgfopdindklnaaPProbex6
namespace Go.Proofs.Ytlgfopdindklnaa.PProbe
open Go.RowKit Go.Proofs.YtlgfopdindklnaaW.PrintWords Go.Proofs.YtlgfopdindklnaaW.PrintLast Go.Proofs.YtlgfopdindklnaaW.PrintMore
attribute [local go_sem] max2_int min2_int max_two min_two max_three min_three max_four min_four   -- for this text's walks alone
set_option linter.unusedVariables false
set_option linter.unusedSimpArgs false

/-! ### spigotref14_Steps: function 17 -/
def spigotref14_Steps.l0 : Nat → List (S71) → Int → Int → Int → Option (Int × Int)
  | 0, _, _, _, _ => none
  | k + 1, x0, x1, x6, x7 => if 0 ≤ x7 then (if x7 < (x0.length : Int) then (if ((rd_T71 x0 x7).f2 = true) then (if ((rd_T71 x0 x7).f0) = x1 then (some (wrap64 (x6 + 1), 0)) else (spigotref14_Steps.l0 k x0 x1 (wrap64 (x6 + 1)) (Int.tmod (wrap64 (x7 + 1)) 16))) else (some (wrap64 (x6 + 1), 0))) else (none)) else (none)
def spigotref14_Steps.f (k : Nat) (l0 : List (S71)) (a1 : Int) : Option (Int × Int) := (spigotref14_Check.f k l0).bind fun t137 => (if t137 = 0 then ((spigotref14_Home.f a1).bind fun t139 => (spigotref14_Steps.l0 k l0 a1 0 t139)) else ((spigotref14_Check.f k l0).bind fun t138 => (some (0, t138))))
theorem spigotref14_Steps.mono_l : ∀ k, (∀ y0 y1 y2 y3, LeO (spigotref14_Steps.l0 k y0 y1 y2 y3) (spigotref14_Steps.l0 (k + 1) y0 y1 y2 y3))
  | 0 => fun _ _ _ _ r h => by simp [spigotref14_Steps.l0] at h
  | k + 1 => by
    have ih0 := spigotref14_Steps.mono_l k
    · intro y0 y1 y2 y3
      unfold spigotref14_Steps.l0
      repeat' first
      | (with_reducible exact ih0 _ _ _ _)
      | (with_reducible exact spigotref14_Check.mono _ _)
      | (with_reducible exact LeO.refl _)
      | (with_reducible exact LeO.none _)
      | (with_reducible refine LeO.ite ?_ ?_)
      | (with_reducible refine LeO.bind ?_ (fun _ => ?_))
      | exact ih0 _ _ _ _
      | exact spigotref14_Check.mono _ _
      | exact LeO.none _
      | refine LeO.ite ?_ ?_
      | refine LeO.bind ?_ (fun _ => ?_)
theorem spigotref14_Steps.mono : ∀ a0 a1 k, LeO (spigotref14_Steps.f k a0 a1) (spigotref14_Steps.f (k + 1) a0 a1) := by
  intro a0 a1 k
  have ih0 := spigotref14_Steps.mono_l k
  unfold spigotref14_Steps.f
  repeat' first
      | (with_reducible exact ih0 _ _ _ _)
      | (with_reducible exact spigotref14_Check.mono _ _)
      | (with_reducible exact LeO.refl _)
      | (with_reducible exact LeO.none _)
      | (with_reducible refine LeO.ite ?_ ?_)
      | (with_reducible refine LeO.bind ?_ (fun _ => ?_))
      | exact ih0 _ _ _ _
      | exact spigotref14_Check.mono _ _
      | exact LeO.none _
      | refine LeO.ite ?_ ?_
      | refine LeO.bind ?_ (fun _ => ?_)
set_option maxHeartbeats 8000000 in
set_option maxRecDepth 100000 in
theorem spigotref14_Steps.calls (k : Nat) (A0 : Option Addr) (c0 : Nat) (l0 : List (S71)) (a1 : Int) (r1 : Int) (r2 : Int) (w : World) (hr0 : Kd.C k71 w A0 l0.length l0) (hc0 : l0.length ≤ c0) (h : spigotref14_Steps.f k l0 a1 = some (r1, r2)) :
    Calls Try.prog 17 #[.slice A0 l0.length c0, .int .u32 a1] w fun e w' => e = .returned (.tuple #[.int .i64 r1, .int .i64 r2]) ∧ Drawn0 w w' := by
  have HR0 := Aside0.mk hr0
  have HC0 := Aside0.mk hc0
  clear hr0 hc0
  have H : ((spigotref14_Check.f k l0).bind fun t137 => (if t137 = 0 then ((spigotref14_Home.f a1).bind fun t139 => (spigotref14_Steps.l0 k l0 a1 0 t139)) else ((spigotref14_Check.f k l0).bind fun t138 => (some (0, t138))))) = some (r1, r2) := h
  clear h
  replace H := Option.bind_eq_some_iff.mp H
  obtain ⟨t137, A30, H⟩ := H
  replace H : (if t137 = 0 then ((spigotref14_Home.f a1).bind fun t139 => (spigotref14_Steps.l0 k l0 a1 0 t139)) else ((spigotref14_Check.f k l0).bind fun t138 => (some (0, t138)))) = some (r1, r2) := H
  have A3 := Aside0.mk A30
  clear A30
  by_cases c4 : t137 = 0
  · rw [if_pos c4] at H
    have c4b0 : (t137 == 0) = true := beq_iff_eq.mpr c4
    have c4b1 : (t137 != 0) = false := bne_eq_false_iff_eq.mpr c4
    clear c4
    replace H := Option.bind_eq_some_iff.mp H
    obtain ⟨t139, A50, H⟩ := H
    replace H : (spigotref14_Steps.l0 k l0 a1 0 t139) = some (r1, r2) := H
    have A5 := Aside0.mk A50
    clear A50
    have H' := Aside0.mk H
    clear H
    go_enter Try.func17, Try.ntmps17
    go_wp2_with (first | ((with_reducible refine gate_callee (f := 21) rfl ?_); refine goesE (some 9) rfl rfl Try.func21 (by kernel_rfl) rfl #[.slice A0 l0.length c0] rfl ?_; (with_reducible refine (spigotref14_Check.calls k _ _ l0 t137 _ ?side1 ?side2 A3.out).mono ?_); (case side1 => exact Kd.pC HR0.out); (case side2 => exact HC0.out); rintro e w' ⟨rfl, ⟨nd, rfl⟩⟩; refine ⟨_, rfl, ?_⟩) | ((with_reducible refine gate_callee (f := 19) rfl ?_); refine goesE (some 14) rfl rfl Try.func19 (by kernel_rfl) rfl #[.int .u32 a1] rfl ?_; (with_reducible refine (spigotref14_Home.calls a1 t139 _ A5.out).mono ?_); rintro e w' ⟨rfl, ⟨nd, rfl⟩⟩; refine ⟨_, rfl, ?_⟩))
    go_loopg [6, 7] k (fun kq v6 v7 w' => ∃ (x6_1 : Int) (x7_1 : Int), v6 = .int .i64 x6_1 ∧ v7 = .int .i64 x7_1 ∧ Aside0 (spigotref14_Steps.l0 kq l0 a1 x6_1 x7_1 = some (r1, r2)) ∧ Aside0 (kq ≤ k) ∧ Drawn0 w w')
    case atStart => exact ⟨(0), (t139), (by first | rfl | (simp; done) | (simp [*]; done)), (by first | rfl | (simp; done) | (simp [*]; done)), H', ⟨Nat.le_refl _⟩, by repeat (first | exact Drawn0.refl _ | apply Drawn0.step)⟩
    case round =>
      clear H'
      try clear c1
      try clear c2
      try clear p2
      try clear c4
      try clear c4b0
      try clear c4b1
      obtain ⟨x6_1, x7_1, rfl, rfl, HA, HK1, ⟨m1, rfl⟩⟩ := hrel
      cases gk with
      | zero => exact absurd HA.out (by simp [spigotref14_Steps.l0])
      | succ k1 =>
        have H := HA.out
        clear HA
        simp only [spigotref14_Steps.l0] at H
        by_cases c6 : 0 ≤ x7_1
        · rw [if_pos c6] at H
          have c6b0 : decide (0 ≤ x7_1) = true := decide_eq_true c6
          clear c6
          by_cases c7 : x7_1 < (l0.length : Int)
          · rw [if_pos c7] at H
            have c7b0 : decide (x7_1 < (l0.length : Int)) = true := decide_eq_true c7
            clear c7
            obtain ⟨bq8, hbq8⟩ : ∃ b_ : Bool, b_ = ((rd_T71 l0 x7_1).f2) := ⟨_, rfl⟩
            replace H : (if (bq8 = true) then (if ((rd_T71 l0 x7_1).f0) = a1 then (some (wrap64 (x6_1 + 1), 0)) else (spigotref14_Steps.l0 k1 l0 a1 (wrap64 (x6_1 + 1)) (Int.tmod (wrap64 (x7_1 + 1)) 16))) else (some (wrap64 (x6_1 + 1), 0))) = some (r1, r2) := by rw [← hbq8] at H; exact H
            have Nbq8 := Aside0.mk hbq8
            clear hbq8
            by_cases c9 : (bq8 = true)
            · subst c9
              have H1 : (if ((rd_T71 l0 x7_1).f0) = a1 then (some (wrap64 (x6_1 + 1), 0)) else (spigotref14_Steps.l0 k1 l0 a1 (wrap64 (x6_1 + 1)) (Int.tmod (wrap64 (x7_1 + 1)) 16))) = some (r1, r2) := by rw [if_pos rfl] at H; exact H
              clear H
              have H := H1
              clear H1
              by_cases c10 : ((rd_T71 l0 x7_1).f0) = a1
              · rw [if_pos c10] at H
                have c10b0 : (((rd_T71 l0 x7_1).f0) == a1) = true := beq_iff_eq.mpr c10
                have c10b1 : (((rd_T71 l0 x7_1).f0) != a1) = false := bne_eq_false_iff_eq.mpr c10
                clear c10
                simp only [Option.some.injEq, Prod.mk.injEq] at H
                obtain ⟨rfl, rfl⟩ := H
                have p140 : 0 ≤ (x7_1 : Int) := od
                have q140 : x7_1 < (l0.length : Int) := od
                obtain ⟨ad140, e140, hx140_0, hx140_1, hx140_2⟩ := at_T71 HR0.out x7_1 p140 q140
                (try rw [← Nbq8.out] at hx140_2)
                cases e140
                replace p140 := eq_true p140
                replace q140 := eq_true q140
                have p141 : 0 ≤ (x7_1 : Int) := od
                have q141 : x7_1 < (l0.length : Int) := od
                obtain ⟨ad141, e141, hx141_0, hx141_1, hx141_2⟩ := at_T71 HR0.out x7_1 p141 q141
                (try rw [← Nbq8.out] at hx141_2)
                obtain rfl : ad140 = ad141 := (by injection e141)
                replace p141 := eq_true p141
                replace q141 := eq_true q141
                go_wp2
                go_ret2
                exact ⟨by first | rfl | (simp; done) | (simp [*]; done), by repeat (first | exact Drawn0.refl _ | apply Drawn0.step)⟩
              · rw [if_neg c10] at H
                have c10b0 : (((rd_T71 l0 x7_1).f0) == a1) = false := beq_eq_false_iff_ne.mpr c10
                have c10b1 : (((rd_T71 l0 x7_1).f0) != a1) = true := bne_iff_ne.mpr c10
                have H' := Aside0.mk H
                clear H
                have p140 : 0 ≤ (x7_1 : Int) := od
                have q140 : x7_1 < (l0.length : Int) := od
                obtain ⟨ad140, e140, hx140_0, hx140_1, hx140_2⟩ := at_T71 HR0.out x7_1 p140 q140
                (try rw [← Nbq8.out] at hx140_2)
                cases e140
                replace p140 := eq_true p140
                replace q140 := eq_true q140
                have p141 : 0 ≤ (x7_1 : Int) := od
                have q141 : x7_1 < (l0.length : Int) := od
                obtain ⟨ad141, e141, hx141_0, hx141_1, hx141_2⟩ := at_T71 HR0.out x7_1 p141 q141
                (try rw [← Nbq8.out] at hx141_2)
                obtain rfl : ad140 = ad141 := (by injection e141)
                replace p141 := eq_true p141
                replace q141 := eq_true q141
                go_wp2
                go_roundg k1
                case measure => have := HK1.out; omega
                case rel => exact ⟨(wrap64 (x6_1 + 1)), (Int.tmod (wrap64 (x7_1 + 1)) 16), (by first | rfl | (simp; done) | (simp [*]; done)), (by first | rfl | (simp; done) | (simp [*]; done)), H', ⟨by have := HK1.out; omega⟩, by repeat (first | exact Drawn0.refl _ | apply Drawn0.step)⟩
            · replace c9 := Bool.eq_false_iff.mpr c9
              subst c9
              have H1 : (some (wrap64 (x6_1 + 1), 0)) = some (r1, r2) := by rw [if_neg (show ¬ (false = true) by decide)] at H; exact H
              clear H
              have H := H1
              clear H1
              simp only [Option.some.injEq, Prod.mk.injEq] at H
              obtain ⟨rfl, rfl⟩ := H
              have p140 : 0 ≤ (x7_1 : Int) := od
              have q140 : x7_1 < (l0.length : Int) := od
              obtain ⟨ad140, e140, hx140_0, hx140_1, hx140_2⟩ := at_T71 HR0.out x7_1 p140 q140
              (try rw [← Nbq8.out] at hx140_2)
              cases e140
              replace p140 := eq_true p140
              replace q140 := eq_true q140
              go_wp2
              go_ret2
              exact ⟨by first | rfl | (simp; done) | (simp [*]; done), by repeat (first | exact Drawn0.refl _ | apply Drawn0.step)⟩
          · rw [if_neg c7] at H
            exact absurd H (by simp)
        · rw [if_neg c6] at H
          exact absurd H (by simp)
  · rw [if_neg c4] at H
    have c4b0 : (t137 == 0) = false := beq_eq_false_iff_ne.mpr c4
    have c4b1 : (t137 != 0) = true := bne_iff_ne.mpr c4
    replace H := Option.bind_eq_some_iff.mp H
    obtain ⟨t138, A110, H⟩ := H
    replace H : (some (0, t138)) = some (r1, r2) := H
    have A11 := Aside0.mk A110
    clear A110
    simp only [Option.some.injEq, Prod.mk.injEq] at H
    obtain ⟨rfl, rfl⟩ := H
    go_enter Try.func17, Try.ntmps17
    go_wp2_with (first | ((with_reducible refine gate_callee (f := 21) rfl ?_); refine goesE (some 9) rfl rfl Try.func21 (by kernel_rfl) rfl #[.slice A0 l0.length c0] rfl ?_; (with_reducible refine (spigotref14_Check.calls k _ _ l0 t137 _ ?side1 ?side2 A3.out).mono ?_); (case side1 => exact Kd.pC HR0.out); (case side2 => exact HC0.out); rintro e w' ⟨rfl, ⟨nd, rfl⟩⟩; refine ⟨_, rfl, ?_⟩) | ((with_reducible refine gate_callee (f := 21) rfl ?_); refine goesE (some 12) rfl rfl Try.func21 (by kernel_rfl) rfl #[.slice A0 l0.length c0] rfl ?_; (with_reducible refine (spigotref14_Check.calls k _ _ l0 t138 _ ?side1 ?side2 A11.out).mono ?_); (case side1 => exact Kd.pC HR0.out); (case side2 => exact HC0.out); rintro e w' ⟨rfl, ⟨nd, rfl⟩⟩; refine ⟨_, rfl, ?_⟩))
    go_ret2
    exact ⟨by first | rfl | (simp; done) | (simp [*]; done), by repeat (first | exact Drawn0.refl _ | apply Drawn0.step)⟩

end Go.Proofs.Ytlgfopdindklnaa.PProbe
