-- printed by a program of this session (a turned copy of the kit's print); Lean checks it
import Derived.Test.YtlgfopdindklnaaPProbex0
namespace Go.Proofs.Ytlgfopdindklnaa.PProbe
open Go.RowKit Go.Proofs.YtlgfopdindklnaaW.PrintWords Go.Proofs.YtlgfopdindklnaaW.PrintLast Go.Proofs.YtlgfopdindklnaaW.PrintMore
attribute [local go_sem] max2_int min2_int max_two min_two max_three min_three max_four min_four   -- for this text's walks alone
set_option linter.unusedVariables false
set_option linter.unusedSimpArgs false

/-! ### probe_Home: function 18 -/
def probe_Home.f (a0 : Int) : Option (Int) := some (((a0 * 2654435769) % 4294967296) / 268435456)
set_option maxHeartbeats 8000000 in
set_option maxRecDepth 100000 in
theorem probe_Home.calls (a0 : Int) (r : Int) (w : World) (h : probe_Home.f a0 = some r) :
    Calls Try.prog 18 #[.int .u32 a0] w fun e w' => e = .returned (.int .i64 r) ∧ Drawn0 w w' := by
  have H : (some (((a0 * 2654435769) % 4294967296) / 268435456)) = some r := h
  clear h
  obtain rfl := Option.some.inj H
  go_enter Try.func18, Try.ntmps18
  go_wp2
  go_ret
  exact ⟨by first | rfl | (simp; done) | (simp [*]; done), by repeat (first | exact Drawn0.refl _ | apply Drawn0.step)⟩

/-! ### probe_wrap: function 52 -/
def probe_wrap.f (a0 : Int) : Option (Int) := some (Go.bits .and .i64 a0 15)
set_option maxHeartbeats 8000000 in
set_option maxRecDepth 100000 in
theorem probe_wrap.calls (a0 : Int) (r : Int) (w : World) (h : probe_wrap.f a0 = some r) :
    Calls Try.prog 52 #[.int .i64 a0] w fun e w' => e = .returned (.int .i64 r) ∧ Drawn0 w w' := by
  have H : (some (Go.bits .and .i64 a0 15)) = some r := h
  clear h
  obtain rfl := Option.some.inj H
  go_enter Try.func52, Try.ntmps52
  go_wp2
  go_ret
  exact ⟨by first | rfl | (simp; done) | (simp [*]; done), by repeat (first | exact Drawn0.refl _ | apply Drawn0.step)⟩

/-! ### probe_look: function 46 -/
def probe_look.l0 : Nat → List (S71) → Int → Int → Int → Option (Int × Int)
  | 0, _, _, _, _ => none
  | k + 1, x0, x1, x4, x5 => if 0 ≤ x4 then (if x4 < (x0.length : Int) then (if (rd_T71 x0 x4).f2 = true then (if ((rd_T71 x0 x4).f0) = x1 then (some (x4, wrap64 (x5 + 1))) else ((probe_wrap.f (wrap64 (x4 + 1))).bind fun t104 => (probe_look.l0 k x0 x1 t104 (wrap64 (x5 + 1))))) else (some (x4, wrap64 (x5 + 1)))) else (none)) else (none)
def probe_look.f (k : Nat) (l0 : List (S71)) (a1 : Int) : Option (Int × Int) := (probe_Home.f a1).bind fun t101 => (probe_look.l0 k l0 a1 t101 0)
theorem probe_look.mono_l : ∀ k, (∀ y0 y1 y2 y3, LeO (probe_look.l0 k y0 y1 y2 y3) (probe_look.l0 (k + 1) y0 y1 y2 y3))
  | 0 => fun _ _ _ _ r h => by simp [probe_look.l0] at h
  | k + 1 => by
    have ih0 := probe_look.mono_l k
    · intro y0 y1 y2 y3
      unfold probe_look.l0
      repeat' first
      | (with_reducible exact ih0 _ _ _ _)
      | (with_reducible exact LeO.refl _)
      | (with_reducible exact LeO.none _)
      | (with_reducible refine LeO.ite ?_ ?_)
      | (with_reducible refine LeO.bind ?_ (fun _ => ?_))
      | exact ih0 _ _ _ _
      | exact LeO.none _
      | refine LeO.ite ?_ ?_
      | refine LeO.bind ?_ (fun _ => ?_)
theorem probe_look.mono : ∀ a0 a1 k, LeO (probe_look.f k a0 a1) (probe_look.f (k + 1) a0 a1) := by
  intro a0 a1 k
  have ih0 := probe_look.mono_l k
  unfold probe_look.f
  repeat' first
      | (with_reducible exact ih0 _ _ _ _)
      | (with_reducible exact LeO.refl _)
      | (with_reducible exact LeO.none _)
      | (with_reducible refine LeO.ite ?_ ?_)
      | (with_reducible refine LeO.bind ?_ (fun _ => ?_))
      | exact ih0 _ _ _ _
      | exact LeO.none _
      | refine LeO.ite ?_ ?_
      | refine LeO.bind ?_ (fun _ => ?_)
set_option maxHeartbeats 8000000 in
set_option maxRecDepth 100000 in
theorem probe_look.calls (k : Nat) (A0 : Option Addr) (c0 : Nat) (l0 : List (S71)) (a1 : Int) (r1 : Int) (r2 : Int) (w : World) (hr0 : Kd.C k71 w A0 l0.length l0) (hc0 : l0.length ≤ c0) (h : probe_look.f k l0 a1 = some (r1, r2)) :
    Calls Try.prog 46 #[.slice A0 l0.length c0, .int .u32 a1] w fun e w' => e = .returned (.tuple #[.int .i64 r1, .int .i64 r2]) ∧ Drawn0 w w' := by
  have HR0 := Aside0.mk hr0
  have HC0 := Aside0.mk hc0
  clear hr0 hc0
  have H : ((probe_Home.f a1).bind fun t101 => (probe_look.l0 k l0 a1 t101 0)) = some (r1, r2) := h
  clear h
  replace H := Option.bind_eq_some_iff.mp H
  obtain ⟨t101, A30, H⟩ := H
  replace H : (probe_look.l0 k l0 a1 t101 0) = some (r1, r2) := H
  have A3 := Aside0.mk A30
  clear A30
  have H' := Aside0.mk H
  clear H
  go_enter Try.func46, Try.ntmps46
  go_wp2_with (first | ((with_reducible refine gate_callee (f := 18) rfl ?_); refine goesE (some 7) rfl rfl Try.func18 (by kernel_rfl) rfl #[.int .u32 a1] rfl ?_; (with_reducible refine (probe_Home.calls a1 t101 _ A3.out).mono ?_); rintro e w' ⟨rfl, ⟨nd, rfl⟩⟩; refine ⟨_, rfl, ?_⟩))
  go_loopg [4, 5] k (fun kq v4 v5 w' => ∃ (x4_1 : Int) (x5_1 : Int), v4 = .int .i64 x4_1 ∧ v5 = .int .i64 x5_1 ∧ Aside0 (probe_look.l0 kq l0 a1 x4_1 x5_1 = some (r1, r2)) ∧ Aside0 (kq ≤ k) ∧ Drawn0 w w')
  case atStart => exact ⟨(t101), (0), (by first | rfl | (simp; done) | (simp [*]; done)), (by first | rfl | (simp; done) | (simp [*]; done)), H', ⟨Nat.le_refl _⟩, by repeat (first | exact Drawn0.refl _ | apply Drawn0.step)⟩
  case round =>
    clear H'
    try clear c1
    try clear p2
    obtain ⟨x4_1, x5_1, rfl, rfl, HA, HK1, ⟨m1, rfl⟩⟩ := hrel
    cases gk with
    | zero => exact absurd HA.out (by simp [probe_look.l0])
    | succ k1 =>
      have H := HA.out
      clear HA
      simp only [probe_look.l0] at H
      by_cases c4 : 0 ≤ x4_1
      · rw [if_pos c4] at H
        have c4b0 : decide (0 ≤ x4_1) = true := decide_eq_true c4
        clear c4
        by_cases c5 : x4_1 < (l0.length : Int)
        · rw [if_pos c5] at H
          have c5b0 : decide (x4_1 < (l0.length : Int)) = true := decide_eq_true c5
          clear c5
          obtain ⟨bq6, hbq6⟩ : ∃ b_ : Bool, b_ = ((rd_T71 l0 x4_1).f2) := ⟨_, rfl⟩
          replace H : (if bq6 = true then (if ((rd_T71 l0 x4_1).f0) = a1 then (some (x4_1, wrap64 (x5_1 + 1))) else ((probe_wrap.f (wrap64 (x4_1 + 1))).bind fun t104 => (probe_look.l0 k1 l0 a1 t104 (wrap64 (x5_1 + 1))))) else (some (x4_1, wrap64 (x5_1 + 1)))) = some (r1, r2) := by rw [← hbq6] at H; exact H
          have Nbq6 := Aside0.mk hbq6
          clear hbq6
          by_cases c7 : bq6 = true
          · subst c7
            have H1 : (if ((rd_T71 l0 x4_1).f0) = a1 then (some (x4_1, wrap64 (x5_1 + 1))) else ((probe_wrap.f (wrap64 (x4_1 + 1))).bind fun t104 => (probe_look.l0 k1 l0 a1 t104 (wrap64 (x5_1 + 1))))) = some (r1, r2) := by rw [if_pos rfl] at H; exact H
            clear H
            have H := H1
            clear H1
            by_cases c8 : ((rd_T71 l0 x4_1).f0) = a1
            · rw [if_pos c8] at H
              have c8b0 : (((rd_T71 l0 x4_1).f0) == a1) = true := beq_iff_eq.mpr c8
              have c8b1 : (((rd_T71 l0 x4_1).f0) != a1) = false := bne_eq_false_iff_eq.mpr c8
              clear c8
              simp only [Option.some.injEq, Prod.mk.injEq] at H
              obtain ⟨rfl, rfl⟩ := H
              have p102 : 0 ≤ (x4_1 : Int) := od
              have q102 : x4_1 < (l0.length : Int) := od
              obtain ⟨ad102, e102, hx102_0, hx102_1, hx102_2⟩ := at_T71 HR0.out x4_1 p102 q102
              (try rw [← Nbq6.out] at hx102_2)
              cases e102
              replace p102 := eq_true p102
              replace q102 := eq_true q102
              have p103 : 0 ≤ (x4_1 : Int) := od
              have q103 : x4_1 < (l0.length : Int) := od
              obtain ⟨ad103, e103, hx103_0, hx103_1, hx103_2⟩ := at_T71 HR0.out x4_1 p103 q103
              (try rw [← Nbq6.out] at hx103_2)
              obtain rfl : ad102 = ad103 := (by injection e103)
              replace p103 := eq_true p103
              replace q103 := eq_true q103
              go_wp2
              go_ret2
              exact ⟨by first | rfl | (simp; done) | (simp [*]; done), by repeat (first | exact Drawn0.refl _ | apply Drawn0.step)⟩
            · rw [if_neg c8] at H
              have c8b0 : (((rd_T71 l0 x4_1).f0) == a1) = false := beq_eq_false_iff_ne.mpr c8
              have c8b1 : (((rd_T71 l0 x4_1).f0) != a1) = true := bne_iff_ne.mpr c8
              replace H := Option.bind_eq_some_iff.mp H
              obtain ⟨t104, A90, H⟩ := H
              replace H : (probe_look.l0 k1 l0 a1 t104 (wrap64 (x5_1 + 1))) = some (r1, r2) := H
              have A9 := Aside0.mk A90
              clear A90
              have H' := Aside0.mk H
              clear H
              have p102 : 0 ≤ (x4_1 : Int) := od
              have q102 : x4_1 < (l0.length : Int) := od
              obtain ⟨ad102, e102, hx102_0, hx102_1, hx102_2⟩ := at_T71 HR0.out x4_1 p102 q102
              (try rw [← Nbq6.out] at hx102_2)
              cases e102
              replace p102 := eq_true p102
              replace q102 := eq_true q102
              have p103 : 0 ≤ (x4_1 : Int) := od
              have q103 : x4_1 < (l0.length : Int) := od
              obtain ⟨ad103, e103, hx103_0, hx103_1, hx103_2⟩ := at_T71 HR0.out x4_1 p103 q103
              (try rw [← Nbq6.out] at hx103_2)
              obtain rfl : ad102 = ad103 := (by injection e103)
              replace p103 := eq_true p103
              replace q103 := eq_true q103
              go_wp2_with (first | ((with_reducible refine gate_callee (f := 52) rfl ?_); refine goesE (some 24) rfl rfl Try.func52 (by kernel_rfl) rfl #[.int .i64 (wrap64 (x4_1 + 1))] rfl ?_; (with_reducible refine (probe_wrap.calls (wrap64 (x4_1 + 1)) t104 _ A9.out).mono ?_); rintro e w' ⟨rfl, ⟨nd, rfl⟩⟩; refine ⟨_, rfl, ?_⟩))
              go_roundg k1
              case measure => have := HK1.out; omega
              case rel => exact ⟨(t104), (wrap64 (x5_1 + 1)), (by first | rfl | (simp; done) | (simp [*]; done)), (by first | rfl | (simp; done) | (simp [*]; done)), H', ⟨by have := HK1.out; omega⟩, by repeat (first | exact Drawn0.refl _ | apply Drawn0.step)⟩
          · replace c7 := Bool.eq_false_iff.mpr c7
            subst c7
            have H1 : (some (x4_1, wrap64 (x5_1 + 1))) = some (r1, r2) := by rw [if_neg (show ¬ (false = true) by decide)] at H; exact H
            clear H
            have H := H1
            clear H1
            simp only [Option.some.injEq, Prod.mk.injEq] at H
            obtain ⟨rfl, rfl⟩ := H
            have p102 : 0 ≤ (x4_1 : Int) := od
            have q102 : x4_1 < (l0.length : Int) := od
            obtain ⟨ad102, e102, hx102_0, hx102_1, hx102_2⟩ := at_T71 HR0.out x4_1 p102 q102
            (try rw [← Nbq6.out] at hx102_2)
            cases e102
            replace p102 := eq_true p102
            replace q102 := eq_true q102
            go_wp2
            go_ret2
            exact ⟨by first | rfl | (simp; done) | (simp [*]; done), by repeat (first | exact Drawn0.refl _ | apply Drawn0.step)⟩
        · rw [if_neg c5] at H
          exact absurd H (by simp)
      · rw [if_neg c4] at H
        exact absurd H (by simp)

end Go.Proofs.Ytlgfopdindklnaa.PProbe
