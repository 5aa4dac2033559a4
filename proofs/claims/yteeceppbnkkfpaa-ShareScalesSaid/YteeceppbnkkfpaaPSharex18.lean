-- printed by a program of this session (a turned copy of the kit's print); Lean checks it
import Derived.Test.YteeceppbnkkfpaaPSharex0
namespace Go.Proofs.Yteeceppbnkkfpaa.PShare
open Go.RowKit Go.Proofs.YteeceppbnkkfpaaW.PrintWords Go.Proofs.YteeceppbnkkfpaaW.PrintLast Go.Proofs.YteeceppbnkkfpaaW.PrintMore
attribute [local go_sem] max2_int min2_int max_two min_two max_three min_three max_four min_four   -- for this text's walks alone
set_option linter.unusedVariables false
set_option linter.unusedSimpArgs false

/-! ### spigotref36_Check: function 21 -/
def spigotref36_Check.l0 : Nat → List (S37) → Int → Option (Int)
  | 0, _, _ => none
  | k + 1, x0, x3 => if x3 < (x0.length : Int) then (if 0 ≤ x3 then (if ((rd_T37 x0 x3).f0) < 0 then (some 8) else (if ((rd_T37 x0 x3).f0) > 1000000000 then (some 8) else (if ((rd_T37 x0 x3).f1) < 1 then (some 8) else (if ((rd_T37 x0 x3).f1) > 1000 then (some 8) else (spigotref36_Check.l0 k x0 (wrap64 (x3 + 1))))))) else (none)) else (some 0)
def spigotref36_Check.f (k : Nat) (l0 : List (S37)) : Option (Int) := if (l0.length : Int) > 12 then (some 4) else (spigotref36_Check.l0 k l0 0)
theorem spigotref36_Check.mono_l : ∀ k, (∀ y0 y1, LeO (spigotref36_Check.l0 k y0 y1) (spigotref36_Check.l0 (k + 1) y0 y1))
  | 0 => fun _ _ r h => by simp [spigotref36_Check.l0] at h
  | k + 1 => by
    have ih0 := spigotref36_Check.mono_l k
    · intro y0 y1
      unfold spigotref36_Check.l0
      repeat' first
      | (with_reducible exact ih0 _ _)
      | (with_reducible exact LeO.refl _)
      | (with_reducible exact LeO.none _)
      | (with_reducible refine LeO.ite ?_ ?_)
      | (with_reducible refine LeO.bind ?_ (fun _ => ?_))
      | exact ih0 _ _
      | exact LeO.none _
      | refine LeO.ite ?_ ?_
      | refine LeO.bind ?_ (fun _ => ?_)
theorem spigotref36_Check.mono : ∀ a0 k, LeO (spigotref36_Check.f k a0) (spigotref36_Check.f (k + 1) a0) := by
  intro a0 k
  have ih0 := spigotref36_Check.mono_l k
  unfold spigotref36_Check.f
  repeat' first
      | (with_reducible exact ih0 _ _)
      | (with_reducible exact LeO.refl _)
      | (with_reducible exact LeO.none _)
      | (with_reducible refine LeO.ite ?_ ?_)
      | (with_reducible refine LeO.bind ?_ (fun _ => ?_))
      | exact ih0 _ _
      | exact LeO.none _
      | refine LeO.ite ?_ ?_
      | refine LeO.bind ?_ (fun _ => ?_)
set_option maxHeartbeats 8000000 in
set_option maxRecDepth 100000 in
theorem spigotref36_Check.calls (k : Nat) (A0 : Option Addr) (c0 : Nat) (l0 : List (S37)) (r : Int) (w : World) (hr0 : Kd.C k37 w A0 l0.length l0) (hc0 : l0.length ≤ c0) (h : spigotref36_Check.f k l0 = some r) :
    Calls Try.prog 21 #[.slice A0 l0.length c0] w fun e w' => e = .returned (.int .i64 r) ∧ Drawn0 w w' := by
  have HR0 := Aside0.mk hr0
  have HC0 := Aside0.mk hc0
  clear hr0 hc0
  have H : (if (l0.length : Int) > 12 then (some 4) else (spigotref36_Check.l0 k l0 0)) = some r := h
  clear h
  by_cases c2 : (l0.length : Int) > 12
  · rw [if_pos c2] at H
    have c2b0 : decide (12 < (l0.length : Int)) = true := decide_eq_true c2
    have c2b1 : decide (12 < l0.length) = true := decide_eq_true (by omega)
    clear c2
    obtain rfl := Option.some.inj H
    go_enter Try.func21, Try.ntmps21
    go_wp2
    go_ret
    exact ⟨by first | rfl | (simp; done) | (simp [*]; done), by repeat (first | exact Drawn0.refl _ | apply Drawn0.step)⟩
  · rw [if_neg c2] at H
    have c2b0 : decide (12 < (l0.length : Int)) = false := decide_eq_false c2
    have c2b1 : decide (12 < l0.length) = false := decide_eq_false (by omega)
    clear c2
    have H' := Aside0.mk H
    clear H
    go_enter Try.func21, Try.ntmps21
    go_wp2
    go_loopg [3] k (fun kq v3 w' => ∃ (x3_1 : Int), v3 = .int .i64 x3_1 ∧ Aside0 (spigotref36_Check.l0 kq l0 x3_1 = some r) ∧ Aside0 (kq ≤ k) ∧ Drawn0 w w')
    case atStart => exact ⟨(0), (by first | rfl | (simp; done) | (simp [*]; done)), H', ⟨Nat.le_refl _⟩, by repeat (first | exact Drawn0.refl _ | apply Drawn0.step)⟩
    case round =>
      clear H'
      try clear c2
      try clear c2b0
      try clear c2b1
      try clear p2
      obtain ⟨x3_1, rfl, HA, HK1, ⟨m1, rfl⟩⟩ := hrel
      cases gk with
      | zero => exact absurd HA.out (by simp [spigotref36_Check.l0])
      | succ k1 =>
        have H := HA.out
        clear HA
        simp only [spigotref36_Check.l0] at H
        by_cases c3 : x3_1 < (l0.length : Int)
        · rw [if_pos c3] at H
          have c3b0 : decide (x3_1 < (l0.length : Int)) = true := decide_eq_true c3
          clear c3
          by_cases c4 : 0 ≤ x3_1
          · rw [if_pos c4] at H
            have c4b0 : decide (0 ≤ x3_1) = true := decide_eq_true c4
            clear c4
            by_cases c5 : ((rd_T37 l0 x3_1).f0) < 0
            · rw [if_pos c5] at H
              have c5b0 : decide (((rd_T37 l0 x3_1).f0) < 0) = true := decide_eq_true c5
              clear c5
              obtain rfl := Option.some.inj H
              have p274 : 0 ≤ (x3_1 : Int) := od
              have q274 : x3_1 < (l0.length : Int) := od
              obtain ⟨ad274, e274, hx274_0, hx274_1⟩ := at_T37 HR0.out x3_1 p274 q274
              cases e274
              replace p274 := eq_true p274
              replace q274 := eq_true q274
              go_wp2
              go_ret
              exact ⟨by first | rfl | (simp; done) | (simp [*]; done), by repeat (first | exact Drawn0.refl _ | apply Drawn0.step)⟩
            · rw [if_neg c5] at H
              have c5b0 : decide (((rd_T37 l0 x3_1).f0) < 0) = false := decide_eq_false c5
              clear c5
              by_cases c6 : ((rd_T37 l0 x3_1).f0) > 1000000000
              · rw [if_pos c6] at H
                have c6b0 : decide (1000000000 < ((rd_T37 l0 x3_1).f0)) = true := decide_eq_true c6
                clear c6
                obtain rfl := Option.some.inj H
                have p274 : 0 ≤ (x3_1 : Int) := od
                have q274 : x3_1 < (l0.length : Int) := od
                obtain ⟨ad274, e274, hx274_0, hx274_1⟩ := at_T37 HR0.out x3_1 p274 q274
                cases e274
                replace p274 := eq_true p274
                replace q274 := eq_true q274
                have p275 : 0 ≤ (x3_1 : Int) := od
                have q275 : x3_1 < (l0.length : Int) := od
                obtain ⟨ad275, e275, hx275_0, hx275_1⟩ := at_T37 HR0.out x3_1 p275 q275
                obtain rfl : ad274 = ad275 := (by injection e275)
                replace p275 := eq_true p275
                replace q275 := eq_true q275
                go_wp2
                go_ret
                exact ⟨by first | rfl | (simp; done) | (simp [*]; done), by repeat (first | exact Drawn0.refl _ | apply Drawn0.step)⟩
              · rw [if_neg c6] at H
                have c6b0 : decide (1000000000 < ((rd_T37 l0 x3_1).f0)) = false := decide_eq_false c6
                clear c6
                by_cases c7 : ((rd_T37 l0 x3_1).f1) < 1
                · rw [if_pos c7] at H
                  have c7b0 : decide (((rd_T37 l0 x3_1).f1) < 1) = true := decide_eq_true c7
                  clear c7
                  obtain rfl := Option.some.inj H
                  have p274 : 0 ≤ (x3_1 : Int) := od
                  have q274 : x3_1 < (l0.length : Int) := od
                  obtain ⟨ad274, e274, hx274_0, hx274_1⟩ := at_T37 HR0.out x3_1 p274 q274
                  cases e274
                  replace p274 := eq_true p274
                  replace q274 := eq_true q274
                  have p275 : 0 ≤ (x3_1 : Int) := od
                  have q275 : x3_1 < (l0.length : Int) := od
                  obtain ⟨ad275, e275, hx275_0, hx275_1⟩ := at_T37 HR0.out x3_1 p275 q275
                  obtain rfl : ad274 = ad275 := (by injection e275)
                  replace p275 := eq_true p275
                  replace q275 := eq_true q275
                  have p276 : 0 ≤ (x3_1 : Int) := od
                  have q276 : x3_1 < (l0.length : Int) := od
                  obtain ⟨ad276, e276, hx276_0, hx276_1⟩ := at_T37 HR0.out x3_1 p276 q276
                  obtain rfl : ad274 = ad276 := (by injection e276)
                  replace p276 := eq_true p276
                  replace q276 := eq_true q276
                  go_wp2
                  go_ret
                  exact ⟨by first | rfl | (simp; done) | (simp [*]; done), by repeat (first | exact Drawn0.refl _ | apply Drawn0.step)⟩
                · rw [if_neg c7] at H
                  have c7b0 : decide (((rd_T37 l0 x3_1).f1) < 1) = false := decide_eq_false c7
                  clear c7
                  by_cases c8 : ((rd_T37 l0 x3_1).f1) > 1000
                  · rw [if_pos c8] at H
                    have c8b0 : decide (1000 < ((rd_T37 l0 x3_1).f1)) = true := decide_eq_true c8
                    clear c8
                    obtain rfl := Option.some.inj H
                    have p274 : 0 ≤ (x3_1 : Int) := od
                    have q274 : x3_1 < (l0.length : Int) := od
                    obtain ⟨ad274, e274, hx274_0, hx274_1⟩ := at_T37 HR0.out x3_1 p274 q274
                    cases e274
                    replace p274 := eq_true p274
                    replace q274 := eq_true q274
                    have p275 : 0 ≤ (x3_1 : Int) := od
                    have q275 : x3_1 < (l0.length : Int) := od
                    obtain ⟨ad275, e275, hx275_0, hx275_1⟩ := at_T37 HR0.out x3_1 p275 q275
                    obtain rfl : ad274 = ad275 := (by injection e275)
                    replace p275 := eq_true p275
                    replace q275 := eq_true q275
                    have p276 : 0 ≤ (x3_1 : Int) := od
                    have q276 : x3_1 < (l0.length : Int) := od
                    obtain ⟨ad276, e276, hx276_0, hx276_1⟩ := at_T37 HR0.out x3_1 p276 q276
                    obtain rfl : ad274 = ad276 := (by injection e276)
                    replace p276 := eq_true p276
                    replace q276 := eq_true q276
                    have p277 : 0 ≤ (x3_1 : Int) := od
                    have q277 : x3_1 < (l0.length : Int) := od
                    obtain ⟨ad277, e277, hx277_0, hx277_1⟩ := at_T37 HR0.out x3_1 p277 q277
                    obtain rfl : ad274 = ad277 := (by injection e277)
                    replace p277 := eq_true p277
                    replace q277 := eq_true q277
                    go_wp2
                    go_ret
                    exact ⟨by first | rfl | (simp; done) | (simp [*]; done), by repeat (first | exact Drawn0.refl _ | apply Drawn0.step)⟩
                  · rw [if_neg c8] at H
                    have c8b0 : decide (1000 < ((rd_T37 l0 x3_1).f1)) = false := decide_eq_false c8
                    clear c8
                    have H' := Aside0.mk H
                    clear H
                    have p274 : 0 ≤ (x3_1 : Int) := od
                    have q274 : x3_1 < (l0.length : Int) := od
                    obtain ⟨ad274, e274, hx274_0, hx274_1⟩ := at_T37 HR0.out x3_1 p274 q274
                    cases e274
                    replace p274 := eq_true p274
                    replace q274 := eq_true q274
                    have p275 : 0 ≤ (x3_1 : Int) := od
                    have q275 : x3_1 < (l0.length : Int) := od
                    obtain ⟨ad275, e275, hx275_0, hx275_1⟩ := at_T37 HR0.out x3_1 p275 q275
                    obtain rfl : ad274 = ad275 := (by injection e275)
                    replace p275 := eq_true p275
                    replace q275 := eq_true q275
                    have p276 : 0 ≤ (x3_1 : Int) := od
                    have q276 : x3_1 < (l0.length : Int) := od
                    obtain ⟨ad276, e276, hx276_0, hx276_1⟩ := at_T37 HR0.out x3_1 p276 q276
                    obtain rfl : ad274 = ad276 := (by injection e276)
                    replace p276 := eq_true p276
                    replace q276 := eq_true q276
                    have p277 : 0 ≤ (x3_1 : Int) := od
                    have q277 : x3_1 < (l0.length : Int) := od
                    obtain ⟨ad277, e277, hx277_0, hx277_1⟩ := at_T37 HR0.out x3_1 p277 q277
                    obtain rfl : ad274 = ad277 := (by injection e277)
                    replace p277 := eq_true p277
                    replace q277 := eq_true q277
                    go_wp2
                    go_roundg k1
                    case measure => have := HK1.out; omega
                    case rel => exact ⟨(wrap64 (x3_1 + 1)), (by first | rfl | (simp; done) | (simp [*]; done)), H', ⟨by have := HK1.out; omega⟩, by repeat (first | exact Drawn0.refl _ | apply Drawn0.step)⟩
          · rw [if_neg c4] at H
            exact absurd H (by simp)
        · rw [if_neg c3] at H
          have c3b0 : decide (x3_1 < (l0.length : Int)) = false := decide_eq_false c3
          clear c3
          obtain rfl := Option.some.inj H
          go_wp2
          go_ret
          exact ⟨by first | rfl | (simp; done) | (simp [*]; done), by repeat (first | exact Drawn0.refl _ | apply Drawn0.step)⟩

end Go.Proofs.Yteeceppbnkkfpaa.PShare
