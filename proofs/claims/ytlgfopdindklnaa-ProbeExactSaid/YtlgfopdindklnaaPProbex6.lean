-- printed by a program of this session (a turned copy of the kit's print); Lean checks it
import Derived.Test.YtlgfopdindklnaaPProbex0
import Derived.Test.YtlgfopdindklnaaPProbex1
import Derived.Test.YtlgfopdindklnaaPProbex4
import Derived.Test.YtlgfopdindklnaaPProbex5
namespace Go.Proofs.Ytlgfopdindklnaa.PProbe
open Go.RowKit Go.Proofs.YtlgfopdindklnaaW.PrintWords Go.Proofs.YtlgfopdindklnaaW.PrintLast Go.Proofs.YtlgfopdindklnaaW.PrintMore
attribute [local go_sem] max2_int min2_int max_two min_two max_three min_three max_four min_four   -- for this text's walks alone
set_option linter.unusedVariables false
set_option linter.unusedSimpArgs false

attribute [local go_sem high] eqA71
/-! ### spigotref14_Check: function 21 -/
mutual
def spigotref14_Check.j0 : Nat → List (S71) → Bool → Option (Int)
  | 0, _, _ => none
  | k + 1, x0, x12 => if x12 = true then (some 8) else (spigotref14_Check.l0 k x0 0)
def spigotref14_Check.l0 : Nat → List (S71) → Int → Option (Int)
  | 0, _, _ => none
  | k + 1, x0, x3 => if x3 < 16 then (if 0 ≤ x3 then (if x3 < (x0.length : Int) then (if ((rd_T71 x0 x3).f2 = true) then (if ((rd_T71 x0 x3).f1) < 0 then (spigotref14_Check.j2 k x0 x3 true) else (if ((rd_T71 x0 x3).f1) ≥ 16 then (spigotref14_Check.j2 k x0 x3 true) else ((spigotref14_At.f k x0 ((rd_T71 x0 x3).f0)).bind fun t125 => (spigotref14_Check.j2 k x0 x3 (t125 != x3))))) else (if (!(((rd_T71 x0 x3).f0) == 0) || (!(((rd_T71 x0 x3).f1) == 0) || (((rd_T71 x0 x3).f2)))) = true then (some 8) else (spigotref14_Check.l0 k x0 (wrap64 (x3 + 1))))) else (none)) else (none)) else (some 0)
def spigotref14_Check.j2 : Nat → List (S71) → Int → Bool → Option (Int)
  | 0, _, _, _ => none
  | k + 1, x0, x3, x53 => if x53 = true then (some 8) else (if 0 ≤ x3 then (if x3 < (x0.length : Int) then ((spigotref14_Home.f ((rd_T71 x0 x3).f0)).bind fun t127 => (spigotref14_Check.l1 k x0 x3 t127)) else (none)) else (none))
def spigotref14_Check.l1 : Nat → List (S71) → Int → Int → Option (Int)
  | 0, _, _, _ => none
  | k + 1, x0, x3, x4 => if x4 = x3 then (spigotref14_Check.l0 k x0 (wrap64 (x3 + 1))) else (if 0 ≤ x4 then (if x4 < (x0.length : Int) then (if ((rd_T71 x0 x4).f2 = true) then (spigotref14_Check.l1 k x0 x3 (Int.tmod (wrap64 (x4 + 1)) 16)) else (some 8)) else (none)) else (none))
end
def spigotref14_Check.f (k : Nat) (l0 : List (S71)) : Option (Int) := if (l0.length : Int) = 16 then ((spigotref14_Count.f k l0).bind fun t119 => (spigotref14_Check.j0 k l0 (decide (t119 > 12)))) else (spigotref14_Check.j0 k l0 true)
theorem spigotref14_Check.mono_l : ∀ k, (∀ y0 y1, LeO (spigotref14_Check.j0 k y0 y1) (spigotref14_Check.j0 (k + 1) y0 y1)) ∧ (∀ y0 y1, LeO (spigotref14_Check.l0 k y0 y1) (spigotref14_Check.l0 (k + 1) y0 y1)) ∧ (∀ y0 y1 y2, LeO (spigotref14_Check.j2 k y0 y1 y2) (spigotref14_Check.j2 (k + 1) y0 y1 y2)) ∧ (∀ y0 y1 y2, LeO (spigotref14_Check.l1 k y0 y1 y2) (spigotref14_Check.l1 (k + 1) y0 y1 y2))
  | 0 => ⟨fun _ _ r h => by simp [spigotref14_Check.j0] at h, fun _ _ r h => by simp [spigotref14_Check.l0] at h, fun _ _ _ r h => by simp [spigotref14_Check.j2] at h, fun _ _ _ r h => by simp [spigotref14_Check.l1] at h⟩
  | k + 1 => by
    obtain ⟨ih0, ih1, ih2, ih3⟩ := spigotref14_Check.mono_l k
    refine ⟨?_, ?_, ?_, ?_⟩
    · intro y0 y1
      unfold spigotref14_Check.j0
      repeat' first
      | (with_reducible exact ih0 _ _)
      | (with_reducible exact ih1 _ _)
      | (with_reducible exact ih2 _ _ _)
      | (with_reducible exact ih3 _ _ _)
      | (with_reducible exact spigotref14_At.mono _ _ _)
      | (with_reducible exact spigotref14_Count.mono _ _)
      | (with_reducible exact LeO.refl _)
      | (with_reducible exact LeO.none _)
      | (with_reducible refine LeO.ite ?_ ?_)
      | (with_reducible refine LeO.bind ?_ (fun _ => ?_))
      | exact ih0 _ _
      | exact ih1 _ _
      | exact ih2 _ _ _
      | exact ih3 _ _ _
      | exact spigotref14_At.mono _ _ _
      | exact spigotref14_Count.mono _ _
      | exact LeO.none _
      | refine LeO.ite ?_ ?_
      | refine LeO.bind ?_ (fun _ => ?_)
    · intro y0 y1
      unfold spigotref14_Check.l0
      repeat' first
      | (with_reducible exact ih0 _ _)
      | (with_reducible exact ih1 _ _)
      | (with_reducible exact ih2 _ _ _)
      | (with_reducible exact ih3 _ _ _)
      | (with_reducible exact spigotref14_At.mono _ _ _)
      | (with_reducible exact spigotref14_Count.mono _ _)
      | (with_reducible exact LeO.refl _)
      | (with_reducible exact LeO.none _)
      | (with_reducible refine LeO.ite ?_ ?_)
      | (with_reducible refine LeO.bind ?_ (fun _ => ?_))
      | exact ih0 _ _
      | exact ih1 _ _
      | exact ih2 _ _ _
      | exact ih3 _ _ _
      | exact spigotref14_At.mono _ _ _
      | exact spigotref14_Count.mono _ _
      | exact LeO.none _
      | refine LeO.ite ?_ ?_
      | refine LeO.bind ?_ (fun _ => ?_)
    · intro y0 y1 y2
      unfold spigotref14_Check.j2
      repeat' first
      | (with_reducible exact ih0 _ _)
      | (with_reducible exact ih1 _ _)
      | (with_reducible exact ih2 _ _ _)
      | (with_reducible exact ih3 _ _ _)
      | (with_reducible exact spigotref14_At.mono _ _ _)
      | (with_reducible exact spigotref14_Count.mono _ _)
      | (with_reducible exact LeO.refl _)
      | (with_reducible exact LeO.none _)
      | (with_reducible refine LeO.ite ?_ ?_)
      | (with_reducible refine LeO.bind ?_ (fun _ => ?_))
      | exact ih0 _ _
      | exact ih1 _ _
      | exact ih2 _ _ _
      | exact ih3 _ _ _
      | exact spigotref14_At.mono _ _ _
      | exact spigotref14_Count.mono _ _
      | exact LeO.none _
      | refine LeO.ite ?_ ?_
      | refine LeO.bind ?_ (fun _ => ?_)
    · intro y0 y1 y2
      unfold spigotref14_Check.l1
      repeat' first
      | (with_reducible exact ih0 _ _)
      | (with_reducible exact ih1 _ _)
      | (with_reducible exact ih2 _ _ _)
      | (with_reducible exact ih3 _ _ _)
      | (with_reducible exact spigotref14_At.mono _ _ _)
      | (with_reducible exact spigotref14_Count.mono _ _)
      | (with_reducible exact LeO.refl _)
      | (with_reducible exact LeO.none _)
      | (with_reducible refine LeO.ite ?_ ?_)
      | (with_reducible refine LeO.bind ?_ (fun _ => ?_))
      | exact ih0 _ _
      | exact ih1 _ _
      | exact ih2 _ _ _
      | exact ih3 _ _ _
      | exact spigotref14_At.mono _ _ _
      | exact spigotref14_Count.mono _ _
      | exact LeO.none _
      | refine LeO.ite ?_ ?_
      | refine LeO.bind ?_ (fun _ => ?_)
theorem spigotref14_Check.mono : ∀ a0 k, LeO (spigotref14_Check.f k a0) (spigotref14_Check.f (k + 1) a0) := by
  intro a0 k
  obtain ⟨ih0, ih1, ih2, ih3⟩ := spigotref14_Check.mono_l k
  unfold spigotref14_Check.f
  repeat' first
      | (with_reducible exact ih0 _ _)
      | (with_reducible exact ih1 _ _)
      | (with_reducible exact ih2 _ _ _)
      | (with_reducible exact ih3 _ _ _)
      | (with_reducible exact spigotref14_At.mono _ _ _)
      | (with_reducible exact spigotref14_Count.mono _ _)
      | (with_reducible exact LeO.refl _)
      | (with_reducible exact LeO.none _)
      | (with_reducible refine LeO.ite ?_ ?_)
      | (with_reducible refine LeO.bind ?_ (fun _ => ?_))
      | exact ih0 _ _
      | exact ih1 _ _
      | exact ih2 _ _ _
      | exact ih3 _ _ _
      | exact spigotref14_At.mono _ _ _
      | exact spigotref14_Count.mono _ _
      | exact LeO.none _
      | refine LeO.ite ?_ ?_
      | refine LeO.bind ?_ (fun _ => ?_)
set_option maxHeartbeats 8000000 in
set_option maxRecDepth 100000 in
theorem spigotref14_Check.calls (k : Nat) (A0 : Option Addr) (c0 : Nat) (l0 : List (S71)) (r : Int) (w : World) (hr0 : Kd.C k71 w A0 l0.length l0) (hc0 : l0.length ≤ c0) (h : spigotref14_Check.f k l0 = some r) :
    Calls Try.prog 21 #[.slice A0 l0.length c0] w fun e w' => e = .returned (.int .i64 r) ∧ Drawn0 w w' := by
  have hu71 := Try.underlying71
  have HR0 := Aside0.mk hr0
  have HC0 := Aside0.mk hc0
  clear hr0 hc0
  have H : (if (l0.length : Int) = 16 then ((spigotref14_Count.f k l0).bind fun t119 => (spigotref14_Check.j0 k l0 (decide (t119 > 12)))) else (spigotref14_Check.j0 k l0 true)) = some r := h
  clear h
  have HC2 := Aside0.mk H
  clear H
  go_enter Try.func21, Try.ntmps21
  go_upto_region 1 with (fail)
  go_cut [12] (fun v12 wc => ∃ (kq : Nat) (x12_1 : Bool), v12 = .bool x12_1 ∧ Aside0 (spigotref14_Check.j0 kq l0 x12_1 = some r) ∧ Aside0 (kq ≤ k) ∧ Drawn0 w wc)
  case first =>
    have H := HC2.out
    clear HC2
    by_cases c3 : (l0.length : Int) = 16
    · rw [if_pos c3] at H
      have c3b0 : ((l0.length : Int) == 16) = true := beq_iff_eq.mpr c3
      have c3b1 : ((l0.length : Int) != 16) = false := bne_eq_false_iff_eq.mpr c3
      clear c3
      (first | rw [c3b0] | (simp only [i64_w, i32_w]; rw [c3b0]) | skip)
      replace H := Option.bind_eq_some_iff.mp H
      obtain ⟨t119, A40, H⟩ := H
      replace H : (spigotref14_Check.j0 k l0 (decide (t119 > 12))) = some r := H
      have A4 := Aside0.mk A40
      clear A40
      have H' := Aside0.mk H
      clear H
      go_wp2_with (first | (go_at_call 43; (with_reducible refine (spigotref14_Count.calls k _ _ l0 t119 _ ?side1 ?side2 A4.out).mono ?_); (case side1 => exact Kd.pC HR0.out); (case side2 => exact HC0.out); rintro e w' ⟨rfl, ⟨nd, rfl⟩⟩))
      go_meet
      case rel => exact ⟨_, (decide (t119 > 12)), (by first | rfl | (simp; done) | (simp [*]; done)), H', ⟨by first | omega | exact Nat.le_refl _⟩, by repeat (first | exact Drawn0.refl _ | apply Drawn0.step)⟩
    · rw [if_neg c3] at H
      have c3b0 : ((l0.length : Int) == 16) = false := beq_eq_false_iff_ne.mpr c3
      have c3b1 : ((l0.length : Int) != 16) = true := bne_iff_ne.mpr c3
      (first | rw [c3b0] | (simp only [i64_w, i32_w]; rw [c3b0]) | skip)
      have H' := Aside0.mk H
      clear H
      go_wp2
      go_meet
      case rel => exact ⟨_, (true), (by first | rfl | (simp; done) | (simp [*]; done)), H', ⟨by first | omega | exact Nat.le_refl _⟩, by repeat (first | exact Drawn0.refl _ | apply Drawn0.step)⟩
  case rest =>
    clear HC2
    try clear c2
    try clear p2
    try clear c3
    try clear c3b0
    try clear c3b1
    obtain ⟨kq, x12_1, rfl, HA, HJ1, ⟨mc1, rfl⟩⟩ := hcut
    cases kq with
    | zero => exact absurd HA.out (by simp [spigotref14_Check.j0])
    | succ kj1 =>
      have H := HA.out
      clear HA
      simp only [spigotref14_Check.j0] at H
      by_cases c5 : x12_1 = true
      · subst c5
        have H1 : (some 8) = some r := by rw [if_pos rfl] at H; exact H
        clear H
        have H := H1
        clear H1
        obtain rfl := Option.some.inj H
        go_wp2
        go_ret
        exact ⟨by first | rfl | (simp; done) | (simp [*]; done), by repeat (first | exact Drawn0.refl _ | apply Drawn0.step)⟩
      · replace c5 := Bool.eq_false_iff.mpr c5
        subst c5
        have H1 : (spigotref14_Check.l0 kj1 l0 0) = some r := by rw [if_neg (show ¬ (false = true) by decide)] at H; exact H
        clear H
        have H := H1
        clear H1
        have H' := Aside0.mk H
        clear H
        go_wp2
        go_loopg [3] kj1 (fun kq v3 w' => ∃ (x3_2 : Int), v3 = .int .i64 x3_2 ∧ Aside0 (spigotref14_Check.l0 kq l0 x3_2 = some r) ∧ Aside0 (kq ≤ kj1) ∧ Drawn0 w w')
        case atStart => exact ⟨(0), (by first | rfl | (simp; done) | (simp [*]; done)), H', ⟨Nat.le_refl _⟩, by repeat (first | exact Drawn0.refl _ | apply Drawn0.step)⟩
        case round =>
          clear H'
          try clear c1
          try clear c2
          try clear p2
          try clear c3
          try clear c3b0
          try clear c3b1
          try clear c5
          try clear p2
          obtain ⟨x3_2, rfl, HA, HK2, ⟨m2, rfl⟩⟩ := hrel
          cases gk with
          | zero => exact absurd HA.out (by simp [spigotref14_Check.l0])
          | succ k2 =>
            have H := HA.out
            clear HA
            simp only [spigotref14_Check.l0] at H
            by_cases c6 : x3_2 < 16
            · rw [if_pos c6] at H
              have c6b0 : decide (x3_2 < 16) = true := decide_eq_true c6
              clear c6
              by_cases c7 : 0 ≤ x3_2
              · rw [if_pos c7] at H
                have c7b0 : decide (0 ≤ x3_2) = true := decide_eq_true c7
                clear c7
                by_cases c8 : x3_2 < (l0.length : Int)
                · rw [if_pos c8] at H
                  have c8b0 : decide (x3_2 < (l0.length : Int)) = true := decide_eq_true c8
                  clear c8
                  obtain ⟨bq9, hbq9⟩ : ∃ b_ : Bool, b_ = ((rd_T71 l0 x3_2).f2) := ⟨_, rfl⟩
                  replace H : (if (bq9 = true) then (if ((rd_T71 l0 x3_2).f1) < 0 then (spigotref14_Check.j2 k2 l0 x3_2 true) else (if ((rd_T71 l0 x3_2).f1) ≥ 16 then (spigotref14_Check.j2 k2 l0 x3_2 true) else ((spigotref14_At.f k2 l0 ((rd_T71 l0 x3_2).f0)).bind fun t125 => (spigotref14_Check.j2 k2 l0 x3_2 (t125 != x3_2))))) else (if (!(((rd_T71 l0 x3_2).f0) == 0) || (!(((rd_T71 l0 x3_2).f1) == 0) || ((bq9)))) = true then (some 8) else (spigotref14_Check.l0 k2 l0 (wrap64 (x3_2 + 1))))) = some r := by rw [← hbq9] at H; exact H
                  have Nbq9 := Aside0.mk hbq9
                  clear hbq9
                  by_cases c10 : (bq9 = true)
                  · subst c10
                    have H1 : (if ((rd_T71 l0 x3_2).f1) < 0 then (spigotref14_Check.j2 k2 l0 x3_2 true) else (if ((rd_T71 l0 x3_2).f1) ≥ 16 then (spigotref14_Check.j2 k2 l0 x3_2 true) else ((spigotref14_At.f k2 l0 ((rd_T71 l0 x3_2).f0)).bind fun t125 => (spigotref14_Check.j2 k2 l0 x3_2 (t125 != x3_2))))) = some r := by rw [if_pos rfl] at H; exact H
                    clear H
                    have H := H1
                    clear H1
                    have HC11 := Aside0.mk H
                    clear H
                    have p120 : 0 ≤ (x3_2 : Int) := od
                    have q120 : x3_2 < (l0.length : Int) := od
                    obtain ⟨ad120, e120, hx120_0, hx120_1, hx120_2⟩ := at_T71 HR0.out x3_2 p120 q120
                    (try rw [← Nbq9.out] at hx120_2)
                    cases e120
                    replace p120 := eq_true p120
                    replace q120 := eq_true q120
                    go_upto_region 9 with (fail)
                    go_cut [53] (fun v53 wc => ∃ (kq : Nat) (x53_10 : Bool), v53 = .bool x53_10 ∧ Aside0 (spigotref14_Check.j2 kq l0 x3_2 x53_10 = some r) ∧ Aside0 (kq ≤ k2) ∧ Drawn0 w wc)
                    case first =>
                      have H := HC11.out
                      clear HC11
                      by_cases c12 : ((rd_T71 l0 x3_2).f1) < 0
                      · rw [if_pos c12] at H
                        have c12b0 : decide (((rd_T71 l0 x3_2).f1) < 0) = true := decide_eq_true c12
                        clear c12
                        (first | rw [c12b0] | (simp only [i64_w, i32_w]; rw [c12b0]) | skip)
                        have H' := Aside0.mk H
                        clear H
                        have p122 : 0 ≤ (x3_2 : Int) := od
                        have q122 : x3_2 < (l0.length : Int) := od
                        obtain ⟨ad122, e122, hx122_0, hx122_1, hx122_2⟩ := at_T71 HR0.out x3_2 p122 q122
                        (try rw [← Nbq9.out] at hx122_2)
                        obtain rfl : ad120 = ad122 := (by injection e122)
                        replace p122 := eq_true p122
                        replace q122 := eq_true q122
                        go_wp2
                        go_meet
                        case rel => exact ⟨_, (true), (by first | rfl | (simp; done) | (simp [*]; done)), (by first | exact H' | (have Nq := Nbq9.out; rw [← Nq]; exact H')), ⟨by have := HJ1.out; have := HK2.out; first | omega | exact Nat.le_refl _⟩, by repeat (first | exact Drawn0.refl _ | apply Drawn0.step)⟩
                      · rw [if_neg c12] at H
                        have c12b0 : decide (((rd_T71 l0 x3_2).f1) < 0) = false := decide_eq_false c12
                        clear c12
                        (first | rw [c12b0] | (simp only [i64_w, i32_w]; rw [c12b0]) | skip)
                        by_cases c13 : ((rd_T71 l0 x3_2).f1) ≥ 16
                        · rw [if_pos c13] at H
                          have c13b0 : decide (16 ≤ ((rd_T71 l0 x3_2).f1)) = true := decide_eq_true c13
                          clear c13
                          have H' := Aside0.mk H
                          clear H
                          have p122 : 0 ≤ (x3_2 : Int) := od
                          have q122 : x3_2 < (l0.length : Int) := od
                          obtain ⟨ad122, e122, hx122_0, hx122_1, hx122_2⟩ := at_T71 HR0.out x3_2 p122 q122
                          (try rw [← Nbq9.out] at hx122_2)
                          obtain rfl : ad120 = ad122 := (by injection e122)
                          replace p122 := eq_true p122
                          replace q122 := eq_true q122
                          have p123 : 0 ≤ (x3_2 : Int) := od
                          have q123 : x3_2 < (l0.length : Int) := od
                          obtain ⟨ad123, e123, hx123_0, hx123_1, hx123_2⟩ := at_T71 HR0.out x3_2 p123 q123
                          (try rw [← Nbq9.out] at hx123_2)
                          obtain rfl : ad120 = ad123 := (by injection e123)
                          replace p123 := eq_true p123
                          replace q123 := eq_true q123
                          go_wp2
                          go_meet
                          case rel => exact ⟨_, (true), (by first | rfl | (simp; done) | (simp [*]; done)), (by first | exact H' | (have Nq := Nbq9.out; rw [← Nq]; exact H')), ⟨by have := HJ1.out; have := HK2.out; first | omega | exact Nat.le_refl _⟩, by repeat (first | exact Drawn0.refl _ | apply Drawn0.step)⟩
                        · rw [if_neg c13] at H
                          have c13b0 : decide (16 ≤ ((rd_T71 l0 x3_2).f1)) = false := decide_eq_false c13
                          clear c13
                          replace H := Option.bind_eq_some_iff.mp H
                          obtain ⟨t125, A140, H⟩ := H
                          replace H : (spigotref14_Check.j2 k2 l0 x3_2 (t125 != x3_2)) = some r := H
                          have A14 := Aside0.mk A140
                          clear A140
                          have H' := Aside0.mk H
                          clear H
                          have p122 : 0 ≤ (x3_2 : Int) := od
                          have q122 : x3_2 < (l0.length : Int) := od
                          obtain ⟨ad122, e122, hx122_0, hx122_1, hx122_2⟩ := at_T71 HR0.out x3_2 p122 q122
                          (try rw [← Nbq9.out] at hx122_2)
                          obtain rfl : ad120 = ad122 := (by injection e122)
                          replace p122 := eq_true p122
                          replace q122 := eq_true q122
                          have p123 : 0 ≤ (x3_2 : Int) := od
                          have q123 : x3_2 < (l0.length : Int) := od
                          obtain ⟨ad123, e123, hx123_0, hx123_1, hx123_2⟩ := at_T71 HR0.out x3_2 p123 q123
                          (try rw [← Nbq9.out] at hx123_2)
                          obtain rfl : ad120 = ad123 := (by injection e123)
                          replace p123 := eq_true p123
                          replace q123 := eq_true q123
                          have p124 : 0 ≤ (x3_2 : Int) := od
                          have q124 : x3_2 < (l0.length : Int) := od
                          obtain ⟨ad124, e124, hx124_0, hx124_1, hx124_2⟩ := at_T71 HR0.out x3_2 p124 q124
                          (try rw [← Nbq9.out] at hx124_2)
                          obtain rfl : ad120 = ad124 := (by injection e124)
                          replace p124 := eq_true p124
                          replace q124 := eq_true q124
                          go_wp2_with (first | (go_at_call 45; (with_reducible refine (spigotref14_At.calls k2 _ _ l0 ((rd_T71 l0 x3_2).f0) t125 _ ?side1 ?side2 A14.out).mono ?_); (case side1 => exact Kd.pC HR0.out); (case side2 => exact HC0.out); rintro e w' ⟨rfl, ⟨nd, rfl⟩⟩))
                          go_meet
                          case rel => exact ⟨_, ((t125 != x3_2)), (by first | rfl | (simp; done) | (simp [*]; done)), (by first | exact H' | (have Nq := Nbq9.out; rw [← Nq]; exact H')), ⟨by have := HJ1.out; have := HK2.out; first | omega | exact Nat.le_refl _⟩, by repeat (first | exact Drawn0.refl _ | apply Drawn0.step)⟩
                    case rest =>
                      clear HC11
                      try clear c1
                      try clear p1
                      try clear q1
                      try clear hx1
                      try clear c2
                      try clear p2
                      try clear c3
                      try clear c3b0
                      try clear c3b1
                      try clear c5
                      try clear c6
                      try clear c6b0
                      try clear p6
                      try clear c7
                      try clear c7b0
                      try clear c8
                      try clear c8b0
                      try clear q9
                      try clear c10
                      try clear c12
                      try clear c12b0
                      try clear p12
                      try clear q12
                      try clear hx12
                      try clear c13
                      try clear c13b0
                      try clear hx120_0
                      try clear hx120_1
                      try clear hx120_2
                      try clear hx122_0
                      try clear hx122_1
                      try clear hx122_2
                      try clear hx123_0
                      try clear hx123_1
                      try clear hx123_2
                      try clear hx124_0
                      try clear hx124_1
                      try clear hx124_2
                      try clear p120
                      try clear p122
                      try clear p123
                      try clear p124
                      try clear p2
                      try clear q120
                      try clear q122
                      try clear q123
                      try clear q124
                      obtain ⟨kq, x53_10, rfl, HA, HJ10, ⟨mc10, rfl⟩⟩ := hcut
                      cases kq with
                      | zero => exact absurd HA.out (by simp [spigotref14_Check.j2])
                      | succ kj10 =>
                        have H := HA.out
                        clear HA
                        simp only [spigotref14_Check.j2] at H
                        by_cases c15 : x53_10 = true
                        · subst c15
                          have H1 : (some 8) = some r := by rw [if_pos rfl] at H; exact H
                          clear H
                          have H := H1
                          clear H1
                          obtain rfl := Option.some.inj H
                          go_wp2
                          go_ret
                          exact ⟨by first | rfl | (simp; done) | (simp [*]; done), by repeat (first | exact Drawn0.refl _ | apply Drawn0.step)⟩
                        · replace c15 := Bool.eq_false_iff.mpr c15
                          subst c15
                          have H1 : (if 0 ≤ x3_2 then (if x3_2 < (l0.length : Int) then ((spigotref14_Home.f ((rd_T71 l0 x3_2).f0)).bind fun t127 => (spigotref14_Check.l1 kj10 l0 x3_2 t127)) else (none)) else (none)) = some r := by rw [if_neg (show ¬ (false = true) by decide)] at H; exact H
                          clear H
                          have H := H1
                          clear H1
                          by_cases c16 : 0 ≤ x3_2
                          · rw [if_pos c16] at H
                            have c16b0 : decide (0 ≤ x3_2) = true := decide_eq_true c16
                            clear c16
                            by_cases c17 : x3_2 < (l0.length : Int)
                            · rw [if_pos c17] at H
                              have c17b0 : decide (x3_2 < (l0.length : Int)) = true := decide_eq_true c17
                              clear c17
                              replace H := Option.bind_eq_some_iff.mp H
                              obtain ⟨t127, A180, H⟩ := H
                              replace H : (spigotref14_Check.l1 kj10 l0 x3_2 t127) = some r := H
                              have A18 := Aside0.mk A180
                              clear A180
                              have H' := Aside0.mk H
                              clear H
                              have p126 : 0 ≤ (x3_2 : Int) := od
                              have q126 : x3_2 < (l0.length : Int) := od
                              obtain ⟨ad126, e126, hx126_0, hx126_1, hx126_2⟩ := at_T71 HR0.out x3_2 p126 q126
                              (try rw [← Nbq9.out] at hx126_2)
                              obtain rfl : ad120 = ad126 := (by injection e126)
                              replace p126 := eq_true p126
                              replace q126 := eq_true q126
                              go_wp2_with (first | ((with_reducible refine gate_callee (f := 19) rfl ?_); refine goesE (some 59) rfl rfl Try.func19 (by kernel_rfl) rfl #[.int .u32 ((rd_T71 l0 x3_2).f0)] rfl ?_; (with_reducible refine (spigotref14_Home.calls ((rd_T71 l0 x3_2).f0) t127 _ A18.out).mono ?_); rintro e w' ⟨rfl, ⟨nd, rfl⟩⟩; refine ⟨_, rfl, ?_⟩))
                              go_loopg [4] kj10 (fun kq v4 w' => ∃ (x4_4 : Int), v4 = .int .i64 x4_4 ∧ Aside0 (spigotref14_Check.l1 kq l0 x3_2 x4_4 = some r) ∧ Aside0 (kq ≤ kj10) ∧ Drawn0 w w')
                              case atStart => exact ⟨(t127), (by first | rfl | (simp; done) | (simp [*]; done)), H', ⟨Nat.le_refl _⟩, by repeat (first | exact Drawn0.refl _ | apply Drawn0.step)⟩
                              case round =>
                                clear H'
                                try clear c1
                                try clear p1
                                try clear q1
                                try clear hx1
                                try clear c2
                                try clear p2
                                try clear c3
                                try clear c3b0
                                try clear c3b1
                                try clear c5
                                try clear c6
                                try clear c6b0
                                try clear p6
                                try clear c7
                                try clear c7b0
                                try clear c8
                                try clear c8b0
                                try clear q9
                                try clear c10
                                try clear c12
                                try clear c12b0
                                try clear p12
                                try clear q12
                                try clear hx12
                                try clear c13
                                try clear c13b0
                                try clear c15
                                try clear c16
                                try clear c16b0
                                try clear c17
                                try clear c17b0
                                try clear hx120_0
                                try clear hx120_1
                                try clear hx120_2
                                try clear hx122_0
                                try clear hx122_1
                                try clear hx122_2
                                try clear hx123_0
                                try clear hx123_1
                                try clear hx123_2
                                try clear hx124_0
                                try clear hx124_1
                                try clear hx124_2
                                try clear hx126_0
                                try clear hx126_1
                                try clear hx126_2
                                try clear p1
                                try clear p12
                                try clear p120
                                try clear p122
                                try clear p123
                                try clear p124
                                try clear p126
                                try clear p2
                                try clear p6
                                try clear q1
                                try clear q12
                                try clear q120
                                try clear q122
                                try clear q123
                                try clear q124
                                try clear q126
                                try clear q9
                                obtain ⟨x4_4, rfl, HA, HK4, ⟨m4, rfl⟩⟩ := hrel
                                cases gk with
                                | zero => exact absurd HA.out (by simp [spigotref14_Check.l1])
                                | succ k4 =>
                                  have H := HA.out
                                  clear HA
                                  simp only [spigotref14_Check.l1] at H
                                  by_cases c19 : x4_4 = x3_2
                                  · rw [if_pos c19] at H
                                    have c19b0 : (x4_4 == x3_2) = true := beq_iff_eq.mpr c19
                                    have c19b1 : (x4_4 != x3_2) = false := bne_eq_false_iff_eq.mpr c19
                                    clear c19
                                    have H' := Aside0.mk H
                                    clear H
                                    go_wp2
                                    go_roundg k4
                                    case measure => have := HJ1.out; have := HK2.out; have := HJ10.out; have := HK4.out; omega
                                    case rel => exact ⟨(wrap64 (x3_2 + 1)), (by first | rfl | (simp; done) | (simp [*]; done)), (by first | exact H' | (have Nq := Nbq9.out; rw [← Nq]; exact H')), ⟨by have := HJ1.out; have := HK2.out; have := HJ10.out; have := HK4.out; omega⟩, by repeat (first | exact Drawn0.refl _ | apply Drawn0.step)⟩
                                  · rw [if_neg c19] at H
                                    have c19b0 : (x4_4 == x3_2) = false := beq_eq_false_iff_ne.mpr c19
                                    have c19b1 : (x4_4 != x3_2) = true := bne_iff_ne.mpr c19
                                    by_cases c20 : 0 ≤ x4_4
                                    · rw [if_pos c20] at H
                                      have c20b0 : decide (0 ≤ x4_4) = true := decide_eq_true c20
                                      clear c20
                                      by_cases c21 : x4_4 < (l0.length : Int)
                                      · rw [if_pos c21] at H
                                        have c21b0 : decide (x4_4 < (l0.length : Int)) = true := decide_eq_true c21
                                        clear c21
                                        obtain ⟨bq22, hbq22⟩ : ∃ b_ : Bool, b_ = ((rd_T71 l0 x4_4).f2) := ⟨_, rfl⟩
                                        replace H : (if (bq22 = true) then (spigotref14_Check.l1 k4 l0 x3_2 (Int.tmod (wrap64 (x4_4 + 1)) 16)) else (some 8)) = some r := by rw [← hbq22] at H; exact H
                                        have Nbq22 := Aside0.mk hbq22
                                        clear hbq22
                                        by_cases c23 : (bq22 = true)
                                        · subst c23
                                          have H1 : (spigotref14_Check.l1 k4 l0 x3_2 (Int.tmod (wrap64 (x4_4 + 1)) 16)) = some r := by rw [if_pos rfl] at H; exact H
                                          clear H
                                          have H := H1
                                          clear H1
                                          have H' := Aside0.mk H
                                          clear H
                                          have p128 : 0 ≤ (x4_4 : Int) := od
                                          have q128 : x4_4 < (l0.length : Int) := od
                                          obtain ⟨ad128, e128, hx128_0, hx128_1, hx128_2⟩ := at_T71 HR0.out x4_4 p128 q128
                                          (try rw [← Nbq9.out] at hx128_2)
                                          (try rw [← Nbq22.out] at hx128_2)
                                          obtain rfl : ad120 = ad128 := (by injection e128)
                                          replace p128 := eq_true p128
                                          replace q128 := eq_true q128
                                          go_wp2
                                          go_roundg k4
                                          case measure => have := HJ1.out; have := HK2.out; have := HJ10.out; have := HK4.out; omega
                                          case rel => exact ⟨(Int.tmod (wrap64 (x4_4 + 1)) 16), (by first | rfl | (simp; done) | (simp [*]; done)), (by first | exact H' | (have Nq := Nbq22.out; rw [← Nq]; exact H')), ⟨by have := HJ1.out; have := HK2.out; have := HJ10.out; have := HK4.out; omega⟩, by repeat (first | exact Drawn0.refl _ | apply Drawn0.step)⟩
                                        · replace c23 := Bool.eq_false_iff.mpr c23
                                          subst c23
                                          have H1 : (some 8) = some r := by rw [if_neg (show ¬ (false = true) by decide)] at H; exact H
                                          clear H
                                          have H := H1
                                          clear H1
                                          obtain rfl := Option.some.inj H
                                          have p128 : 0 ≤ (x4_4 : Int) := od
                                          have q128 : x4_4 < (l0.length : Int) := od
                                          obtain ⟨ad128, e128, hx128_0, hx128_1, hx128_2⟩ := at_T71 HR0.out x4_4 p128 q128
                                          (try rw [← Nbq9.out] at hx128_2)
                                          (try rw [← Nbq22.out] at hx128_2)
                                          obtain rfl : ad120 = ad128 := (by injection e128)
                                          replace p128 := eq_true p128
                                          replace q128 := eq_true q128
                                          go_wp2
                                          go_ret
                                          exact ⟨by first | rfl | (simp; done) | (simp [*]; done), by repeat (first | exact Drawn0.refl _ | apply Drawn0.step)⟩
                                      · rw [if_neg c21] at H
                                        exact absurd H (by simp)
                                    · rw [if_neg c20] at H
                                      exact absurd H (by simp)
                            · rw [if_neg c17] at H
                              exact absurd H (by simp)
                          · rw [if_neg c16] at H
                            exact absurd H (by simp)
                  · replace c10 := Bool.eq_false_iff.mpr c10
                    subst c10
                    have H1 : (if (!(((rd_T71 l0 x3_2).f0) == 0) || (!(((rd_T71 l0 x3_2).f1) == 0) || ((false)))) = true then (some 8) else (spigotref14_Check.l0 k2 l0 (wrap64 (x3_2 + 1)))) = some r := by rw [if_neg (show ¬ (false = true) by decide)] at H; exact H
                    clear H
                    have H := H1
                    clear H1
                    by_cases c24 : (!(((rd_T71 l0 x3_2).f0) == 0) || (!(((rd_T71 l0 x3_2).f1) == 0) || ((false)))) = true
                    · rw [if_pos c24] at H
                      have c24b0 : (!(((rd_T71 l0 x3_2).f0) == 0) || (!(((rd_T71 l0 x3_2).f1) == 0) || ((false)))) = true := c24
                      have c24b0n : ¬ ((rd_T71 l0 x3_2).f0 = 0 ∧ (rd_T71 l0 x3_2).f1 = 0) := fun hz => by simp [hz.1, hz.2] at c24b0
                      clear c24
                      obtain rfl := Option.some.inj H
                      have p120 : 0 ≤ (x3_2 : Int) := od
                      have q120 : x3_2 < (l0.length : Int) := od
                      obtain ⟨ad120, e120, hx120_0, hx120_1, hx120_2⟩ := at_T71 HR0.out x3_2 p120 q120
                      (try rw [← Nbq9.out] at hx120_2)
                      cases e120
                      replace p120 := eq_true p120
                      replace q120 := eq_true q120
                      have p121 : 0 ≤ (x3_2 : Int) := od
                      have q121 : x3_2 < (l0.length : Int) := od
                      obtain ⟨ad121, e121, hx121_0, hx121_1, hx121_2⟩ := at_T71 HR0.out x3_2 p121 q121
                      (try rw [← Nbq9.out] at hx121_2)
                      obtain rfl : ad120 = ad121 := (by injection e121)
                      replace p121 := eq_true p121
                      replace q121 := eq_true q121
                      go_wp2
                      go_ret
                      exact ⟨by first | rfl | (simp; done) | (simp [*]; done), by repeat (first | exact Drawn0.refl _ | apply Drawn0.step)⟩
                      all_goals (have hzz : (!((rd_T71 l0 x3_2).f0 == 0)) = false ∧ (!((rd_T71 l0 x3_2).f1 == 0)) = false := (by assumption); exact absurd (by simpa using hzz) c24b0n)
                    · rw [if_neg c24] at H
                      have c24b0 : (!(((rd_T71 l0 x3_2).f0) == 0) || (!(((rd_T71 l0 x3_2).f1) == 0) || ((false)))) = false := by simpa using c24
                      have c24b0n : ((rd_T71 l0 x3_2).f0 = 0 ∧ (rd_T71 l0 x3_2).f1 = 0) := by simpa using c24b0
                      clear c24
                      have H' := Aside0.mk H
                      clear H
                      have p120 : 0 ≤ (x3_2 : Int) := od
                      have q120 : x3_2 < (l0.length : Int) := od
                      obtain ⟨ad120, e120, hx120_0, hx120_1, hx120_2⟩ := at_T71 HR0.out x3_2 p120 q120
                      (try rw [← Nbq9.out] at hx120_2)
                      cases e120
                      replace p120 := eq_true p120
                      replace q120 := eq_true q120
                      have p121 : 0 ≤ (x3_2 : Int) := od
                      have q121 : x3_2 < (l0.length : Int) := od
                      obtain ⟨ad121, e121, hx121_0, hx121_1, hx121_2⟩ := at_T71 HR0.out x3_2 p121 q121
                      (try rw [← Nbq9.out] at hx121_2)
                      obtain rfl : ad120 = ad121 := (by injection e121)
                      replace p121 := eq_true p121
                      replace q121 := eq_true q121
                      go_wp2
                      go_roundg k2
                      case measure => have := HJ1.out; have := HK2.out; omega
                      case rel => exact ⟨(wrap64 (x3_2 + 1)), (by first | rfl | (simp; done) | (simp [*]; done)), (by first | exact H' | (have Nq := Nbq22.out; rw [← Nq]; exact H')), ⟨by have := HJ1.out; have := HK2.out; omega⟩, by repeat (first | exact Drawn0.refl _ | apply Drawn0.step)⟩
                · rw [if_neg c8] at H
                  exact absurd H (by simp)
              · rw [if_neg c7] at H
                exact absurd H (by simp)
            · rw [if_neg c6] at H
              have c6b0 : decide (x3_2 < 16) = false := decide_eq_false c6
              clear c6
              obtain rfl := Option.some.inj H
              go_wp2
              go_ret
              exact ⟨by first | rfl | (simp; done) | (simp [*]; done), by repeat (first | exact Drawn0.refl _ | apply Drawn0.step)⟩

end Go.Proofs.Ytlgfopdindklnaa.PProbe
