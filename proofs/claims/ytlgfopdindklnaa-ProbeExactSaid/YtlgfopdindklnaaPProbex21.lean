-- printed by a program of this session (a turned copy of the kit's print); Lean checks it
import Derived.Test.YtlgfopdindklnaaPProbex0
import Derived.Test.YtlgfopdindklnaaPProbex4
import Derived.Test.YtlgfopdindklnaaPProbex5
namespace Go.Proofs.Ytlgfopdindklnaa.PProbe
open Go.RowKit Go.Proofs.YtlgfopdindklnaaW.PrintWords Go.Proofs.YtlgfopdindklnaaW.PrintLast Go.Proofs.YtlgfopdindklnaaW.PrintMore
attribute [local go_sem] max2_int min2_int max_two min_two max_three min_three max_four min_four   -- for this text's walks alone
set_option linter.unusedVariables false
set_option linter.unusedSimpArgs false

/-! ### spigotlaw14_alike: function 44 -/
mutual
def spigotlaw14_alike.j0 : Nat → List (S71) → List (S71) → Bool → Option (Bool)
  | 0, _, _, _ => none
  | k + 1, x0, x1, x18 => if x18 = true then (some false) else (spigotlaw14_alike.l0 k x0 x1 0)
def spigotlaw14_alike.l0 : Nat → List (S71) → List (S71) → Int → Option (Bool)
  | 0, _, _, _ => none
  | k + 1, x0, x1, x5 => if x5 < (x0.length : Int) then (if 0 ≤ x5 then ((spigotref14_At.f k x1 ((rd_T71 x0 x5).f0)).bind fun t440 => (if (rd_T71 x0 x5).f2 = true then (if t440 < 0 then (some false) else (if 0 ≤ t440 then (if t440 < (x1.length : Int) then (if ((rd_T71 x1 t440).f1) = ((rd_T71 x0 x5).f1) then (spigotlaw14_alike.l0 k x0 x1 (wrap64 (x5 + 1))) else (some false)) else (none)) else (none))) else (spigotlaw14_alike.l0 k x0 x1 (wrap64 (x5 + 1))))) else (none)) else (some true)
end
def spigotlaw14_alike.f (k : Nat) (l0 : List (S71)) (l1 : List (S71)) : Option (Bool) := if (l0.length : Int) = (l1.length : Int) then ((spigotref14_Count.f k l0).bind fun t437 => ((spigotref14_Count.f k l1).bind fun t438 => (spigotlaw14_alike.j0 k l0 l1 (t437 != t438)))) else (spigotlaw14_alike.j0 k l0 l1 true)
theorem spigotlaw14_alike.mono_l : ∀ k, (∀ y0 y1 y2, LeO (spigotlaw14_alike.j0 k y0 y1 y2) (spigotlaw14_alike.j0 (k + 1) y0 y1 y2)) ∧ (∀ y0 y1 y2, LeO (spigotlaw14_alike.l0 k y0 y1 y2) (spigotlaw14_alike.l0 (k + 1) y0 y1 y2))
  | 0 => ⟨fun _ _ _ r h => by simp [spigotlaw14_alike.j0] at h, fun _ _ _ r h => by simp [spigotlaw14_alike.l0] at h⟩
  | k + 1 => by
    obtain ⟨ih0, ih1⟩ := spigotlaw14_alike.mono_l k
    refine ⟨?_, ?_⟩
    · intro y0 y1 y2
      unfold spigotlaw14_alike.j0
      repeat' first
      | (with_reducible exact ih0 _ _ _)
      | (with_reducible exact ih1 _ _ _)
      | (with_reducible exact spigotref14_At.mono _ _ _)
      | (with_reducible exact spigotref14_Count.mono _ _)
      | (with_reducible exact LeO.refl _)
      | (with_reducible exact LeO.none _)
      | (with_reducible refine LeO.ite ?_ ?_)
      | (with_reducible refine LeO.bind ?_ (fun _ => ?_))
      | exact ih0 _ _ _
      | exact ih1 _ _ _
      | exact spigotref14_At.mono _ _ _
      | exact spigotref14_Count.mono _ _
      | exact LeO.none _
      | refine LeO.ite ?_ ?_
      | refine LeO.bind ?_ (fun _ => ?_)
    · intro y0 y1 y2
      unfold spigotlaw14_alike.l0
      repeat' first
      | (with_reducible exact ih0 _ _ _)
      | (with_reducible exact ih1 _ _ _)
      | (with_reducible exact spigotref14_At.mono _ _ _)
      | (with_reducible exact spigotref14_Count.mono _ _)
      | (with_reducible exact LeO.refl _)
      | (with_reducible exact LeO.none _)
      | (with_reducible refine LeO.ite ?_ ?_)
      | (with_reducible refine LeO.bind ?_ (fun _ => ?_))
      | exact ih0 _ _ _
      | exact ih1 _ _ _
      | exact spigotref14_At.mono _ _ _
      | exact spigotref14_Count.mono _ _
      | exact LeO.none _
      | refine LeO.ite ?_ ?_
      | refine LeO.bind ?_ (fun _ => ?_)
theorem spigotlaw14_alike.mono : ∀ a0 a1 k, LeO (spigotlaw14_alike.f k a0 a1) (spigotlaw14_alike.f (k + 1) a0 a1) := by
  intro a0 a1 k
  obtain ⟨ih0, ih1⟩ := spigotlaw14_alike.mono_l k
  unfold spigotlaw14_alike.f
  repeat' first
      | (with_reducible exact ih0 _ _ _)
      | (with_reducible exact ih1 _ _ _)
      | (with_reducible exact spigotref14_At.mono _ _ _)
      | (with_reducible exact spigotref14_Count.mono _ _)
      | (with_reducible exact LeO.refl _)
      | (with_reducible exact LeO.none _)
      | (with_reducible refine LeO.ite ?_ ?_)
      | (with_reducible refine LeO.bind ?_ (fun _ => ?_))
      | exact ih0 _ _ _
      | exact ih1 _ _ _
      | exact spigotref14_At.mono _ _ _
      | exact spigotref14_Count.mono _ _
      | exact LeO.none _
      | refine LeO.ite ?_ ?_
      | refine LeO.bind ?_ (fun _ => ?_)
set_option maxHeartbeats 8000000 in
set_option maxRecDepth 100000 in
theorem spigotlaw14_alike.calls (k : Nat) (A0 : Option Addr) (c0 : Nat) (l0 : List (S71)) (A1 : Option Addr) (c1 : Nat) (l1 : List (S71)) (r : Bool) (w : World) (hr0 : Kd.C k71 w A0 l0.length l0) (hc0 : l0.length ≤ c0) (hr1 : Kd.C k71 w A1 l1.length l1) (hc1 : l1.length ≤ c1) (h : spigotlaw14_alike.f k l0 l1 = some r) :
    Calls Try.prog 44 #[.slice A0 l0.length c0, .slice A1 l1.length c1] w fun e w' => e = .returned (.bool r) ∧ Drawn0 w w' := by
  have HR0 := Aside0.mk hr0
  have HC0 := Aside0.mk hc0
  clear hr0 hc0
  have HR1 := Aside0.mk hr1
  have HC1 := Aside0.mk hc1
  clear hr1 hc1
  have H : (if (l0.length : Int) = (l1.length : Int) then ((spigotref14_Count.f k l0).bind fun t437 => ((spigotref14_Count.f k l1).bind fun t438 => (spigotlaw14_alike.j0 k l0 l1 (t437 != t438)))) else (spigotlaw14_alike.j0 k l0 l1 true)) = some r := h
  clear h
  have HC3 := Aside0.mk H
  clear H
  go_enter Try.func44, Try.ntmps44
  go_upto_region 1 with (fail)
  repeat (go_quiet (fail); go_upto_region 1 with (fail))
  go_cut [18] (fun v18 wc => ∃ (kq : Nat) (x18_2 : Bool), v18 = .bool x18_2 ∧ Aside0 (spigotlaw14_alike.j0 kq l0 l1 x18_2 = some r) ∧ Aside0 (kq ≤ k) ∧ Drawn0 w wc)
  case first =>
    have H := HC3.out
    clear HC3
    by_cases c4 : (l0.length : Int) = (l1.length : Int)
    · rw [if_pos c4] at H
      have c4b0 : ((l0.length : Int) == (l1.length : Int)) = true := beq_iff_eq.mpr c4
      have c4b1 : ((l0.length : Int) != (l1.length : Int)) = false := bne_eq_false_iff_eq.mpr c4
      have c4b2 : (l0.length == l1.length) = true := by first | simpa using c4 | (simp at c4 ⊢; omega)
      clear c4
      (first | rw [c4b0] | (simp only [i64_w, i32_w]; rw [c4b0]) | skip)
      replace H := Option.bind_eq_some_iff.mp H
      obtain ⟨t437, A50, H⟩ := H
      replace H : ((spigotref14_Count.f k l1).bind fun t438 => (spigotlaw14_alike.j0 k l0 l1 (t437 != t438))) = some r := H
      have A5 := Aside0.mk A50
      clear A50
      replace H := Option.bind_eq_some_iff.mp H
      obtain ⟨t438, A60, H⟩ := H
      replace H : (spigotlaw14_alike.j0 k l0 l1 (t437 != t438)) = some r := H
      have A6 := Aside0.mk A60
      clear A60
      have H' := Aside0.mk H
      clear H
      go_wp2_with (first | (go_at_call 43; (with_reducible refine (spigotref14_Count.calls k _ _ l0 t437 _ ?side1 ?side2 A5.out).mono ?_); (case side1 => exact Kd.pC HR0.out); (case side2 => exact HC0.out); rintro e w' ⟨rfl, ⟨nd, rfl⟩⟩; (try first | exact ⟨rfl, _, World.drewN_drewN _ _ _⟩ | exact ⟨rfl, _, Eq.trans (World.drewN_drewN _ _ _) (congrArg (World.drewN _) (Nat.add_assoc _ _ _))⟩)) | (go_at_call 43; (with_reducible refine (spigotref14_Count.calls k _ _ l1 t438 _ ?side1 ?side2 A6.out).mono ?_); (case side1 => exact Kd.pC HR1.out); (case side2 => exact HC1.out); rintro e w' ⟨rfl, ⟨nd, rfl⟩⟩; (try first | exact ⟨rfl, _, World.drewN_drewN _ _ _⟩ | exact ⟨rfl, _, Eq.trans (World.drewN_drewN _ _ _) (congrArg (World.drewN _) (Nat.add_assoc _ _ _))⟩)))
      repeat (go_quiet (first | (go_at_call 43; (with_reducible refine (spigotref14_Count.calls k _ _ l0 t437 _ ?side1 ?side2 A5.out).mono ?_); (case side1 => exact Kd.pC HR0.out); (case side2 => exact HC0.out); rintro e w' ⟨rfl, ⟨nd, rfl⟩⟩; (try first | exact ⟨rfl, _, World.drewN_drewN _ _ _⟩ | exact ⟨rfl, _, Eq.trans (World.drewN_drewN _ _ _) (congrArg (World.drewN _) (Nat.add_assoc _ _ _))⟩)) | (go_at_call 43; (with_reducible refine (spigotref14_Count.calls k _ _ l1 t438 _ ?side1 ?side2 A6.out).mono ?_); (case side1 => exact Kd.pC HR1.out); (case side2 => exact HC1.out); rintro e w' ⟨rfl, ⟨nd, rfl⟩⟩; (try first | exact ⟨rfl, _, World.drewN_drewN _ _ _⟩ | exact ⟨rfl, _, Eq.trans (World.drewN_drewN _ _ _) (congrArg (World.drewN _) (Nat.add_assoc _ _ _))⟩))); try go_wp2_with (first | (go_at_call 43; (with_reducible refine (spigotref14_Count.calls k _ _ l0 t437 _ ?side1 ?side2 A5.out).mono ?_); (case side1 => exact Kd.pC HR0.out); (case side2 => exact HC0.out); rintro e w' ⟨rfl, ⟨nd, rfl⟩⟩; (try first | exact ⟨rfl, _, World.drewN_drewN _ _ _⟩ | exact ⟨rfl, _, Eq.trans (World.drewN_drewN _ _ _) (congrArg (World.drewN _) (Nat.add_assoc _ _ _))⟩)) | (go_at_call 43; (with_reducible refine (spigotref14_Count.calls k _ _ l1 t438 _ ?side1 ?side2 A6.out).mono ?_); (case side1 => exact Kd.pC HR1.out); (case side2 => exact HC1.out); rintro e w' ⟨rfl, ⟨nd, rfl⟩⟩; (try first | exact ⟨rfl, _, World.drewN_drewN _ _ _⟩ | exact ⟨rfl, _, Eq.trans (World.drewN_drewN _ _ _) (congrArg (World.drewN _) (Nat.add_assoc _ _ _))⟩))))
      go_meet
      case rel => exact ⟨_, ((t437 != t438)), (by first | rfl | (simp; done) | (simp [*]; done)), H', ⟨by first | omega | exact Nat.le_refl _⟩, by repeat (first | exact Drawn0.refl _ | apply Drawn0.step)⟩
    · rw [if_neg c4] at H
      have c4b0 : ((l0.length : Int) == (l1.length : Int)) = false := beq_eq_false_iff_ne.mpr c4
      have c4b1 : ((l0.length : Int) != (l1.length : Int)) = true := bne_iff_ne.mpr c4
      have c4b2 : (l0.length == l1.length) = false := by first | simpa using c4 | (simp at c4 ⊢; omega)
      (first | rw [c4b0] | (simp only [i64_w, i32_w]; rw [c4b0]) | skip)
      have H' := Aside0.mk H
      clear H
      go_wp2
      repeat (go_quiet (fail); try go_wp2)
      go_meet
      case rel => exact ⟨_, (true), (by first | rfl | (simp; done) | (simp [*]; done)), H', ⟨by first | omega | exact Nat.le_refl _⟩, by repeat (first | exact Drawn0.refl _ | apply Drawn0.step)⟩
  case rest =>
    clear HC3
    try clear c1
    try clear p2
    try clear c4
    try clear c4b0
    try clear c4b1
    try clear c4b2
    obtain ⟨kq, x18_2, rfl, HA, HJ2, ⟨mc2, rfl⟩⟩ := hcut
    cases kq with
    | zero => exact absurd HA.out (by simp [spigotlaw14_alike.j0])
    | succ kj2 =>
      have H := HA.out
      clear HA
      simp only [spigotlaw14_alike.j0] at H
      by_cases c7 : x18_2 = true
      · subst c7
        have H1 : (some false) = some r := by rw [if_pos rfl] at H; exact H
        clear H
        have H := H1
        clear H1
        obtain rfl := Option.some.inj H
        go_wp2
        repeat (go_quiet (fail); try go_wp2)
        go_ret
        exact ⟨by first | rfl | (simp; done) | (simp [*]; done), by repeat (first | exact Drawn0.refl _ | apply Drawn0.step)⟩
      · replace c7 := Bool.eq_false_iff.mpr c7
        subst c7
        have H1 : (spigotlaw14_alike.l0 kj2 l0 l1 0) = some r := by rw [if_neg (show ¬ (false = true) by decide)] at H; exact H
        clear H
        have H := H1
        clear H1
        have H' := Aside0.mk H
        clear H
        go_wp2
        repeat (go_quiet (fail); try go_wp2)
        go_loopg [5] kj2 (fun kq v5 w' => ∃ (x5_2 : Int), v5 = .int .i64 x5_2 ∧ Aside0 (spigotlaw14_alike.l0 kq l0 l1 x5_2 = some r) ∧ Aside0 (kq ≤ kj2) ∧ Drawn0 w w')
        case atStart => exact ⟨(0), (by first | rfl | (simp; done) | (simp [*]; done)), H', ⟨Nat.le_refl _⟩, by repeat (first | exact Drawn0.refl _ | apply Drawn0.step)⟩
        case round =>
          clear H'
          try clear c1
          try clear c2
          try clear p2
          try clear c4
          try clear c4b0
          try clear c4b1
          try clear c4b2
          try clear c7
          try clear p2
          obtain ⟨x5_2, rfl, HA, HK2, ⟨m2, rfl⟩⟩ := hrel
          cases gk with
          | zero => exact absurd HA.out (by simp [spigotlaw14_alike.l0])
          | succ k2 =>
            have H := HA.out
            clear HA
            simp only [spigotlaw14_alike.l0] at H
            by_cases c8 : x5_2 < (l0.length : Int)
            · rw [if_pos c8] at H
              have c8b0 : decide (x5_2 < (l0.length : Int)) = true := decide_eq_true c8
              clear c8
              by_cases c9 : 0 ≤ x5_2
              · rw [if_pos c9] at H
                have c9b0 : decide (0 ≤ x5_2) = true := decide_eq_true c9
                clear c9
                replace H := Option.bind_eq_some_iff.mp H
                obtain ⟨t440, A100, H⟩ := H
                replace H : (if (rd_T71 l0 x5_2).f2 = true then (if t440 < 0 then (some false) else (if 0 ≤ t440 then (if t440 < (l1.length : Int) then (if ((rd_T71 l1 t440).f1) = ((rd_T71 l0 x5_2).f1) then (spigotlaw14_alike.l0 k2 l0 l1 (wrap64 (x5_2 + 1))) else (some false)) else (none)) else (none))) else (spigotlaw14_alike.l0 k2 l0 l1 (wrap64 (x5_2 + 1)))) = some r := H
                have A10 := Aside0.mk A100
                clear A100
                obtain ⟨bq11, hbq11⟩ : ∃ b_ : Bool, b_ = ((rd_T71 l0 x5_2).f2) := ⟨_, rfl⟩
                replace H : (if bq11 = true then (if t440 < 0 then (some false) else (if 0 ≤ t440 then (if t440 < (l1.length : Int) then (if ((rd_T71 l1 t440).f1) = ((rd_T71 l0 x5_2).f1) then (spigotlaw14_alike.l0 k2 l0 l1 (wrap64 (x5_2 + 1))) else (some false)) else (none)) else (none))) else (spigotlaw14_alike.l0 k2 l0 l1 (wrap64 (x5_2 + 1)))) = some r := by rw [← hbq11] at H; exact H
                have Nbq11 := Aside0.mk hbq11
                clear hbq11
                by_cases c12 : bq11 = true
                · subst c12
                  have H1 : (if t440 < 0 then (some false) else (if 0 ≤ t440 then (if t440 < (l1.length : Int) then (if ((rd_T71 l1 t440).f1) = ((rd_T71 l0 x5_2).f1) then (spigotlaw14_alike.l0 k2 l0 l1 (wrap64 (x5_2 + 1))) else (some false)) else (none)) else (none))) = some r := by rw [if_pos rfl] at H; exact H
                  clear H
                  have H := H1
                  clear H1
                  by_cases c13 : t440 < 0
                  · rw [if_pos c13] at H
                    have c13b0 : decide (t440 < 0) = true := decide_eq_true c13
                    clear c13
                    obtain rfl := Option.some.inj H
                    have p439 : 0 ≤ (x5_2 : Int) := od
                    have q439 : x5_2 < (l0.length : Int) := od
                    obtain ⟨ad439, e439, hx439_0, hx439_1, hx439_2⟩ := at_T71 HR0.out x5_2 p439 q439
                    (try rw [← Nbq11.out] at hx439_2)
                    cases e439
                    replace p439 := eq_true p439
                    replace q439 := eq_true q439
                    go_wp2_with (first | (go_at_call 45; (with_reducible refine (spigotref14_At.calls k2 _ _ l1 ((rd_T71 l0 x5_2).f0) t440 _ ?side1 ?side2 A10.out).mono ?_); (case side1 => exact Kd.pC HR1.out); (case side2 => exact HC1.out); rintro e w' ⟨rfl, ⟨nd, rfl⟩⟩; (try first | exact ⟨rfl, _, World.drewN_drewN _ _ _⟩ | exact ⟨rfl, _, Eq.trans (World.drewN_drewN _ _ _) (congrArg (World.drewN _) (Nat.add_assoc _ _ _))⟩); have p441 : 0 ≤ (x5_2 : Int) := od; have q441 : x5_2 < (l0.length : Int) := od; obtain ⟨ad441, e441, hx441_0, hx441_1, hx441_2⟩ := at_T71 HR0.out x5_2 p441 q441; (try rw [← Nbq11.out] at hx441_2); obtain rfl : ad439 = ad441 := (by injection e441); replace p441 := eq_true p441; replace q441 := eq_true q441))
                    repeat (go_quiet (first | (go_at_call 45; (with_reducible refine (spigotref14_At.calls k2 _ _ l1 ((rd_T71 l0 x5_2).f0) t440 _ ?side1 ?side2 A10.out).mono ?_); (case side1 => exact Kd.pC HR1.out); (case side2 => exact HC1.out); rintro e w' ⟨rfl, ⟨nd, rfl⟩⟩; (try first | exact ⟨rfl, _, World.drewN_drewN _ _ _⟩ | exact ⟨rfl, _, Eq.trans (World.drewN_drewN _ _ _) (congrArg (World.drewN _) (Nat.add_assoc _ _ _))⟩); have p441 : 0 ≤ (x5_2 : Int) := od; have q441 : x5_2 < (l0.length : Int) := od; obtain ⟨ad441, e441, hx441_0, hx441_1, hx441_2⟩ := at_T71 HR0.out x5_2 p441 q441; (try rw [← Nbq11.out] at hx441_2); obtain rfl : ad439 = ad441 := (by injection e441); replace p441 := eq_true p441; replace q441 := eq_true q441)); try go_wp2_with (first | (go_at_call 45; (with_reducible refine (spigotref14_At.calls k2 _ _ l1 ((rd_T71 l0 x5_2).f0) t440 _ ?side1 ?side2 A10.out).mono ?_); (case side1 => exact Kd.pC HR1.out); (case side2 => exact HC1.out); rintro e w' ⟨rfl, ⟨nd, rfl⟩⟩; (try first | exact ⟨rfl, _, World.drewN_drewN _ _ _⟩ | exact ⟨rfl, _, Eq.trans (World.drewN_drewN _ _ _) (congrArg (World.drewN _) (Nat.add_assoc _ _ _))⟩); have p441 : 0 ≤ (x5_2 : Int) := od; have q441 : x5_2 < (l0.length : Int) := od; obtain ⟨ad441, e441, hx441_0, hx441_1, hx441_2⟩ := at_T71 HR0.out x5_2 p441 q441; (try rw [← Nbq11.out] at hx441_2); obtain rfl : ad439 = ad441 := (by injection e441); replace p441 := eq_true p441; replace q441 := eq_true q441)))
                    go_ret
                    exact ⟨by first | rfl | (simp; done) | (simp [*]; done), by repeat (first | exact Drawn0.refl _ | apply Drawn0.step)⟩
                  · rw [if_neg c13] at H
                    have c13b0 : decide (t440 < 0) = false := decide_eq_false c13
                    clear c13
                    by_cases c14 : 0 ≤ t440
                    · rw [if_pos c14] at H
                      have c14b0 : decide (0 ≤ t440) = true := decide_eq_true c14
                      clear c14
                      by_cases c15 : t440 < (l1.length : Int)
                      · rw [if_pos c15] at H
                        have c15b0 : decide (t440 < (l1.length : Int)) = true := decide_eq_true c15
                        clear c15
                        by_cases c16 : ((rd_T71 l1 t440).f1) = ((rd_T71 l0 x5_2).f1)
                        · rw [if_pos c16] at H
                          have c16b0 : (((rd_T71 l1 t440).f1) == ((rd_T71 l0 x5_2).f1)) = true := beq_iff_eq.mpr c16
                          have c16b1 : (((rd_T71 l1 t440).f1) != ((rd_T71 l0 x5_2).f1)) = false := bne_eq_false_iff_eq.mpr c16
                          clear c16
                          have H' := Aside0.mk H
                          clear H
                          have p439 : 0 ≤ (x5_2 : Int) := od
                          have q439 : x5_2 < (l0.length : Int) := od
                          obtain ⟨ad439, e439, hx439_0, hx439_1, hx439_2⟩ := at_T71 HR0.out x5_2 p439 q439
                          (try rw [← Nbq11.out] at hx439_2)
                          cases e439
                          replace p439 := eq_true p439
                          replace q439 := eq_true q439
                          go_wp2_with (first | (go_at_call 45; (with_reducible refine (spigotref14_At.calls k2 _ _ l1 ((rd_T71 l0 x5_2).f0) t440 _ ?side1 ?side2 A10.out).mono ?_); (case side1 => exact Kd.pC HR1.out); (case side2 => exact HC1.out); rintro e w' ⟨rfl, ⟨nd, rfl⟩⟩; (try first | exact ⟨rfl, _, World.drewN_drewN _ _ _⟩ | exact ⟨rfl, _, Eq.trans (World.drewN_drewN _ _ _) (congrArg (World.drewN _) (Nat.add_assoc _ _ _))⟩); have p441 : 0 ≤ (x5_2 : Int) := od; have q441 : x5_2 < (l0.length : Int) := od; obtain ⟨ad441, e441, hx441_0, hx441_1, hx441_2⟩ := at_T71 HR0.out x5_2 p441 q441; (try rw [← Nbq11.out] at hx441_2); obtain rfl : ad439 = ad441 := (by injection e441); replace p441 := eq_true p441; replace q441 := eq_true q441; have p442 : 0 ≤ (t440 : Int) := od; have q442 : t440 < (l1.length : Int) := od; obtain ⟨ad442, e442, hx442_0, hx442_1, hx442_2⟩ := at_T71 HR1.out t440 p442 q442; (try rw [← Nbq11.out] at hx442_2); cases e442; replace p442 := eq_true p442; replace q442 := eq_true q442; have p443 : 0 ≤ (x5_2 : Int) := od; have q443 : x5_2 < (l0.length : Int) := od; obtain ⟨ad443, e443, hx443_0, hx443_1, hx443_2⟩ := at_T71 HR0.out x5_2 p443 q443; (try rw [← Nbq11.out] at hx443_2); obtain rfl : ad439 = ad443 := (by injection e443); replace p443 := eq_true p443; replace q443 := eq_true q443))
                          repeat (go_quiet (first | (go_at_call 45; (with_reducible refine (spigotref14_At.calls k2 _ _ l1 ((rd_T71 l0 x5_2).f0) t440 _ ?side1 ?side2 A10.out).mono ?_); (case side1 => exact Kd.pC HR1.out); (case side2 => exact HC1.out); rintro e w' ⟨rfl, ⟨nd, rfl⟩⟩; (try first | exact ⟨rfl, _, World.drewN_drewN _ _ _⟩ | exact ⟨rfl, _, Eq.trans (World.drewN_drewN _ _ _) (congrArg (World.drewN _) (Nat.add_assoc _ _ _))⟩); have p441 : 0 ≤ (x5_2 : Int) := od; have q441 : x5_2 < (l0.length : Int) := od; obtain ⟨ad441, e441, hx441_0, hx441_1, hx441_2⟩ := at_T71 HR0.out x5_2 p441 q441; (try rw [← Nbq11.out] at hx441_2); obtain rfl : ad439 = ad441 := (by injection e441); replace p441 := eq_true p441; replace q441 := eq_true q441; have p442 : 0 ≤ (t440 : Int) := od; have q442 : t440 < (l1.length : Int) := od; obtain ⟨ad442, e442, hx442_0, hx442_1, hx442_2⟩ := at_T71 HR1.out t440 p442 q442; (try rw [← Nbq11.out] at hx442_2); cases e442; replace p442 := eq_true p442; replace q442 := eq_true q442; have p443 : 0 ≤ (x5_2 : Int) := od; have q443 : x5_2 < (l0.length : Int) := od; obtain ⟨ad443, e443, hx443_0, hx443_1, hx443_2⟩ := at_T71 HR0.out x5_2 p443 q443; (try rw [← Nbq11.out] at hx443_2); obtain rfl : ad439 = ad443 := (by injection e443); replace p443 := eq_true p443; replace q443 := eq_true q443)); try go_wp2_with (first | (go_at_call 45; (with_reducible refine (spigotref14_At.calls k2 _ _ l1 ((rd_T71 l0 x5_2).f0) t440 _ ?side1 ?side2 A10.out).mono ?_); (case side1 => exact Kd.pC HR1.out); (case side2 => exact HC1.out); rintro e w' ⟨rfl, ⟨nd, rfl⟩⟩; (try first | exact ⟨rfl, _, World.drewN_drewN _ _ _⟩ | exact ⟨rfl, _, Eq.trans (World.drewN_drewN _ _ _) (congrArg (World.drewN _) (Nat.add_assoc _ _ _))⟩); have p441 : 0 ≤ (x5_2 : Int) := od; have q441 : x5_2 < (l0.length : Int) := od; obtain ⟨ad441, e441, hx441_0, hx441_1, hx441_2⟩ := at_T71 HR0.out x5_2 p441 q441; (try rw [← Nbq11.out] at hx441_2); obtain rfl : ad439 = ad441 := (by injection e441); replace p441 := eq_true p441; replace q441 := eq_true q441; have p442 : 0 ≤ (t440 : Int) := od; have q442 : t440 < (l1.length : Int) := od; obtain ⟨ad442, e442, hx442_0, hx442_1, hx442_2⟩ := at_T71 HR1.out t440 p442 q442; (try rw [← Nbq11.out] at hx442_2); cases e442; replace p442 := eq_true p442; replace q442 := eq_true q442; have p443 : 0 ≤ (x5_2 : Int) := od; have q443 : x5_2 < (l0.length : Int) := od; obtain ⟨ad443, e443, hx443_0, hx443_1, hx443_2⟩ := at_T71 HR0.out x5_2 p443 q443; (try rw [← Nbq11.out] at hx443_2); obtain rfl : ad439 = ad443 := (by injection e443); replace p443 := eq_true p443; replace q443 := eq_true q443)))
                          go_roundg k2
                          case measure => have := HJ2.out; have := HK2.out; omega
                          case rel => exact ⟨(wrap64 (x5_2 + 1)), (by first | rfl | (simp; done) | (simp [*]; done)), H', ⟨by have := HJ2.out; have := HK2.out; omega⟩, by repeat (first | exact Drawn0.refl _ | apply Drawn0.step)⟩
                        · rw [if_neg c16] at H
                          have c16b0 : (((rd_T71 l1 t440).f1) == ((rd_T71 l0 x5_2).f1)) = false := beq_eq_false_iff_ne.mpr c16
                          have c16b1 : (((rd_T71 l1 t440).f1) != ((rd_T71 l0 x5_2).f1)) = true := bne_iff_ne.mpr c16
                          obtain rfl := Option.some.inj H
                          have p439 : 0 ≤ (x5_2 : Int) := od
                          have q439 : x5_2 < (l0.length : Int) := od
                          obtain ⟨ad439, e439, hx439_0, hx439_1, hx439_2⟩ := at_T71 HR0.out x5_2 p439 q439
                          (try rw [← Nbq11.out] at hx439_2)
                          cases e439
                          replace p439 := eq_true p439
                          replace q439 := eq_true q439
                          go_wp2_with (first | (go_at_call 45; (with_reducible refine (spigotref14_At.calls k2 _ _ l1 ((rd_T71 l0 x5_2).f0) t440 _ ?side1 ?side2 A10.out).mono ?_); (case side1 => exact Kd.pC HR1.out); (case side2 => exact HC1.out); rintro e w' ⟨rfl, ⟨nd, rfl⟩⟩; (try first | exact ⟨rfl, _, World.drewN_drewN _ _ _⟩ | exact ⟨rfl, _, Eq.trans (World.drewN_drewN _ _ _) (congrArg (World.drewN _) (Nat.add_assoc _ _ _))⟩); have p441 : 0 ≤ (x5_2 : Int) := od; have q441 : x5_2 < (l0.length : Int) := od; obtain ⟨ad441, e441, hx441_0, hx441_1, hx441_2⟩ := at_T71 HR0.out x5_2 p441 q441; (try rw [← Nbq11.out] at hx441_2); obtain rfl : ad439 = ad441 := (by injection e441); replace p441 := eq_true p441; replace q441 := eq_true q441; have p442 : 0 ≤ (t440 : Int) := od; have q442 : t440 < (l1.length : Int) := od; obtain ⟨ad442, e442, hx442_0, hx442_1, hx442_2⟩ := at_T71 HR1.out t440 p442 q442; (try rw [← Nbq11.out] at hx442_2); cases e442; replace p442 := eq_true p442; replace q442 := eq_true q442; have p443 : 0 ≤ (x5_2 : Int) := od; have q443 : x5_2 < (l0.length : Int) := od; obtain ⟨ad443, e443, hx443_0, hx443_1, hx443_2⟩ := at_T71 HR0.out x5_2 p443 q443; (try rw [← Nbq11.out] at hx443_2); obtain rfl : ad439 = ad443 := (by injection e443); replace p443 := eq_true p443; replace q443 := eq_true q443))
                          repeat (go_quiet (first | (go_at_call 45; (with_reducible refine (spigotref14_At.calls k2 _ _ l1 ((rd_T71 l0 x5_2).f0) t440 _ ?side1 ?side2 A10.out).mono ?_); (case side1 => exact Kd.pC HR1.out); (case side2 => exact HC1.out); rintro e w' ⟨rfl, ⟨nd, rfl⟩⟩; (try first | exact ⟨rfl, _, World.drewN_drewN _ _ _⟩ | exact ⟨rfl, _, Eq.trans (World.drewN_drewN _ _ _) (congrArg (World.drewN _) (Nat.add_assoc _ _ _))⟩); have p441 : 0 ≤ (x5_2 : Int) := od; have q441 : x5_2 < (l0.length : Int) := od; obtain ⟨ad441, e441, hx441_0, hx441_1, hx441_2⟩ := at_T71 HR0.out x5_2 p441 q441; (try rw [← Nbq11.out] at hx441_2); obtain rfl : ad439 = ad441 := (by injection e441); replace p441 := eq_true p441; replace q441 := eq_true q441; have p442 : 0 ≤ (t440 : Int) := od; have q442 : t440 < (l1.length : Int) := od; obtain ⟨ad442, e442, hx442_0, hx442_1, hx442_2⟩ := at_T71 HR1.out t440 p442 q442; (try rw [← Nbq11.out] at hx442_2); cases e442; replace p442 := eq_true p442; replace q442 := eq_true q442; have p443 : 0 ≤ (x5_2 : Int) := od; have q443 : x5_2 < (l0.length : Int) := od; obtain ⟨ad443, e443, hx443_0, hx443_1, hx443_2⟩ := at_T71 HR0.out x5_2 p443 q443; (try rw [← Nbq11.out] at hx443_2); obtain rfl : ad439 = ad443 := (by injection e443); replace p443 := eq_true p443; replace q443 := eq_true q443)); try go_wp2_with (first | (go_at_call 45; (with_reducible refine (spigotref14_At.calls k2 _ _ l1 ((rd_T71 l0 x5_2).f0) t440 _ ?side1 ?side2 A10.out).mono ?_); (case side1 => exact Kd.pC HR1.out); (case side2 => exact HC1.out); rintro e w' ⟨rfl, ⟨nd, rfl⟩⟩; (try first | exact ⟨rfl, _, World.drewN_drewN _ _ _⟩ | exact ⟨rfl, _, Eq.trans (World.drewN_drewN _ _ _) (congrArg (World.drewN _) (Nat.add_assoc _ _ _))⟩); have p441 : 0 ≤ (x5_2 : Int) := od; have q441 : x5_2 < (l0.length : Int) := od; obtain ⟨ad441, e441, hx441_0, hx441_1, hx441_2⟩ := at_T71 HR0.out x5_2 p441 q441; (try rw [← Nbq11.out] at hx441_2); obtain rfl : ad439 = ad441 := (by injection e441); replace p441 := eq_true p441; replace q441 := eq_true q441; have p442 : 0 ≤ (t440 : Int) := od; have q442 : t440 < (l1.length : Int) := od; obtain ⟨ad442, e442, hx442_0, hx442_1, hx442_2⟩ := at_T71 HR1.out t440 p442 q442; (try rw [← Nbq11.out] at hx442_2); cases e442; replace p442 := eq_true p442; replace q442 := eq_true q442; have p443 : 0 ≤ (x5_2 : Int) := od; have q443 : x5_2 < (l0.length : Int) := od; obtain ⟨ad443, e443, hx443_0, hx443_1, hx443_2⟩ := at_T71 HR0.out x5_2 p443 q443; (try rw [← Nbq11.out] at hx443_2); obtain rfl : ad439 = ad443 := (by injection e443); replace p443 := eq_true p443; replace q443 := eq_true q443)))
                          go_ret
                          exact ⟨by first | rfl | (simp; done) | (simp [*]; done), by repeat (first | exact Drawn0.refl _ | apply Drawn0.step)⟩
                      · rw [if_neg c15] at H
                        exact absurd H (by simp)
                    · rw [if_neg c14] at H
                      exact absurd H (by simp)
                · replace c12 := Bool.eq_false_iff.mpr c12
                  subst c12
                  have H1 : (spigotlaw14_alike.l0 k2 l0 l1 (wrap64 (x5_2 + 1))) = some r := by rw [if_neg (show ¬ (false = true) by decide)] at H; exact H
                  clear H
                  have H := H1
                  clear H1
                  have H' := Aside0.mk H
                  clear H
                  have p439 : 0 ≤ (x5_2 : Int) := od
                  have q439 : x5_2 < (l0.length : Int) := od
                  obtain ⟨ad439, e439, hx439_0, hx439_1, hx439_2⟩ := at_T71 HR0.out x5_2 p439 q439
                  (try rw [← Nbq11.out] at hx439_2)
                  cases e439
                  replace p439 := eq_true p439
                  replace q439 := eq_true q439
                  go_wp2_with (first | (go_at_call 45; (with_reducible refine (spigotref14_At.calls k2 _ _ l1 ((rd_T71 l0 x5_2).f0) t440 _ ?side1 ?side2 A10.out).mono ?_); (case side1 => exact Kd.pC HR1.out); (case side2 => exact HC1.out); rintro e w' ⟨rfl, ⟨nd, rfl⟩⟩; (try first | exact ⟨rfl, _, World.drewN_drewN _ _ _⟩ | exact ⟨rfl, _, Eq.trans (World.drewN_drewN _ _ _) (congrArg (World.drewN _) (Nat.add_assoc _ _ _))⟩); have p441 : 0 ≤ (x5_2 : Int) := od; have q441 : x5_2 < (l0.length : Int) := od; obtain ⟨ad441, e441, hx441_0, hx441_1, hx441_2⟩ := at_T71 HR0.out x5_2 p441 q441; (try rw [← Nbq11.out] at hx441_2); obtain rfl : ad439 = ad441 := (by injection e441); replace p441 := eq_true p441; replace q441 := eq_true q441))
                  repeat (go_quiet (first | (go_at_call 45; (with_reducible refine (spigotref14_At.calls k2 _ _ l1 ((rd_T71 l0 x5_2).f0) t440 _ ?side1 ?side2 A10.out).mono ?_); (case side1 => exact Kd.pC HR1.out); (case side2 => exact HC1.out); rintro e w' ⟨rfl, ⟨nd, rfl⟩⟩; (try first | exact ⟨rfl, _, World.drewN_drewN _ _ _⟩ | exact ⟨rfl, _, Eq.trans (World.drewN_drewN _ _ _) (congrArg (World.drewN _) (Nat.add_assoc _ _ _))⟩); have p441 : 0 ≤ (x5_2 : Int) := od; have q441 : x5_2 < (l0.length : Int) := od; obtain ⟨ad441, e441, hx441_0, hx441_1, hx441_2⟩ := at_T71 HR0.out x5_2 p441 q441; (try rw [← Nbq11.out] at hx441_2); obtain rfl : ad439 = ad441 := (by injection e441); replace p441 := eq_true p441; replace q441 := eq_true q441)); try go_wp2_with (first | (go_at_call 45; (with_reducible refine (spigotref14_At.calls k2 _ _ l1 ((rd_T71 l0 x5_2).f0) t440 _ ?side1 ?side2 A10.out).mono ?_); (case side1 => exact Kd.pC HR1.out); (case side2 => exact HC1.out); rintro e w' ⟨rfl, ⟨nd, rfl⟩⟩; (try first | exact ⟨rfl, _, World.drewN_drewN _ _ _⟩ | exact ⟨rfl, _, Eq.trans (World.drewN_drewN _ _ _) (congrArg (World.drewN _) (Nat.add_assoc _ _ _))⟩); have p441 : 0 ≤ (x5_2 : Int) := od; have q441 : x5_2 < (l0.length : Int) := od; obtain ⟨ad441, e441, hx441_0, hx441_1, hx441_2⟩ := at_T71 HR0.out x5_2 p441 q441; (try rw [← Nbq11.out] at hx441_2); obtain rfl : ad439 = ad441 := (by injection e441); replace p441 := eq_true p441; replace q441 := eq_true q441)))
                  go_roundg k2
                  case measure => have := HJ2.out; have := HK2.out; omega
                  case rel => exact ⟨(wrap64 (x5_2 + 1)), (by first | rfl | (simp; done) | (simp [*]; done)), H', ⟨by have := HJ2.out; have := HK2.out; omega⟩, by repeat (first | exact Drawn0.refl _ | apply Drawn0.step)⟩
              · rw [if_neg c9] at H
                exact absurd H (by simp)
            · rw [if_neg c8] at H
              have c8b0 : decide (x5_2 < (l0.length : Int)) = false := decide_eq_false c8
              clear c8
              obtain rfl := Option.some.inj H
              go_wp2
              repeat (go_quiet (fail); try go_wp2)
              go_ret
              exact ⟨by first | rfl | (simp; done) | (simp [*]; done), by repeat (first | exact Drawn0.refl _ | apply Drawn0.step)⟩

end Go.Proofs.Ytlgfopdindklnaa.PProbe
