-- printed by a program of this session (a turned copy of the kit's print); Lean checks it
import Derived.Test.YteeceppbnkkfpaaPSharex0
import Derived.Test.YteeceppbnkkfpaaPSharex15
import Derived.Test.YteeceppbnkkfpaaPSharex17
import Derived.Test.YteeceppbnkkfpaaPSharex19
import Derived.Test.YteeceppbnkkfpaaPSharex29
namespace Go.Proofs.Yteeceppbnkkfpaa.PShare
open Go.RowKit Go.Proofs.YteeceppbnkkfpaaW.PrintWords Go.Proofs.YteeceppbnkkfpaaW.PrintLast Go.Proofs.YteeceppbnkkfpaaW.PrintMore
attribute [local go_sem] max2_int min2_int max_two min_two max_three min_three max_four min_four   -- for this text's walks alone
set_option linter.unusedVariables false
set_option linter.unusedSimpArgs false

/-! ### spigotlaw36_ShareFair: function 8 -/
mutual
def spigotlaw36_ShareFair.l0 : Nat → List (S37) → Int → Bool → List Int → Int → Int → Int → Option (Bool)
  | 0, _, _, _, _, _, _, _ => none
  | k + 1, x0, x1, x5, x6, x8, x9, x10 => if x10 < (x0.length : Int) then (if 0 ≤ x10 then (if x10 < (x6.length : Int) then (if (rd x6 x10) < 0 then (some false) else (if (rd x6 x10) > ((rd_T37 x0 x10).f0) then (some false) else (spigotlaw36_ShareFair.l1 k x0 x1 x5 x6 (wrap64 (x8 + (rd x6 x10))) (wrap64 (x9 + ((rd_T37 x0 x10).f0))) x10 0))) else (none)) else (none)) else ((share_Fair.f k x0 x1 x6).bind fun bt4138 => (if x5 = true then (if x8 = (mn x9 x1) then (if bt4138.2 = 0 then (some bt4138.1) else (some false)) else (some false)) else (some false)))
def spigotlaw36_ShareFair.l1 : Nat → List (S37) → Int → Bool → List Int → Int → Int → Int → Int → Option (Bool)
  | 0, _, _, _, _, _, _, _, _ => none
  | k + 1, x0, x1, x5, x6, x8, x9, x10, x11 => if x11 < (x0.length : Int) then (if 0 ≤ x10 then (if x10 < (x6.length : Int) then (if x10 < (x0.length : Int) then (if (rd x6 x10) < ((rd_T37 x0 x10).f0) then (if x11 = x10 then (spigotlaw36_ShareFair.l1 k x0 x1 x5 x6 x8 x9 x10 (wrap64 (x11 + 1))) else (if 0 ≤ x11 then (if x11 < (x6.length : Int) then (if (rd x6 x11) ≥ 0 then (if (rd x6 x11) ≤ ((rd_T37 x0 x11).f0) then (if (wrap64 ((wrap64 ((rd x6 x11) - 1)) * ((rd_T37 x0 x10).f1))) ≥ (wrap64 ((wrap64 ((rd x6 x10) + 1)) * ((rd_T37 x0 x11).f1))) then (some false) else (spigotlaw36_ShareFair.l1 k x0 x1 x5 x6 x8 x9 x10 (wrap64 (x11 + 1)))) else (spigotlaw36_ShareFair.l1 k x0 x1 x5 x6 x8 x9 x10 (wrap64 (x11 + 1)))) else (spigotlaw36_ShareFair.l1 k x0 x1 x5 x6 x8 x9 x10 (wrap64 (x11 + 1)))) else (none)) else (none))) else (spigotlaw36_ShareFair.l1 k x0 x1 x5 x6 x8 x9 x10 (wrap64 (x11 + 1)))) else (none)) else (none)) else (none)) else (spigotlaw36_ShareFair.l0 k x0 x1 x5 x6 x8 x9 (wrap64 (x10 + 1)))
end
def spigotlaw36_ShareFair.f (k : Nat) (l0 : List (S37)) (a1 : Int) : Option (Bool) := (spigotlaw36_alive.f k).bind fun t4118 => (if t4118 = true then (if (l0.length : Int) > 20 then (some t4118) else ((spigotref36_Asked.f k l0 a1).bind fun t4119 => (if t4119 = 0 then ((share_Split.f k l0 a1).bind fun bt4120 => (if bt4120.2 = 0 then (if (bt4120.1.length : Int) = (l0.length : Int) then (spigotlaw36_ShareFair.l0 k l0 a1 t4118 bt4120.1 0 0 0) else (some false)) else (some false))) else (some t4118)))) else (none))
theorem spigotlaw36_ShareFair.mono_l : ∀ k, (∀ y0 y1 y2 y3 y4 y5 y6, LeO (spigotlaw36_ShareFair.l0 k y0 y1 y2 y3 y4 y5 y6) (spigotlaw36_ShareFair.l0 (k + 1) y0 y1 y2 y3 y4 y5 y6)) ∧ (∀ y0 y1 y2 y3 y4 y5 y6 y7, LeO (spigotlaw36_ShareFair.l1 k y0 y1 y2 y3 y4 y5 y6 y7) (spigotlaw36_ShareFair.l1 (k + 1) y0 y1 y2 y3 y4 y5 y6 y7))
  | 0 => ⟨fun _ _ _ _ _ _ _ r h => by simp [spigotlaw36_ShareFair.l0] at h, fun _ _ _ _ _ _ _ _ r h => by simp [spigotlaw36_ShareFair.l1] at h⟩
  | k + 1 => by
    obtain ⟨ih0, ih1⟩ := spigotlaw36_ShareFair.mono_l k
    refine ⟨?_, ?_⟩
    · intro y0 y1 y2 y3 y4 y5 y6
      unfold spigotlaw36_ShareFair.l0
      repeat' first
      | (with_reducible exact ih0 _ _ _ _ _ _ _)
      | (with_reducible exact ih1 _ _ _ _ _ _ _ _)
      | (with_reducible exact share_Fair.mono _ _ _ _)
      | (with_reducible exact share_Split.mono _ _ _)
      | (with_reducible exact spigotlaw36_alive.mono _)
      | (with_reducible exact spigotref36_Asked.mono _ _ _)
      | (with_reducible exact LeO.refl _)
      | (with_reducible exact LeO.none _)
      | (with_reducible refine LeO.ite ?_ ?_)
      | (with_reducible refine LeO.bind ?_ (fun _ => ?_))
      | exact ih0 _ _ _ _ _ _ _
      | exact ih1 _ _ _ _ _ _ _ _
      | exact share_Fair.mono _ _ _ _
      | exact share_Split.mono _ _ _
      | exact spigotlaw36_alive.mono _
      | exact spigotref36_Asked.mono _ _ _
      | exact LeO.none _
      | refine LeO.ite ?_ ?_
      | refine LeO.bind ?_ (fun _ => ?_)
    · intro y0 y1 y2 y3 y4 y5 y6 y7
      unfold spigotlaw36_ShareFair.l1
      repeat' first
      | (with_reducible exact ih0 _ _ _ _ _ _ _)
      | (with_reducible exact ih1 _ _ _ _ _ _ _ _)
      | (with_reducible exact share_Fair.mono _ _ _ _)
      | (with_reducible exact share_Split.mono _ _ _)
      | (with_reducible exact spigotlaw36_alive.mono _)
      | (with_reducible exact spigotref36_Asked.mono _ _ _)
      | (with_reducible exact LeO.refl _)
      | (with_reducible exact LeO.none _)
      | (with_reducible refine LeO.ite ?_ ?_)
      | (with_reducible refine LeO.bind ?_ (fun _ => ?_))
      | exact ih0 _ _ _ _ _ _ _
      | exact ih1 _ _ _ _ _ _ _ _
      | exact share_Fair.mono _ _ _ _
      | exact share_Split.mono _ _ _
      | exact spigotlaw36_alive.mono _
      | exact spigotref36_Asked.mono _ _ _
      | exact LeO.none _
      | refine LeO.ite ?_ ?_
      | refine LeO.bind ?_ (fun _ => ?_)
theorem spigotlaw36_ShareFair.mono : ∀ a0 a1 k, LeO (spigotlaw36_ShareFair.f k a0 a1) (spigotlaw36_ShareFair.f (k + 1) a0 a1) := by
  intro a0 a1 k
  obtain ⟨ih0, ih1⟩ := spigotlaw36_ShareFair.mono_l k
  unfold spigotlaw36_ShareFair.f
  repeat' first
      | (with_reducible exact ih0 _ _ _ _ _ _ _)
      | (with_reducible exact ih1 _ _ _ _ _ _ _ _)
      | (with_reducible exact share_Fair.mono _ _ _ _)
      | (with_reducible exact share_Split.mono _ _ _)
      | (with_reducible exact spigotlaw36_alive.mono _)
      | (with_reducible exact spigotref36_Asked.mono _ _ _)
      | (with_reducible exact LeO.refl _)
      | (with_reducible exact LeO.none _)
      | (with_reducible refine LeO.ite ?_ ?_)
      | (with_reducible refine LeO.bind ?_ (fun _ => ?_))
      | exact ih0 _ _ _ _ _ _ _
      | exact ih1 _ _ _ _ _ _ _ _
      | exact share_Fair.mono _ _ _ _
      | exact share_Split.mono _ _ _
      | exact spigotlaw36_alive.mono _
      | exact spigotref36_Asked.mono _ _ _
      | exact LeO.none _
      | refine LeO.ite ?_ ?_
      | refine LeO.bind ?_ (fun _ => ?_)
set_option maxHeartbeats 8000000 in
set_option maxRecDepth 100000 in
theorem spigotlaw36_ShareFair.calls (k : Nat) (A0 : Option Addr) (c0 : Nat) (l0 : List (S37)) (a1 : Int) (w : World) (hr0 : Kd.C k37 w A0 l0.length l0) (hc0 : l0.length ≤ c0) (h : spigotlaw36_ShareFair.f k l0 a1 = some true) :
    Calls Try.prog 8 #[.slice A0 l0.length c0, .int .i64 a1] w fun e w' => e = .returned (.bool true) ∧ Below w.heap.size w w' := by
  have HR0 := Aside0.mk hr0
  have HC0 := Aside0.mk hc0
  clear hr0 hc0
  have HB := Aside0.mk (Below.refl w.heap.size w)
  have H : ((spigotlaw36_alive.f k).bind fun t4118 => (if t4118 = true then (if (l0.length : Int) > 20 then (some t4118) else ((spigotref36_Asked.f k l0 a1).bind fun t4119 => (if t4119 = 0 then ((share_Split.f k l0 a1).bind fun bt4120 => (if bt4120.2 = 0 then (if (bt4120.1.length : Int) = (l0.length : Int) then (spigotlaw36_ShareFair.l0 k l0 a1 t4118 bt4120.1 0 0 0) else (some false)) else (some false))) else (some t4118)))) else (none))) = some true := h
  (try clear h)
  replace H := Option.bind_eq_some_iff.mp H
  obtain ⟨t4118, A30, H⟩ := H
  replace H : (if t4118 = true then (if (l0.length : Int) > 20 then (some t4118) else ((spigotref36_Asked.f k l0 a1).bind fun t4119 => (if t4119 = 0 then ((share_Split.f k l0 a1).bind fun bt4120 => (if bt4120.2 = 0 then (if (bt4120.1.length : Int) = (l0.length : Int) then (spigotlaw36_ShareFair.l0 k l0 a1 t4118 bt4120.1 0 0 0) else (some false)) else (some false))) else (some t4118)))) else (none)) = some true := H
  have A3 := Aside0.mk A30
  (try clear A30)
  by_cases c4 : t4118 = true
  · subst c4
    have H1 : (if (l0.length : Int) > 20 then (some true) else ((spigotref36_Asked.f k l0 a1).bind fun t4119 => (if t4119 = 0 then ((share_Split.f k l0 a1).bind fun bt4120 => (if bt4120.2 = 0 then (if (bt4120.1.length : Int) = (l0.length : Int) then (spigotlaw36_ShareFair.l0 k l0 a1 true bt4120.1 0 0 0) else (some false)) else (some false))) else (some true)))) = some true := by rw [if_pos rfl] at H; exact H
    clear H
    have H := H1
    clear H1
    by_cases c5 : (l0.length : Int) > 20
    · rw [if_pos c5] at H
      have c5b0 : decide (20 < (l0.length : Int)) = true := decide_eq_true c5
      have c5b1 : decide (20 < l0.length) = true := decide_eq_true (by omega)
      clear c5
      clear H
      go_enter Try.func8, Try.ntmps8
      go_wp2_with (first | (go_at_call 9; (with_reducible refine (spigotlaw36_alive.calls k   _ A3.out).mono ?_); rintro e w6 ⟨rfl, hb⟩; have n0_ := Aside0.mk (below_step (pB HB.out) hb); clear HB; have HB := n0_; clear n0_; (try clear hb); (try clear hb2); (try clear hk); (try clear hi)))
      repeat (go_quiet (first | (go_at_call 9; (with_reducible refine (spigotlaw36_alive.calls k   _ A3.out).mono ?_); rintro e w6 ⟨rfl, hb⟩; have n0_ := Aside0.mk (below_step (pB HB.out) hb); clear HB; have HB := n0_; clear n0_; (try clear hb); (try clear hb2); (try clear hk); (try clear hi))); try go_wp2_with (first | (go_at_call 9; (with_reducible refine (spigotlaw36_alive.calls k   _ A3.out).mono ?_); rintro e w6 ⟨rfl, hb⟩; have n0_ := Aside0.mk (below_step (pB HB.out) hb); clear HB; have HB := n0_; clear n0_; (try clear hb); (try clear hb2); (try clear hk); (try clear hi))))
      go_ret
      exact ⟨by first | rfl | (simp [errW_none, errW_some] <;> rfl) | (simp [*, errW_none, errW_some] <;> rfl), pB HB.out⟩
    · rw [if_neg c5] at H
      have c5b0 : decide (20 < (l0.length : Int)) = false := decide_eq_false c5
      have c5b1 : decide (20 < l0.length) = false := decide_eq_false (by omega)
      clear c5
      replace H := Option.bind_eq_some_iff.mp H
      obtain ⟨t4119, A70, H⟩ := H
      replace H : (if t4119 = 0 then ((share_Split.f k l0 a1).bind fun bt4120 => (if bt4120.2 = 0 then (if (bt4120.1.length : Int) = (l0.length : Int) then (spigotlaw36_ShareFair.l0 k l0 a1 true bt4120.1 0 0 0) else (some false)) else (some false))) else (some true)) = some true := H
      have A7 := Aside0.mk A70
      (try clear A70)
      by_cases c8 : t4119 = 0
      · rw [if_pos c8] at H
        have c8b0 : (t4119 == 0) = true := beq_iff_eq.mpr c8
        have c8b1 : (t4119 != 0) = false := bne_eq_false_iff_eq.mpr c8
        clear c8
        replace H := Option.bind_eq_some_iff.mp H
        obtain ⟨⟨t4120, t4121⟩, A90, H⟩ := H
        replace H : (if t4121 = 0 then (if (t4120.length : Int) = (l0.length : Int) then (spigotlaw36_ShareFair.l0 k l0 a1 true t4120 0 0 0) else (some false)) else (some false)) = some true := H
        have A9 := Aside0.mk A90
        (try clear A90)
        by_cases c10 : t4121 = 0
        · rw [if_pos c10] at H
          have c10b0 : (t4121 == 0) = true := beq_iff_eq.mpr c10
          have c10b1 : (t4121 != 0) = false := bne_eq_false_iff_eq.mpr c10
          clear c10
          by_cases c11 : (t4120.length : Int) = (l0.length : Int)
          · rw [if_pos c11] at H
            have c11b0 : ((t4120.length : Int) == (l0.length : Int)) = true := beq_iff_eq.mpr c11
            have c11b1 : ((t4120.length : Int) != (l0.length : Int)) = false := bne_eq_false_iff_eq.mpr c11
            have c11b2 : (t4120.length == l0.length) = true := by first | simpa using c11 | (simp at c11 ⊢; omega)
            clear c11
            have H' := Aside0.mk H
            clear H
            go_enter Try.func8, Try.ntmps8
            go_wp2_with (first | (go_at_call 9; (with_reducible refine (spigotlaw36_alive.calls k   _ A3.out).mono ?_); rintro e w12 ⟨rfl, hb⟩; have n0_ := Aside0.mk (below_step (pB HB.out) hb); clear HB; have HB := n0_; clear n0_; (try clear hb); (try clear hb2); (try clear hk); (try clear hi)) | (go_at_call 10; (with_reducible refine (spigotref36_Asked.calls k _ _ l0 a1 t4119 _ ?side1 ?side2 A7.out).mono ?_); (case side1 => exact Kd.pC ((Kd.C_below HR0.out HB.out))); (case side2 => exact HC0.out); rintro e w' ⟨rfl, ⟨nd, rfl⟩⟩; (try first | exact ⟨rfl, _, World.drewN_drewN _ _ _⟩ | exact ⟨rfl, _, Eq.trans (World.drewN_drewN _ _ _) (congrArg (World.drewN _) (Nat.add_assoc _ _ _))⟩)) | (go_at_call 13; (with_reducible refine (share_Split.calls k _ _ l0 a1 t4120 t4121 _ ?side1 ?side2 A9.out).mono ?_); (case side1 => exact Kd.pC ((Kd.C_below HR0.out (pB HB.out)))); (case side2 => exact HC0.out); rintro e w13 ⟨v4122, rfl, ho0, hb⟩; have n0_ := Aside0.mk (Kd.R_lower ho0 (below_size (pB HB.out))); have n1_ := Aside0.mk (below_step (pB HB.out) hb); clear HB; have HO4123 := n0_; have HB := n1_; clear n0_ n1_; (try clear hb); (try clear hb2); (try clear hk); (try clear hi); (try clear ho0); obtain ⟨Ao14, co14, eo14⟩ := Kd.R_slice HO4123.out; subst eo14))
            repeat (go_quiet (first | (go_at_call 9; (with_reducible refine (spigotlaw36_alive.calls k   _ A3.out).mono ?_); rintro e w12 ⟨rfl, hb⟩; have n0_ := Aside0.mk (below_step (pB HB.out) hb); clear HB; have HB := n0_; clear n0_; (try clear hb); (try clear hb2); (try clear hk); (try clear hi)) | (go_at_call 10; (with_reducible refine (spigotref36_Asked.calls k _ _ l0 a1 t4119 _ ?side1 ?side2 A7.out).mono ?_); (case side1 => exact Kd.pC ((Kd.C_below HR0.out HB.out))); (case side2 => exact HC0.out); rintro e w' ⟨rfl, ⟨nd, rfl⟩⟩; (try first | exact ⟨rfl, _, World.drewN_drewN _ _ _⟩ | exact ⟨rfl, _, Eq.trans (World.drewN_drewN _ _ _) (congrArg (World.drewN _) (Nat.add_assoc _ _ _))⟩)) | (go_at_call 13; (with_reducible refine (share_Split.calls k _ _ l0 a1 t4120 t4121 _ ?side1 ?side2 A9.out).mono ?_); (case side1 => exact Kd.pC ((Kd.C_below HR0.out (pB HB.out)))); (case side2 => exact HC0.out); rintro e w13 ⟨v4122, rfl, ho0, hb⟩; have n0_ := Aside0.mk (Kd.R_lower ho0 (below_size (pB HB.out))); have n1_ := Aside0.mk (below_step (pB HB.out) hb); clear HB; have HO4123 := n0_; have HB := n1_; clear n0_ n1_; (try clear hb); (try clear hb2); (try clear hk); (try clear hi); (try clear ho0); obtain ⟨Ao14, co14, eo14⟩ := Kd.R_slice HO4123.out; subst eo14)); try go_wp2_with (first | (go_at_call 9; (with_reducible refine (spigotlaw36_alive.calls k   _ A3.out).mono ?_); rintro e w12 ⟨rfl, hb⟩; have n0_ := Aside0.mk (below_step (pB HB.out) hb); clear HB; have HB := n0_; clear n0_; (try clear hb); (try clear hb2); (try clear hk); (try clear hi)) | (go_at_call 10; (with_reducible refine (spigotref36_Asked.calls k _ _ l0 a1 t4119 _ ?side1 ?side2 A7.out).mono ?_); (case side1 => exact Kd.pC ((Kd.C_below HR0.out HB.out))); (case side2 => exact HC0.out); rintro e w' ⟨rfl, ⟨nd, rfl⟩⟩; (try first | exact ⟨rfl, _, World.drewN_drewN _ _ _⟩ | exact ⟨rfl, _, Eq.trans (World.drewN_drewN _ _ _) (congrArg (World.drewN _) (Nat.add_assoc _ _ _))⟩)) | (go_at_call 13; (with_reducible refine (share_Split.calls k _ _ l0 a1 t4120 t4121 _ ?side1 ?side2 A9.out).mono ?_); (case side1 => exact Kd.pC ((Kd.C_below HR0.out (pB HB.out)))); (case side2 => exact HC0.out); rintro e w13 ⟨v4122, rfl, ho0, hb⟩; have n0_ := Aside0.mk (Kd.R_lower ho0 (below_size (pB HB.out))); have n1_ := Aside0.mk (below_step (pB HB.out) hb); clear HB; have HO4123 := n0_; have HB := n1_; clear n0_ n1_; (try clear hb); (try clear hb2); (try clear hk); (try clear hi); (try clear ho0); obtain ⟨Ao14, co14, eo14⟩ := Kd.R_slice HO4123.out; subst eo14)))
            go_loopg [8, 9, 10] k (fun kq v8 v9 v10 w' => ∃ (x8_1 : Int) (x9_1 : Int) (x10_1 : Int), v8 = .int .i64 x8_1 ∧ v9 = .int .i64 x9_1 ∧ v10 = .int .i64 x10_1 ∧ Aside0 (spigotlaw36_ShareFair.l0 kq l0 a1 true t4120 x8_1 x9_1 x10_1 = some true) ∧ Aside0 (kq ≤ k) ∧ Aside0 (Kd.R (Kd.int .i64) 2 w' w.heap.size (fun _ => True) (.slice Ao14 t4120.length co14) t4120) ∧ Aside0 (Below w.heap.size w w'))
            case atStart => exact ⟨(0), (0), (0), (by first | rfl | (simp; done) | (simp [*]; done)), (by first | rfl | (simp; done) | (simp [*]; done)), (by first | rfl | (simp; done) | (simp [*]; done)), H', ⟨Nat.le_refl _⟩, ⟨Kd.pR HO4123.out⟩, ⟨pB HB.out⟩⟩
            case round =>
              clear H'
              try clear c1
              try clear p2
              try clear c4
              try clear c5
              try clear c5b0
              try clear c5b1
              try clear c8
              try clear c8b0
              try clear c8b1
              try clear c10
              try clear c10b0
              try clear c10b1
              try clear c11
              try clear c11b0
              try clear c11b1
              try clear c11b2
              obtain ⟨x8_1, x9_1, x10_1, rfl, rfl, rfl, HA, HK1, HO_6, HB⟩ := hrel
              cases gk with
              | zero => exact absurd HA.out (by simp [spigotlaw36_ShareFair.l0])
              | succ k1 =>
                have H := HA.out
                clear HA
                simp only [spigotlaw36_ShareFair.l0] at H
                by_cases c15 : x10_1 < (l0.length : Int)
                · rw [if_pos c15] at H
                  have c15b0 : decide (x10_1 < (l0.length : Int)) = true := decide_eq_true c15
                  clear c15
                  by_cases c16 : 0 ≤ x10_1
                  · rw [if_pos c16] at H
                    have c16b0 : decide (0 ≤ x10_1) = true := decide_eq_true c16
                    clear c16
                    by_cases c17 : x10_1 < (t4120.length : Int)
                    · rw [if_pos c17] at H
                      have c17b0 : decide (x10_1 < (t4120.length : Int)) = true := decide_eq_true c17
                      clear c17
                      by_cases c18 : (rd t4120 x10_1) < 0
                      · rw [if_pos c18] at H
                        have c18b0 : decide ((rd t4120 x10_1) < 0) = true := decide_eq_true c18
                        clear c18
                        exact absurd H (by simp)
                      · rw [if_neg c18] at H
                        have c18b0 : decide ((rd t4120 x10_1) < 0) = false := decide_eq_false c18
                        clear c18
                        by_cases c19 : (rd t4120 x10_1) > ((rd_T37 l0 x10_1).f0)
                        · rw [if_pos c19] at H
                          have c19b0 : decide (((rd_T37 l0 x10_1).f0) < (rd t4120 x10_1)) = true := decide_eq_true c19
                          clear c19
                          exact absurd H (by simp)
                        · rw [if_neg c19] at H
                          have c19b0 : decide (((rd_T37 l0 x10_1).f0) < (rd t4120 x10_1)) = false := decide_eq_false c19
                          clear c19
                          have H' := Aside0.mk H
                          clear H
                          have p4124 : 0 ≤ (x10_1 : Int) := od
                          have q4124 : x10_1 < (t4120.length : Int) := od
                          obtain ⟨ad4124, e4124, hx4124_0⟩ := Kd.at_int (Kd.R_reads' HO_6.out).2.2 x10_1 p4124 q4124
                          cases e4124
                          replace p4124 := eq_true p4124
                          replace q4124 := eq_true q4124
                          have p4125 : 0 ≤ (x10_1 : Int) := od
                          have q4125 : x10_1 < (t4120.length : Int) := od
                          obtain ⟨ad4125, e4125, hx4125_0⟩ := Kd.at_int (Kd.R_reads' HO_6.out).2.2 x10_1 p4125 q4125
                          obtain rfl : ad4124 = ad4125 := (by injection e4125)
                          replace p4125 := eq_true p4125
                          replace q4125 := eq_true q4125
                          have p4126 : 0 ≤ (x10_1 : Int) := od
                          have q4126 : x10_1 < (l0.length : Int) := od
                          obtain ⟨ad4126, e4126, hx4126_0, hx4126_1⟩ := at_T37 HR0.out x10_1 p4126 q4126
                          cases e4126
                          replace hx4126_0 := (HB.out.cell (World.block_lt_of_cell? w _ hx4126_0)).trans hx4126_0
                          replace hx4126_1 := (HB.out.cell (World.block_lt_of_cell? w _ hx4126_1)).trans hx4126_1
                          replace p4126 := eq_true p4126
                          replace q4126 := eq_true q4126
                          have p4127 : 0 ≤ (x10_1 : Int) := od
                          have q4127 : x10_1 < (t4120.length : Int) := od
                          obtain ⟨ad4127, e4127, hx4127_0⟩ := Kd.at_int (Kd.R_reads' HO_6.out).2.2 x10_1 p4127 q4127
                          obtain rfl : ad4124 = ad4127 := (by injection e4127)
                          replace p4127 := eq_true p4127
                          replace q4127 := eq_true q4127
                          have p4128 : 0 ≤ (x10_1 : Int) := od
                          have q4128 : x10_1 < (l0.length : Int) := od
                          obtain ⟨ad4128, e4128, hx4128_0, hx4128_1⟩ := at_T37 HR0.out x10_1 p4128 q4128
                          obtain rfl : ad4126 = ad4128 := (by injection e4128)
                          replace hx4128_0 := (HB.out.cell (World.block_lt_of_cell? w _ hx4128_0)).trans hx4128_0
                          replace hx4128_1 := (HB.out.cell (World.block_lt_of_cell? w _ hx4128_1)).trans hx4128_1
                          replace p4128 := eq_true p4128
                          replace q4128 := eq_true q4128
                          go_wp2
                          repeat (go_quiet (fail); try go_wp2)
                          go_loopg [11] k1 (fun kq v11 w' => ∃ (x11_2 : Int), v11 = .int .i64 x11_2 ∧ Aside0 (spigotlaw36_ShareFair.l1 kq l0 a1 true t4120 (wrap64 (x8_1 + (rd t4120 x10_1))) (wrap64 (x9_1 + ((rd_T37 l0 x10_1).f0))) x10_1 x11_2 = some true) ∧ Aside0 (kq ≤ k1) ∧ Aside0 (Kd.R (Kd.int .i64) 2 w' w.heap.size (fun _ => True) (.slice (some ad4124) t4120.length co14) t4120) ∧ Aside0 (Below w.heap.size w w'))
                          case atStart => exact ⟨(0), (by first | rfl | (simp; done) | (simp [*]; done)), H', ⟨Nat.le_refl _⟩, ⟨Kd.pR HO_6.out⟩, ⟨pB HB.out⟩⟩
                          case round =>
                            clear H'
                            try clear c1
                            try clear p2
                            try clear c4
                            try clear p4
                            try clear q4
                            try clear hx4
                            try clear c5
                            try clear c5b0
                            try clear c5b1
                            try clear p6
                            try clear c8
                            try clear c8b0
                            try clear c8b1
                            try clear c10
                            try clear c10b0
                            try clear c10b1
                            try clear c11
                            try clear c11b0
                            try clear c11b1
                            try clear c11b2
                            try clear c15
                            try clear c15b0
                            try clear c16
                            try clear c16b0
                            try clear c17
                            try clear c17b0
                            try clear c18
                            try clear c18b0
                            try clear c19
                            try clear c19b0
                            try clear hx4124_0
                            try clear hx4125_0
                            try clear hx4126_0
                            try clear hx4126_1
                            try clear hx4127_0
                            try clear hx4128_0
                            try clear hx4128_1
                            try clear p2
                            try clear p4124
                            try clear p4125
                            try clear p4126
                            try clear p4127
                            try clear p4128
                            try clear q4124
                            try clear q4125
                            try clear q4126
                            try clear q4127
                            try clear q4128
                            obtain ⟨x11_2, rfl, HA, HK2, HO_6, HB⟩ := hrel
                            cases gk with
                            | zero => exact absurd HA.out (by simp [spigotlaw36_ShareFair.l1])
                            | succ k2 =>
                              have H := HA.out
                              (try clear HA)
                              simp only [spigotlaw36_ShareFair.l1] at H
                              by_cases c20 : x11_2 < (l0.length : Int)
                              · rw [if_pos c20] at H
                                have c20b0 : decide (x11_2 < (l0.length : Int)) = true := decide_eq_true c20
                                clear c20
                                by_cases c21 : 0 ≤ x10_1
                                · rw [if_pos c21] at H
                                  have c21b0 : decide (0 ≤ x10_1) = true := decide_eq_true c21
                                  clear c21
                                  by_cases c22 : x10_1 < (t4120.length : Int)
                                  · rw [if_pos c22] at H
                                    have c22b0 : decide (x10_1 < (t4120.length : Int)) = true := decide_eq_true c22
                                    clear c22
                                    by_cases c23 : x10_1 < (l0.length : Int)
                                    · rw [if_pos c23] at H
                                      have c23b0 : decide (x10_1 < (l0.length : Int)) = true := decide_eq_true c23
                                      clear c23
                                      by_cases c24 : (rd t4120 x10_1) < ((rd_T37 l0 x10_1).f0)
                                      · rw [if_pos c24] at H
                                        have c24b0 : decide ((rd t4120 x10_1) < ((rd_T37 l0 x10_1).f0)) = true := decide_eq_true c24
                                        clear c24
                                        by_cases c25 : x11_2 = x10_1
                                        · rw [if_pos c25] at H
                                          have c25b0 : (x11_2 == x10_1) = true := beq_iff_eq.mpr c25
                                          have c25b1 : (x11_2 != x10_1) = false := bne_eq_false_iff_eq.mpr c25
                                          clear c25
                                          have H' := Aside0.mk H
                                          clear H
                                          have p4129 : 0 ≤ (x10_1 : Int) := od
                                          have q4129 : x10_1 < (t4120.length : Int) := od
                                          obtain ⟨ad4129, e4129, hx4129_0⟩ := Kd.at_int (Kd.R_reads' HO_6.out).2.2 x10_1 p4129 q4129
                                          obtain rfl : ad4124 = ad4129 := (by injection e4129)
                                          replace p4129 := eq_true p4129
                                          replace q4129 := eq_true q4129
                                          have p4130 : 0 ≤ (x10_1 : Int) := od
                                          have q4130 : x10_1 < (l0.length : Int) := od
                                          obtain ⟨ad4130, e4130, hx4130_0, hx4130_1⟩ := at_T37 HR0.out x10_1 p4130 q4130
                                          obtain rfl : ad4126 = ad4130 := (by injection e4130)
                                          replace hx4130_0 := (HB.out.cell (World.block_lt_of_cell? w _ hx4130_0)).trans hx4130_0
                                          replace hx4130_1 := (HB.out.cell (World.block_lt_of_cell? w _ hx4130_1)).trans hx4130_1
                                          replace p4130 := eq_true p4130
                                          replace q4130 := eq_true q4130
                                          go_wp2
                                          repeat (go_quiet (fail); try go_wp2)
                                          go_roundg k2
                                          case measure => have := HK1.out; have := HK2.out; omega
                                          case rel => exact ⟨(wrap64 (x11_2 + 1)), (by first | rfl | (simp; done) | (simp [*]; done)), H', ⟨by have := HK1.out; have := HK2.out; omega⟩, ⟨Kd.pR HO_6.out⟩, ⟨pB HB.out⟩⟩
                                        · rw [if_neg c25] at H
                                          have c25b0 : (x11_2 == x10_1) = false := beq_eq_false_iff_ne.mpr c25
                                          have c25b1 : (x11_2 != x10_1) = true := bne_iff_ne.mpr c25
                                          by_cases c26 : 0 ≤ x11_2
                                          · rw [if_pos c26] at H
                                            have c26b0 : decide (0 ≤ x11_2) = true := decide_eq_true c26
                                            clear c26
                                            by_cases c27 : x11_2 < (t4120.length : Int)
                                            · rw [if_pos c27] at H
                                              have c27b0 : decide (x11_2 < (t4120.length : Int)) = true := decide_eq_true c27
                                              clear c27
                                              by_cases c28 : (rd t4120 x11_2) ≥ 0
                                              · rw [if_pos c28] at H
                                                have c28b0 : decide (0 ≤ (rd t4120 x11_2)) = true := decide_eq_true c28
                                                clear c28
                                                by_cases c29 : (rd t4120 x11_2) ≤ ((rd_T37 l0 x11_2).f0)
                                                · rw [if_pos c29] at H
                                                  have c29b0 : decide ((rd t4120 x11_2) ≤ ((rd_T37 l0 x11_2).f0)) = true := decide_eq_true c29
                                                  clear c29
                                                  by_cases c30 : (wrap64 ((wrap64 ((rd t4120 x11_2) - 1)) * ((rd_T37 l0 x10_1).f1))) ≥ (wrap64 ((wrap64 ((rd t4120 x10_1) + 1)) * ((rd_T37 l0 x11_2).f1)))
                                                  · rw [if_pos c30] at H
                                                    have c30b0 : decide ((wrap64 ((wrap64 ((rd t4120 x10_1) + 1)) * ((rd_T37 l0 x11_2).f1))) ≤ (wrap64 ((wrap64 ((rd t4120 x11_2) - 1)) * ((rd_T37 l0 x10_1).f1)))) = true := decide_eq_true c30
                                                    clear c30
                                                    exact absurd H (by simp)
                                                  · rw [if_neg c30] at H
                                                    have c30b0 : decide ((wrap64 ((wrap64 ((rd t4120 x10_1) + 1)) * ((rd_T37 l0 x11_2).f1))) ≤ (wrap64 ((wrap64 ((rd t4120 x11_2) - 1)) * ((rd_T37 l0 x10_1).f1)))) = false := decide_eq_false c30
                                                    (try clear c30)
                                                    have H' := Aside0.mk H
                                                    clear H
                                                    have p4129 : 0 ≤ (x10_1 : Int) := od
                                                    have q4129 : x10_1 < (t4120.length : Int) := od
                                                    obtain ⟨ad4129, e4129, hx4129_0⟩ := Kd.at_int (Kd.R_reads' HO_6.out).2.2 x10_1 p4129 q4129
                                                    obtain rfl : ad4124 = ad4129 := (by injection e4129)
                                                    replace p4129 := eq_true p4129
                                                    replace q4129 := eq_true q4129
                                                    have p4130 : 0 ≤ (x10_1 : Int) := od
                                                    have q4130 : x10_1 < (l0.length : Int) := od
                                                    obtain ⟨ad4130, e4130, hx4130_0, hx4130_1⟩ := at_T37 HR0.out x10_1 p4130 q4130
                                                    obtain rfl : ad4126 = ad4130 := (by injection e4130)
                                                    replace hx4130_0 := (HB.out.cell (World.block_lt_of_cell? w _ hx4130_0)).trans hx4130_0
                                                    replace hx4130_1 := (HB.out.cell (World.block_lt_of_cell? w _ hx4130_1)).trans hx4130_1
                                                    replace p4130 := eq_true p4130
                                                    replace q4130 := eq_true q4130
                                                    have p4131 : 0 ≤ (x11_2 : Int) := od
                                                    have q4131 : x11_2 < (t4120.length : Int) := od
                                                    obtain ⟨ad4131, e4131, hx4131_0⟩ := Kd.at_int (Kd.R_reads' HO_6.out).2.2 x11_2 p4131 q4131
                                                    obtain rfl : ad4124 = ad4131 := (by injection e4131)
                                                    replace p4131 := eq_true p4131
                                                    replace q4131 := eq_true q4131
                                                    have p4132 : 0 ≤ (x11_2 : Int) := od
                                                    have q4132 : x11_2 < (t4120.length : Int) := od
                                                    obtain ⟨ad4132, e4132, hx4132_0⟩ := Kd.at_int (Kd.R_reads' HO_6.out).2.2 x11_2 p4132 q4132
                                                    obtain rfl : ad4124 = ad4132 := (by injection e4132)
                                                    replace p4132 := eq_true p4132
                                                    replace q4132 := eq_true q4132
                                                    have p4133 : 0 ≤ (x11_2 : Int) := od
                                                    have q4133 : x11_2 < (l0.length : Int) := od
                                                    obtain ⟨ad4133, e4133, hx4133_0, hx4133_1⟩ := at_T37 HR0.out x11_2 p4133 q4133
                                                    obtain rfl : ad4126 = ad4133 := (by injection e4133)
                                                    replace hx4133_0 := (HB.out.cell (World.block_lt_of_cell? w _ hx4133_0)).trans hx4133_0
                                                    replace hx4133_1 := (HB.out.cell (World.block_lt_of_cell? w _ hx4133_1)).trans hx4133_1
                                                    replace p4133 := eq_true p4133
                                                    replace q4133 := eq_true q4133
                                                    have p4134 : 0 ≤ (x11_2 : Int) := od
                                                    have q4134 : x11_2 < (t4120.length : Int) := od
                                                    obtain ⟨ad4134, e4134, hx4134_0⟩ := Kd.at_int (Kd.R_reads' HO_6.out).2.2 x11_2 p4134 q4134
                                                    obtain rfl : ad4124 = ad4134 := (by injection e4134)
                                                    replace p4134 := eq_true p4134
                                                    replace q4134 := eq_true q4134
                                                    have p4135 : 0 ≤ (x10_1 : Int) := od
                                                    have q4135 : x10_1 < (l0.length : Int) := od
                                                    obtain ⟨ad4135, e4135, hx4135_0, hx4135_1⟩ := at_T37 HR0.out x10_1 p4135 q4135
                                                    obtain rfl : ad4126 = ad4135 := (by injection e4135)
                                                    replace hx4135_0 := (HB.out.cell (World.block_lt_of_cell? w _ hx4135_0)).trans hx4135_0
                                                    replace hx4135_1 := (HB.out.cell (World.block_lt_of_cell? w _ hx4135_1)).trans hx4135_1
                                                    replace p4135 := eq_true p4135
                                                    replace q4135 := eq_true q4135
                                                    have p4136 : 0 ≤ (x10_1 : Int) := od
                                                    have q4136 : x10_1 < (t4120.length : Int) := od
                                                    obtain ⟨ad4136, e4136, hx4136_0⟩ := Kd.at_int (Kd.R_reads' HO_6.out).2.2 x10_1 p4136 q4136
                                                    obtain rfl : ad4124 = ad4136 := (by injection e4136)
                                                    replace p4136 := eq_true p4136
                                                    replace q4136 := eq_true q4136
                                                    have p4137 : 0 ≤ (x11_2 : Int) := od
                                                    have q4137 : x11_2 < (l0.length : Int) := od
                                                    obtain ⟨ad4137, e4137, hx4137_0, hx4137_1⟩ := at_T37 HR0.out x11_2 p4137 q4137
                                                    obtain rfl : ad4126 = ad4137 := (by injection e4137)
                                                    replace hx4137_0 := (HB.out.cell (World.block_lt_of_cell? w _ hx4137_0)).trans hx4137_0
                                                    replace hx4137_1 := (HB.out.cell (World.block_lt_of_cell? w _ hx4137_1)).trans hx4137_1
                                                    replace p4137 := eq_true p4137
                                                    replace q4137 := eq_true q4137
                                                    go_wp2
                                                    repeat (go_quiet (fail); try go_wp2)
                                                    go_roundg k2
                                                    case measure => have := HK1.out; have := HK2.out; omega
                                                    case rel => exact ⟨(wrap64 (x11_2 + 1)), (by first | rfl | (simp; done) | (simp [*]; done)), H', ⟨by have := HK1.out; have := HK2.out; omega⟩, ⟨Kd.pR HO_6.out⟩, ⟨pB HB.out⟩⟩
                                                · rw [if_neg c29] at H
                                                  have c29b0 : decide ((rd t4120 x11_2) ≤ ((rd_T37 l0 x11_2).f0)) = false := decide_eq_false c29
                                                  (try clear c29)
                                                  have H' := Aside0.mk H
                                                  clear H
                                                  have p4129 : 0 ≤ (x10_1 : Int) := od
                                                  have q4129 : x10_1 < (t4120.length : Int) := od
                                                  obtain ⟨ad4129, e4129, hx4129_0⟩ := Kd.at_int (Kd.R_reads' HO_6.out).2.2 x10_1 p4129 q4129
                                                  obtain rfl : ad4124 = ad4129 := (by injection e4129)
                                                  replace p4129 := eq_true p4129
                                                  replace q4129 := eq_true q4129
                                                  have p4130 : 0 ≤ (x10_1 : Int) := od
                                                  have q4130 : x10_1 < (l0.length : Int) := od
                                                  obtain ⟨ad4130, e4130, hx4130_0, hx4130_1⟩ := at_T37 HR0.out x10_1 p4130 q4130
                                                  obtain rfl : ad4126 = ad4130 := (by injection e4130)
                                                  replace hx4130_0 := (HB.out.cell (World.block_lt_of_cell? w _ hx4130_0)).trans hx4130_0
                                                  replace hx4130_1 := (HB.out.cell (World.block_lt_of_cell? w _ hx4130_1)).trans hx4130_1
                                                  replace p4130 := eq_true p4130
                                                  replace q4130 := eq_true q4130
                                                  have p4131 : 0 ≤ (x11_2 : Int) := od
                                                  have q4131 : x11_2 < (t4120.length : Int) := od
                                                  obtain ⟨ad4131, e4131, hx4131_0⟩ := Kd.at_int (Kd.R_reads' HO_6.out).2.2 x11_2 p4131 q4131
                                                  obtain rfl : ad4124 = ad4131 := (by injection e4131)
                                                  replace p4131 := eq_true p4131
                                                  replace q4131 := eq_true q4131
                                                  have p4132 : 0 ≤ (x11_2 : Int) := od
                                                  have q4132 : x11_2 < (t4120.length : Int) := od
                                                  obtain ⟨ad4132, e4132, hx4132_0⟩ := Kd.at_int (Kd.R_reads' HO_6.out).2.2 x11_2 p4132 q4132
                                                  obtain rfl : ad4124 = ad4132 := (by injection e4132)
                                                  replace p4132 := eq_true p4132
                                                  replace q4132 := eq_true q4132
                                                  have p4133 : 0 ≤ (x11_2 : Int) := od
                                                  have q4133 : x11_2 < (l0.length : Int) := od
                                                  obtain ⟨ad4133, e4133, hx4133_0, hx4133_1⟩ := at_T37 HR0.out x11_2 p4133 q4133
                                                  obtain rfl : ad4126 = ad4133 := (by injection e4133)
                                                  replace hx4133_0 := (HB.out.cell (World.block_lt_of_cell? w _ hx4133_0)).trans hx4133_0
                                                  replace hx4133_1 := (HB.out.cell (World.block_lt_of_cell? w _ hx4133_1)).trans hx4133_1
                                                  replace p4133 := eq_true p4133
                                                  replace q4133 := eq_true q4133
                                                  go_wp2
                                                  repeat (go_quiet (fail); try go_wp2)
                                                  go_roundg k2
                                                  case measure => have := HK1.out; have := HK2.out; omega
                                                  case rel => exact ⟨(wrap64 (x11_2 + 1)), (by first | rfl | (simp; done) | (simp [*]; done)), H', ⟨by have := HK1.out; have := HK2.out; omega⟩, ⟨Kd.pR HO_6.out⟩, ⟨pB HB.out⟩⟩
                                              · rw [if_neg c28] at H
                                                have c28b0 : decide (0 ≤ (rd t4120 x11_2)) = false := decide_eq_false c28
                                                (try clear c28)
                                                have H' := Aside0.mk H
                                                clear H
                                                have p4129 : 0 ≤ (x10_1 : Int) := od
                                                have q4129 : x10_1 < (t4120.length : Int) := od
                                                obtain ⟨ad4129, e4129, hx4129_0⟩ := Kd.at_int (Kd.R_reads' HO_6.out).2.2 x10_1 p4129 q4129
                                                obtain rfl : ad4124 = ad4129 := (by injection e4129)
                                                replace p4129 := eq_true p4129
                                                replace q4129 := eq_true q4129
                                                have p4130 : 0 ≤ (x10_1 : Int) := od
                                                have q4130 : x10_1 < (l0.length : Int) := od
                                                obtain ⟨ad4130, e4130, hx4130_0, hx4130_1⟩ := at_T37 HR0.out x10_1 p4130 q4130
                                                obtain rfl : ad4126 = ad4130 := (by injection e4130)
                                                replace hx4130_0 := (HB.out.cell (World.block_lt_of_cell? w _ hx4130_0)).trans hx4130_0
                                                replace hx4130_1 := (HB.out.cell (World.block_lt_of_cell? w _ hx4130_1)).trans hx4130_1
                                                replace p4130 := eq_true p4130
                                                replace q4130 := eq_true q4130
                                                have p4131 : 0 ≤ (x11_2 : Int) := od
                                                have q4131 : x11_2 < (t4120.length : Int) := od
                                                obtain ⟨ad4131, e4131, hx4131_0⟩ := Kd.at_int (Kd.R_reads' HO_6.out).2.2 x11_2 p4131 q4131
                                                obtain rfl : ad4124 = ad4131 := (by injection e4131)
                                                replace p4131 := eq_true p4131
                                                replace q4131 := eq_true q4131
                                                go_wp2
                                                repeat (go_quiet (fail); try go_wp2)
                                                go_roundg k2
                                                case measure => have := HK1.out; have := HK2.out; omega
                                                case rel => exact ⟨(wrap64 (x11_2 + 1)), (by first | rfl | (simp; done) | (simp [*]; done)), H', ⟨by have := HK1.out; have := HK2.out; omega⟩, ⟨Kd.pR HO_6.out⟩, ⟨pB HB.out⟩⟩
                                            · rw [if_neg c27] at H
                                              exact absurd H (by simp)
                                          · rw [if_neg c26] at H
                                            exact absurd H (by simp)
                                      · rw [if_neg c24] at H
                                        have c24b0 : decide ((rd t4120 x10_1) < ((rd_T37 l0 x10_1).f0)) = false := decide_eq_false c24
                                        (try clear c24)
                                        have H' := Aside0.mk H
                                        clear H
                                        have p4129 : 0 ≤ (x10_1 : Int) := od
                                        have q4129 : x10_1 < (t4120.length : Int) := od
                                        obtain ⟨ad4129, e4129, hx4129_0⟩ := Kd.at_int (Kd.R_reads' HO_6.out).2.2 x10_1 p4129 q4129
                                        obtain rfl : ad4124 = ad4129 := (by injection e4129)
                                        replace p4129 := eq_true p4129
                                        replace q4129 := eq_true q4129
                                        have p4130 : 0 ≤ (x10_1 : Int) := od
                                        have q4130 : x10_1 < (l0.length : Int) := od
                                        obtain ⟨ad4130, e4130, hx4130_0, hx4130_1⟩ := at_T37 HR0.out x10_1 p4130 q4130
                                        obtain rfl : ad4126 = ad4130 := (by injection e4130)
                                        replace hx4130_0 := (HB.out.cell (World.block_lt_of_cell? w _ hx4130_0)).trans hx4130_0
                                        replace hx4130_1 := (HB.out.cell (World.block_lt_of_cell? w _ hx4130_1)).trans hx4130_1
                                        replace p4130 := eq_true p4130
                                        replace q4130 := eq_true q4130
                                        go_wp2
                                        repeat (go_quiet (fail); try go_wp2)
                                        go_roundg k2
                                        case measure => have := HK1.out; have := HK2.out; omega
                                        case rel => exact ⟨(wrap64 (x11_2 + 1)), (by first | rfl | (simp; done) | (simp [*]; done)), H', ⟨by have := HK1.out; have := HK2.out; omega⟩, ⟨Kd.pR HO_6.out⟩, ⟨pB HB.out⟩⟩
                                    · rw [if_neg c23] at H
                                      exact absurd H (by simp)
                                  · rw [if_neg c22] at H
                                    exact absurd H (by simp)
                                · rw [if_neg c21] at H
                                  exact absurd H (by simp)
                              · rw [if_neg c20] at H
                                have c20b0 : decide (x11_2 < (l0.length : Int)) = false := decide_eq_false c20
                                (try clear c20)
                                have H' := Aside0.mk H
                                clear H
                                go_wp2
                                repeat (go_quiet (fail); try go_wp2)
                                go_roundg k2
                                case measure => have := HK1.out; have := HK2.out; omega
                                case rel => exact ⟨((wrap64 (x8_1 + (rd t4120 x10_1)))), ((wrap64 (x9_1 + ((rd_T37 l0 x10_1).f0)))), (wrap64 (x10_1 + 1)), (by first | rfl | (simp; done) | (simp [*]; done)), (by first | rfl | (simp; done) | (simp [*]; done)), (by first | rfl | (simp; done) | (simp [*]; done)), H', ⟨by have := HK1.out; have := HK2.out; omega⟩, ⟨Kd.pR HO_6.out⟩, ⟨pB HB.out⟩⟩
                    · rw [if_neg c17] at H
                      exact absurd H (by simp)
                  · rw [if_neg c16] at H
                    exact absurd H (by simp)
                · rw [if_neg c15] at H
                  have c15b0 : decide (x10_1 < (l0.length : Int)) = false := decide_eq_false c15
                  (try clear c15)
                  replace H := Option.bind_eq_some_iff.mp H
                  obtain ⟨⟨t4138, t4139⟩, A310, H⟩ := H
                  replace H : (if true = true then (if x8_1 = (mn x9_1 a1) then (if t4139 = 0 then (some t4138) else (some false)) else (some false)) else (some false)) = some true := H
                  have A31 := Aside0.mk A310
                  (try clear A310)
                  replace H : (if x8_1 = (mn x9_1 a1) then (if t4139 = 0 then (some t4138) else (some false)) else (some false)) = some true := by rw [if_pos rfl] at H; exact H
                  obtain ⟨ji32, hji32⟩ : ∃ j_ : Int, (mn x9_1 a1) = j_ := ⟨_, rfl⟩
                  replace H : (if x8_1 = (ji32) then (if t4139 = 0 then (some t4138) else (some false)) else (some false)) = some true := by first | (rw [hji32] at H; exact H) | (simp only [hji32] at H ⊢; exact H)
                  (try rw [hji32] at A31)
                  have hji32_ : (if a1 < x9_1 then a1 else x9_1) = ji32 := hji32
                  by_cases c33 : x8_1 = (ji32)
                  · rw [if_pos c33] at H
                    have c33b0 : (x8_1 == (ji32)) = true := beq_iff_eq.mpr c33
                    have c33b1 : (x8_1 != (ji32)) = false := bne_eq_false_iff_eq.mpr c33
                    clear c33
                    by_cases c34 : t4139 = 0
                    · rw [if_pos c34] at H
                      have c34b0 : (t4139 == 0) = true := beq_iff_eq.mpr c34
                      have c34b1 : (t4139 != 0) = false := bne_eq_false_iff_eq.mpr c34
                      clear c34
                      have HRT := Aside0.mk (Option.some.inj H)
                      clear H
                      go_wp2_with (first | (go_at_call 18; (with_reducible refine (share_Fair.calls k1 _ _ l0 a1 _ _ t4120 t4138 t4139 _ ?side1 ?side2 ?side3 ?side4 A31.out).mono ?_); (case side1 => exact Kd.pC ((Kd.C_below HR0.out HB.out))); (case side2 => exact HC0.out); (case side3 => exact Kd.pC ((Kd.R_reads' HO_6.out).2.2)); (case side4 => exact (Kd.R_reads' HO_6.out).2.1); rintro e w35 ⟨rfl, hb⟩; have n0_ := Aside0.mk (Kd.R_below (Kd.pR HO_6.out) hb); have n1_ := Aside0.mk (below_step (pB HB.out) hb); clear HO_6; clear HB; have HO_6 := n0_; have HB := n1_; clear n0_ n1_; (try clear hb); (try clear hb2); (try clear hk); (try clear hi)))
                      repeat (go_quiet (first | (go_at_call 18; (with_reducible refine (share_Fair.calls k1 _ _ l0 a1 _ _ t4120 t4138 t4139 _ ?side1 ?side2 ?side3 ?side4 A31.out).mono ?_); (case side1 => exact Kd.pC ((Kd.C_below HR0.out HB.out))); (case side2 => exact HC0.out); (case side3 => exact Kd.pC ((Kd.R_reads' HO_6.out).2.2)); (case side4 => exact (Kd.R_reads' HO_6.out).2.1); rintro e w35 ⟨rfl, hb⟩; have n0_ := Aside0.mk (Kd.R_below (Kd.pR HO_6.out) hb); have n1_ := Aside0.mk (below_step (pB HB.out) hb); clear HO_6; clear HB; have HO_6 := n0_; have HB := n1_; clear n0_ n1_; (try clear hb); (try clear hb2); (try clear hk); (try clear hi))); try go_wp2_with (first | (go_at_call 18; (with_reducible refine (share_Fair.calls k1 _ _ l0 a1 _ _ t4120 t4138 t4139 _ ?side1 ?side2 ?side3 ?side4 A31.out).mono ?_); (case side1 => exact Kd.pC ((Kd.C_below HR0.out HB.out))); (case side2 => exact HC0.out); (case side3 => exact Kd.pC ((Kd.R_reads' HO_6.out).2.2)); (case side4 => exact (Kd.R_reads' HO_6.out).2.1); rintro e w35 ⟨rfl, hb⟩; have n0_ := Aside0.mk (Kd.R_below (Kd.pR HO_6.out) hb); have n1_ := Aside0.mk (below_step (pB HB.out) hb); clear HO_6; clear HB; have HO_6 := n0_; have HB := n1_; clear n0_ n1_; (try clear hb); (try clear hb2); (try clear hk); (try clear hi))))
                      go_ret
                      exact ⟨by first | rfl | (simp [errW_none, errW_some] <;> rfl) | (simp only [← hji32]; first | rfl | (simp [errW_none, errW_some] <;> rfl)) | (simp [*, errW_none, errW_some] <;> rfl) | (rw [HRT.out] <;> rfl) | (simp [HRT.out]; done) | (have h_ := HRT.out; simp [*] at h_ ⊢ <;> first | done | assumption | omega) | (have h_ := HRT.out; simp [*] at h_; done), pB HB.out⟩
                    · rw [if_neg c34] at H
                      have c34b0 : (t4139 == 0) = false := beq_eq_false_iff_ne.mpr c34
                      have c34b1 : (t4139 != 0) = true := bne_iff_ne.mpr c34
                      exact absurd H (by simp)
                  · rw [if_neg c33] at H
                    have c33b0 : (x8_1 == (ji32)) = false := beq_eq_false_iff_ne.mpr c33
                    have c33b1 : (x8_1 != (ji32)) = true := bne_iff_ne.mpr c33
                    exact absurd H (by simp)
          · rw [if_neg c11] at H
            have c11b0 : ((t4120.length : Int) == (l0.length : Int)) = false := beq_eq_false_iff_ne.mpr c11
            have c11b1 : ((t4120.length : Int) != (l0.length : Int)) = true := bne_iff_ne.mpr c11
            have c11b2 : (t4120.length == l0.length) = false := by first | simpa using c11 | (simp at c11 ⊢; omega)
            exact absurd H (by simp)
        · rw [if_neg c10] at H
          have c10b0 : (t4121 == 0) = false := beq_eq_false_iff_ne.mpr c10
          have c10b1 : (t4121 != 0) = true := bne_iff_ne.mpr c10
          exact absurd H (by simp)
      · rw [if_neg c8] at H
        have c8b0 : (t4119 == 0) = false := beq_eq_false_iff_ne.mpr c8
        have c8b1 : (t4119 != 0) = true := bne_iff_ne.mpr c8
        clear H
        go_enter Try.func8, Try.ntmps8
        go_wp2_with (first | (go_at_call 9; (with_reducible refine (spigotlaw36_alive.calls k   _ A3.out).mono ?_); rintro e w36 ⟨rfl, hb⟩; have n0_ := Aside0.mk (below_step (pB HB.out) hb); clear HB; have HB := n0_; clear n0_; (try clear hb); (try clear hb2); (try clear hk); (try clear hi)) | (go_at_call 10; (with_reducible refine (spigotref36_Asked.calls k _ _ l0 a1 t4119 _ ?side1 ?side2 A7.out).mono ?_); (case side1 => exact Kd.pC ((Kd.C_below HR0.out HB.out))); (case side2 => exact HC0.out); rintro e w' ⟨rfl, ⟨nd, rfl⟩⟩; (try first | exact ⟨rfl, _, World.drewN_drewN _ _ _⟩ | exact ⟨rfl, _, Eq.trans (World.drewN_drewN _ _ _) (congrArg (World.drewN _) (Nat.add_assoc _ _ _))⟩)))
        repeat (go_quiet (first | (go_at_call 9; (with_reducible refine (spigotlaw36_alive.calls k   _ A3.out).mono ?_); rintro e w36 ⟨rfl, hb⟩; have n0_ := Aside0.mk (below_step (pB HB.out) hb); clear HB; have HB := n0_; clear n0_; (try clear hb); (try clear hb2); (try clear hk); (try clear hi)) | (go_at_call 10; (with_reducible refine (spigotref36_Asked.calls k _ _ l0 a1 t4119 _ ?side1 ?side2 A7.out).mono ?_); (case side1 => exact Kd.pC ((Kd.C_below HR0.out HB.out))); (case side2 => exact HC0.out); rintro e w' ⟨rfl, ⟨nd, rfl⟩⟩; (try first | exact ⟨rfl, _, World.drewN_drewN _ _ _⟩ | exact ⟨rfl, _, Eq.trans (World.drewN_drewN _ _ _) (congrArg (World.drewN _) (Nat.add_assoc _ _ _))⟩))); try go_wp2_with (first | (go_at_call 9; (with_reducible refine (spigotlaw36_alive.calls k   _ A3.out).mono ?_); rintro e w36 ⟨rfl, hb⟩; have n0_ := Aside0.mk (below_step (pB HB.out) hb); clear HB; have HB := n0_; clear n0_; (try clear hb); (try clear hb2); (try clear hk); (try clear hi)) | (go_at_call 10; (with_reducible refine (spigotref36_Asked.calls k _ _ l0 a1 t4119 _ ?side1 ?side2 A7.out).mono ?_); (case side1 => exact Kd.pC ((Kd.C_below HR0.out HB.out))); (case side2 => exact HC0.out); rintro e w' ⟨rfl, ⟨nd, rfl⟩⟩; (try first | exact ⟨rfl, _, World.drewN_drewN _ _ _⟩ | exact ⟨rfl, _, Eq.trans (World.drewN_drewN _ _ _) (congrArg (World.drewN _) (Nat.add_assoc _ _ _))⟩))))
        go_ret
        exact ⟨by first | rfl | (simp [errW_none, errW_some] <;> rfl) | (simp [*, errW_none, errW_some] <;> rfl), pB HB.out⟩
  · replace c4 := Bool.eq_false_iff.mpr c4
    subst c4
    have H1 : (none) = some true := by rw [if_neg (show ¬ (false = true) by decide)] at H; exact H
    clear H
    have H := H1
    clear H1
    exact absurd H (by simp)

/-- THE ONE PURE STATEMENT of spigotlaw36_ShareFair. -/
def spigotlaw36_ShareFair.Pure : Prop := ∀ (l0 : List (S37)) (a1 : Int), ((∀ x ∈ l0, ((Lit.int .i64 x.f0).wf = true) ∧ ((Lit.int .i64 x.f1).wf = true)) ∧ l0.length ≤ maxLen) → ((Lit.int .i64 a1).wf = true) → ∃ k, spigotlaw36_ShareFair.f k l0 a1 = some true

end Go.Proofs.Yteeceppbnkkfpaa.PShare
