-- printed by a program of this session (a turned copy of the kit's print); Lean checks it
import Derived.Test.YteeceppbnkkfpaaPSharex0
import Derived.Test.YteeceppbnkkfpaaPSharex12
import Derived.Test.YteeceppbnkkfpaaPSharex13
import Derived.Test.YteeceppbnkkfpaaPSharex15
import Derived.Test.YteeceppbnkkfpaaPSharex17
import Derived.Test.YteeceppbnkkfpaaPSharex19
namespace Go.Proofs.Yteeceppbnkkfpaa.PShare
open Go.RowKit Go.Proofs.YteeceppbnkkfpaaW.PrintWords Go.Proofs.YteeceppbnkkfpaaW.PrintLast Go.Proofs.YteeceppbnkkfpaaW.PrintMore
attribute [local go_sem] max2_int min2_int max_two min_two max_three min_three max_four min_four   -- for this text's walks alone
set_option linter.unusedVariables false
set_option linter.unusedSimpArgs false

/-! ### spigotlaw36_ShareLevel: function 3 -/
def spigotlaw36_ShareLevel.l0 : Nat → List (S37) → Int → Int → Bool → List Int → List Int → Int → Int → Int → Int → Int → Option (Bool)
  | 0, _, _, _, _, _, _, _, _, _, _, _ => none
  | k + 1, x0, x1, x2, x7, x10, x12, x14, x15, x16, x286000, x286001 => if x16 < (x0.length : Int) then (if 0 ≤ x16 then (if (wrap64 (((rd_T37 x0 x16).f0) * x286001)) ≤ (wrap64 (x286000 * ((rd_T37 x0 x16).f1))) then (if x16 < (x12.length : Int) then (if (rd x12 x16) = ((rd_T37 x0 x16).f0) then (spigotlaw36_ShareLevel.l0 k x0 x1 x2 x7 x10 x12 (wrap64 (x14 + (wrap64 (((rd_T37 x0 x16).f0) * x286001)))) x15 (wrap64 (x16 + 1)) x286000 x286001) else (some false)) else (none)) else (if x286001 = 0 then (none) else (if x15 ≥ (x10.length : Int) then (some false) else (if 0 ≤ x15 then (if x15 < (x10.length : Int) then (if (rd x10 x15) = x16 then (if x16 < (x12.length : Int) then (if (rd x12 x16) = (wrap64 (Int.tdiv (wrap64 (x286000 * ((rd_T37 x0 x16).f1))) x286001)) then (spigotlaw36_ShareLevel.l0 k x0 x1 x2 x7 x10 x12 (wrap64 (x14 + (wrap64 (x286000 * ((rd_T37 x0 x16).f1))))) (wrap64 (x15 + 1)) (wrap64 (x16 + 1)) x286000 x286001) else (if (rd x12 x16) = (wrap64 ((wrap64 (Int.tdiv (wrap64 (x286000 * ((rd_T37 x0 x16).f1))) x286001)) + 1)) then (spigotlaw36_ShareLevel.l0 k x0 x1 x2 x7 x10 x12 (wrap64 (x14 + (wrap64 (x286000 * ((rd_T37 x0 x16).f1))))) (wrap64 (x15 + 1)) (wrap64 (x16 + 1)) x286000 x286001) else (some false))) else (none)) else (some false)) else (none)) else (none))))) else (none)) else (if x14 = (wrap64 (x1 * x286001)) then (if x15 = (x10.length : Int) then ((share_Level.f k x0 x2).bind fun bt304 => (if bt304.2.2 = 0 then (if x2 < x1 then (if x7 = true then (some true) else (some false)) else (if x7 = true then (if bt304.2.1 ≥ 1 then (if bt304.2.1 ≤ 12000 then (if bt304.1 ≥ 0 then (if bt304.1 ≤ 1000000000000 then (some (decide ((wrap64 (bt304.1 * x286001)) ≥ (wrap64 (x286000 * bt304.2.1))))) else (some false)) else (some false)) else (some false)) else (some false)) else (some false))) else (if x7 = true then (some (bt304.2.2 == 6)) else (some false)))) else (some false)) else (some false))
def spigotlaw36_ShareLevel.f (k : Nat) (l0 : List (S37)) (a1 : Int) (a2 : Int) : Option (Bool) := (spigotlaw36_alive.f k).bind fun t279 => (if t279 = true then (if (l0.length : Int) > 20 then (some t279) else ((spigotref36_Asked.f k l0 a1).bind fun t280 => (if t280 = 0 then ((spigotref36_Asked.f k l0 a2).bind fun t281 => (if t281 = 0 then ((share_Level.f k l0 a1).bind fun bt282 => ((share_Short.f k l0 a1).bind fun bt286 => ((share_Split.f k l0 a1).bind fun bt290 => (if bt286.2 = 0 then (if bt290.2 = 0 then (if (bt290.1.length : Int) = (l0.length : Int) then (if bt282.2.2 = 0 then (if bt282.2.1 < 1 then (some false) else (if bt282.2.1 > 12000 then (some false) else (if bt282.1 < 0 then (some false) else (if bt282.1 > 1000000000000 then (some false) else (spigotlaw36_ShareLevel.l0 k l0 a1 a2 t279 bt286.1 bt290.1 0 0 0 bt282.1 bt282.2.1))))) else (if bt282.2.2 = 6 then (some ((bt286.1.length : Int) == 0)) else (some false))) else (some false)) else (some false)) else (some false))))) else (some t279))) else (some t279)))) else (none))
theorem spigotlaw36_ShareLevel.mono_l : ∀ k, (∀ y0 y1 y2 y3 y4 y5 y6 y7 y8 y9 y10, LeO (spigotlaw36_ShareLevel.l0 k y0 y1 y2 y3 y4 y5 y6 y7 y8 y9 y10) (spigotlaw36_ShareLevel.l0 (k + 1) y0 y1 y2 y3 y4 y5 y6 y7 y8 y9 y10))
  | 0 => fun _ _ _ _ _ _ _ _ _ _ _ r h => by simp [spigotlaw36_ShareLevel.l0] at h
  | k + 1 => by
    have ih0 := spigotlaw36_ShareLevel.mono_l k
    · intro y0 y1 y2 y3 y4 y5 y6 y7 y8 y9 y10
      unfold spigotlaw36_ShareLevel.l0
      repeat' first
      | (with_reducible exact ih0 _ _ _ _ _ _ _ _ _ _ _)
      | (with_reducible exact share_Level.mono _ _ _)
      | (with_reducible exact share_Short.mono _ _ _)
      | (with_reducible exact share_Split.mono _ _ _)
      | (with_reducible exact spigotlaw36_alive.mono _)
      | (with_reducible exact spigotref36_Asked.mono _ _ _)
      | (with_reducible exact LeO.refl _)
      | (with_reducible exact LeO.none _)
      | (with_reducible refine LeO.ite ?_ ?_)
      | (with_reducible refine LeO.bind ?_ (fun _ => ?_))
      | exact ih0 _ _ _ _ _ _ _ _ _ _ _
      | exact share_Level.mono _ _ _
      | exact share_Short.mono _ _ _
      | exact share_Split.mono _ _ _
      | exact spigotlaw36_alive.mono _
      | exact spigotref36_Asked.mono _ _ _
      | exact LeO.none _
      | refine LeO.ite ?_ ?_
      | refine LeO.bind ?_ (fun _ => ?_)
theorem spigotlaw36_ShareLevel.mono : ∀ a0 a1 a2 k, LeO (spigotlaw36_ShareLevel.f k a0 a1 a2) (spigotlaw36_ShareLevel.f (k + 1) a0 a1 a2) := by
  intro a0 a1 a2 k
  have ih0 := spigotlaw36_ShareLevel.mono_l k
  unfold spigotlaw36_ShareLevel.f
  repeat' first
      | (with_reducible exact ih0 _ _ _ _ _ _ _ _ _ _ _)
      | (with_reducible exact share_Level.mono _ _ _)
      | (with_reducible exact share_Short.mono _ _ _)
      | (with_reducible exact share_Split.mono _ _ _)
      | (with_reducible exact spigotlaw36_alive.mono _)
      | (with_reducible exact spigotref36_Asked.mono _ _ _)
      | (with_reducible exact LeO.refl _)
      | (with_reducible exact LeO.none _)
      | (with_reducible refine LeO.ite ?_ ?_)
      | (with_reducible refine LeO.bind ?_ (fun _ => ?_))
      | exact ih0 _ _ _ _ _ _ _ _ _ _ _
      | exact share_Level.mono _ _ _
      | exact share_Short.mono _ _ _
      | exact share_Split.mono _ _ _
      | exact spigotlaw36_alive.mono _
      | exact spigotref36_Asked.mono _ _ _
      | exact LeO.none _
      | refine LeO.ite ?_ ?_
      | refine LeO.bind ?_ (fun _ => ?_)
set_option maxHeartbeats 8000000 in
set_option maxRecDepth 100000 in
theorem spigotlaw36_ShareLevel.calls (k : Nat) (A0 : Option Addr) (c0 : Nat) (l0 : List (S37)) (a1 : Int) (a2 : Int) (w : World) (hr0 : Kd.C k37 w A0 l0.length l0) (hc0 : l0.length ≤ c0) (h : spigotlaw36_ShareLevel.f k l0 a1 a2 = some true) :
    Calls Try.prog 3 #[.slice A0 l0.length c0, .int .i64 a1, .int .i64 a2] w fun e w' => e = .returned (.bool true) ∧ Below w.heap.size w w' := by
  have hu26 := Try.underlying26
  have HR0 := Aside0.mk hr0
  have HC0 := Aside0.mk hc0
  clear hr0 hc0
  have HB := Aside0.mk (Below.refl w.heap.size w)
  have H : ((spigotlaw36_alive.f k).bind fun t279 => (if t279 = true then (if (l0.length : Int) > 20 then (some t279) else ((spigotref36_Asked.f k l0 a1).bind fun t280 => (if t280 = 0 then ((spigotref36_Asked.f k l0 a2).bind fun t281 => (if t281 = 0 then ((share_Level.f k l0 a1).bind fun bt282 => ((share_Short.f k l0 a1).bind fun bt286 => ((share_Split.f k l0 a1).bind fun bt290 => (if bt286.2 = 0 then (if bt290.2 = 0 then (if (bt290.1.length : Int) = (l0.length : Int) then (if bt282.2.2 = 0 then (if bt282.2.1 < 1 then (some false) else (if bt282.2.1 > 12000 then (some false) else (if bt282.1 < 0 then (some false) else (if bt282.1 > 1000000000000 then (some false) else (spigotlaw36_ShareLevel.l0 k l0 a1 a2 t279 bt286.1 bt290.1 0 0 0 bt282.1 bt282.2.1))))) else (if bt282.2.2 = 6 then (some ((bt286.1.length : Int) == 0)) else (some false))) else (some false)) else (some false)) else (some false))))) else (some t279))) else (some t279)))) else (none))) = some true := h
  (try clear h)
  replace H := Option.bind_eq_some_iff.mp H
  obtain ⟨t279, A40, H⟩ := H
  replace H : (if t279 = true then (if (l0.length : Int) > 20 then (some t279) else ((spigotref36_Asked.f k l0 a1).bind fun t280 => (if t280 = 0 then ((spigotref36_Asked.f k l0 a2).bind fun t281 => (if t281 = 0 then ((share_Level.f k l0 a1).bind fun bt282 => ((share_Short.f k l0 a1).bind fun bt286 => ((share_Split.f k l0 a1).bind fun bt290 => (if bt286.2 = 0 then (if bt290.2 = 0 then (if (bt290.1.length : Int) = (l0.length : Int) then (if bt282.2.2 = 0 then (if bt282.2.1 < 1 then (some false) else (if bt282.2.1 > 12000 then (some false) else (if bt282.1 < 0 then (some false) else (if bt282.1 > 1000000000000 then (some false) else (spigotlaw36_ShareLevel.l0 k l0 a1 a2 t279 bt286.1 bt290.1 0 0 0 bt282.1 bt282.2.1))))) else (if bt282.2.2 = 6 then (some ((bt286.1.length : Int) == 0)) else (some false))) else (some false)) else (some false)) else (some false))))) else (some t279))) else (some t279)))) else (none)) = some true := H
  have A4 := Aside0.mk A40
  (try clear A40)
  by_cases c5 : t279 = true
  · subst c5
    have H1 : (if (l0.length : Int) > 20 then (some true) else ((spigotref36_Asked.f k l0 a1).bind fun t280 => (if t280 = 0 then ((spigotref36_Asked.f k l0 a2).bind fun t281 => (if t281 = 0 then ((share_Level.f k l0 a1).bind fun bt282 => ((share_Short.f k l0 a1).bind fun bt286 => ((share_Split.f k l0 a1).bind fun bt290 => (if bt286.2 = 0 then (if bt290.2 = 0 then (if (bt290.1.length : Int) = (l0.length : Int) then (if bt282.2.2 = 0 then (if bt282.2.1 < 1 then (some false) else (if bt282.2.1 > 12000 then (some false) else (if bt282.1 < 0 then (some false) else (if bt282.1 > 1000000000000 then (some false) else (spigotlaw36_ShareLevel.l0 k l0 a1 a2 true bt286.1 bt290.1 0 0 0 bt282.1 bt282.2.1))))) else (if bt282.2.2 = 6 then (some ((bt286.1.length : Int) == 0)) else (some false))) else (some false)) else (some false)) else (some false))))) else (some true))) else (some true)))) = some true := by rw [if_pos rfl] at H; exact H
    clear H
    have H := H1
    clear H1
    by_cases c6 : (l0.length : Int) > 20
    · rw [if_pos c6] at H
      have c6b0 : decide (20 < (l0.length : Int)) = true := decide_eq_true c6
      have c6b1 : decide (20 < l0.length) = true := decide_eq_true (by omega)
      clear c6
      clear H
      go_enter Try.func3, Try.ntmps3
      go_wp2_with (first | (go_at_call 9; (with_reducible refine (spigotlaw36_alive.calls k   _ A4.out).mono ?_); rintro e w7 ⟨rfl, hb⟩; have n0_ := Aside0.mk (below_step (pB HB.out) hb); clear HB; have HB := n0_; clear n0_; (try clear hb); (try clear hb2); (try clear hk); (try clear hi)))
      repeat (go_quiet (first | (go_at_call 9; (with_reducible refine (spigotlaw36_alive.calls k   _ A4.out).mono ?_); rintro e w7 ⟨rfl, hb⟩; have n0_ := Aside0.mk (below_step (pB HB.out) hb); clear HB; have HB := n0_; clear n0_; (try clear hb); (try clear hb2); (try clear hk); (try clear hi))); try go_wp2_with (first | (go_at_call 9; (with_reducible refine (spigotlaw36_alive.calls k   _ A4.out).mono ?_); rintro e w7 ⟨rfl, hb⟩; have n0_ := Aside0.mk (below_step (pB HB.out) hb); clear HB; have HB := n0_; clear n0_; (try clear hb); (try clear hb2); (try clear hk); (try clear hi))))
      go_ret
      exact ⟨by first | rfl | (simp [errW_none, errW_some] <;> rfl) | (simp [*, errW_none, errW_some] <;> rfl), pB HB.out⟩
    · rw [if_neg c6] at H
      have c6b0 : decide (20 < (l0.length : Int)) = false := decide_eq_false c6
      have c6b1 : decide (20 < l0.length) = false := decide_eq_false (by omega)
      clear c6
      replace H := Option.bind_eq_some_iff.mp H
      obtain ⟨t280, A80, H⟩ := H
      replace H : (if t280 = 0 then ((spigotref36_Asked.f k l0 a2).bind fun t281 => (if t281 = 0 then ((share_Level.f k l0 a1).bind fun bt282 => ((share_Short.f k l0 a1).bind fun bt286 => ((share_Split.f k l0 a1).bind fun bt290 => (if bt286.2 = 0 then (if bt290.2 = 0 then (if (bt290.1.length : Int) = (l0.length : Int) then (if bt282.2.2 = 0 then (if bt282.2.1 < 1 then (some false) else (if bt282.2.1 > 12000 then (some false) else (if bt282.1 < 0 then (some false) else (if bt282.1 > 1000000000000 then (some false) else (spigotlaw36_ShareLevel.l0 k l0 a1 a2 true bt286.1 bt290.1 0 0 0 bt282.1 bt282.2.1))))) else (if bt282.2.2 = 6 then (some ((bt286.1.length : Int) == 0)) else (some false))) else (some false)) else (some false)) else (some false))))) else (some true))) else (some true)) = some true := H
      have A8 := Aside0.mk A80
      (try clear A80)
      by_cases c9 : t280 = 0
      · rw [if_pos c9] at H
        have c9b0 : (t280 == 0) = true := beq_iff_eq.mpr c9
        have c9b1 : (t280 != 0) = false := bne_eq_false_iff_eq.mpr c9
        clear c9
        replace H := Option.bind_eq_some_iff.mp H
        obtain ⟨t281, A100, H⟩ := H
        replace H : (if t281 = 0 then ((share_Level.f k l0 a1).bind fun bt282 => ((share_Short.f k l0 a1).bind fun bt286 => ((share_Split.f k l0 a1).bind fun bt290 => (if bt286.2 = 0 then (if bt290.2 = 0 then (if (bt290.1.length : Int) = (l0.length : Int) then (if bt282.2.2 = 0 then (if bt282.2.1 < 1 then (some false) else (if bt282.2.1 > 12000 then (some false) else (if bt282.1 < 0 then (some false) else (if bt282.1 > 1000000000000 then (some false) else (spigotlaw36_ShareLevel.l0 k l0 a1 a2 true bt286.1 bt290.1 0 0 0 bt282.1 bt282.2.1))))) else (if bt282.2.2 = 6 then (some ((bt286.1.length : Int) == 0)) else (some false))) else (some false)) else (some false)) else (some false))))) else (some true)) = some true := H
        have A10 := Aside0.mk A100
        (try clear A100)
        by_cases c11 : t281 = 0
        · rw [if_pos c11] at H
          have c11b0 : (t281 == 0) = true := beq_iff_eq.mpr c11
          have c11b1 : (t281 != 0) = false := bne_eq_false_iff_eq.mpr c11
          clear c11
          replace H := Option.bind_eq_some_iff.mp H
          obtain ⟨⟨t282, t283, t284⟩, A120, H⟩ := H
          replace H : ((share_Short.f k l0 a1).bind fun bt286 => ((share_Split.f k l0 a1).bind fun bt290 => (if bt286.2 = 0 then (if bt290.2 = 0 then (if (bt290.1.length : Int) = (l0.length : Int) then (if t284 = 0 then (if t283 < 1 then (some false) else (if t283 > 12000 then (some false) else (if t282 < 0 then (some false) else (if t282 > 1000000000000 then (some false) else (spigotlaw36_ShareLevel.l0 k l0 a1 a2 true bt286.1 bt290.1 0 0 0 t282 t283))))) else (if t284 = 6 then (some ((bt286.1.length : Int) == 0)) else (some false))) else (some false)) else (some false)) else (some false)))) = some true := H
          have A12 := Aside0.mk A120
          (try clear A120)
          replace H := Option.bind_eq_some_iff.mp H
          obtain ⟨⟨t286, t287⟩, A130, H⟩ := H
          replace H : ((share_Split.f k l0 a1).bind fun bt290 => (if t287 = 0 then (if bt290.2 = 0 then (if (bt290.1.length : Int) = (l0.length : Int) then (if t284 = 0 then (if t283 < 1 then (some false) else (if t283 > 12000 then (some false) else (if t282 < 0 then (some false) else (if t282 > 1000000000000 then (some false) else (spigotlaw36_ShareLevel.l0 k l0 a1 a2 true t286 bt290.1 0 0 0 t282 t283))))) else (if t284 = 6 then (some ((t286.length : Int) == 0)) else (some false))) else (some false)) else (some false)) else (some false))) = some true := H
          have A13 := Aside0.mk A130
          (try clear A130)
          replace H := Option.bind_eq_some_iff.mp H
          obtain ⟨⟨t290, t291⟩, A140, H⟩ := H
          replace H : (if t287 = 0 then (if t291 = 0 then (if (t290.length : Int) = (l0.length : Int) then (if t284 = 0 then (if t283 < 1 then (some false) else (if t283 > 12000 then (some false) else (if t282 < 0 then (some false) else (if t282 > 1000000000000 then (some false) else (spigotlaw36_ShareLevel.l0 k l0 a1 a2 true t286 t290 0 0 0 t282 t283))))) else (if t284 = 6 then (some ((t286.length : Int) == 0)) else (some false))) else (some false)) else (some false)) else (some false)) = some true := H
          have A14 := Aside0.mk A140
          (try clear A140)
          by_cases c15 : t287 = 0
          · rw [if_pos c15] at H
            have c15b0 : (t287 == 0) = true := beq_iff_eq.mpr c15
            have c15b1 : (t287 != 0) = false := bne_eq_false_iff_eq.mpr c15
            clear c15
            by_cases c16 : t291 = 0
            · rw [if_pos c16] at H
              have c16b0 : (t291 == 0) = true := beq_iff_eq.mpr c16
              have c16b1 : (t291 != 0) = false := bne_eq_false_iff_eq.mpr c16
              clear c16
              by_cases c17 : (t290.length : Int) = (l0.length : Int)
              · rw [if_pos c17] at H
                have c17b0 : ((t290.length : Int) == (l0.length : Int)) = true := beq_iff_eq.mpr c17
                have c17b1 : ((t290.length : Int) != (l0.length : Int)) = false := bne_eq_false_iff_eq.mpr c17
                have c17b2 : (t290.length == l0.length) = true := by first | simpa using c17 | (simp at c17 ⊢; omega)
                clear c17
                by_cases c18 : t284 = 0
                · rw [if_pos c18] at H
                  have c18b0 : (t284 == 0) = true := beq_iff_eq.mpr c18
                  have c18b1 : (t284 != 0) = false := bne_eq_false_iff_eq.mpr c18
                  clear c18
                  by_cases c19 : t283 < 1
                  · rw [if_pos c19] at H
                    have c19b0 : decide (t283 < 1) = true := decide_eq_true c19
                    clear c19
                    exact absurd H (by simp)
                  · rw [if_neg c19] at H
                    have c19b0 : decide (t283 < 1) = false := decide_eq_false c19
                    clear c19
                    by_cases c20 : t283 > 12000
                    · rw [if_pos c20] at H
                      have c20b0 : decide (12000 < t283) = true := decide_eq_true c20
                      clear c20
                      exact absurd H (by simp)
                    · rw [if_neg c20] at H
                      have c20b0 : decide (12000 < t283) = false := decide_eq_false c20
                      clear c20
                      by_cases c21 : t282 < 0
                      · rw [if_pos c21] at H
                        have c21b0 : decide (t282 < 0) = true := decide_eq_true c21
                        clear c21
                        exact absurd H (by simp)
                      · rw [if_neg c21] at H
                        have c21b0 : decide (t282 < 0) = false := decide_eq_false c21
                        clear c21
                        by_cases c22 : t282 > 1000000000000
                        · rw [if_pos c22] at H
                          have c22b0 : decide (1000000000000 < t282) = true := decide_eq_true c22
                          clear c22
                          exact absurd H (by simp)
                        · rw [if_neg c22] at H
                          have c22b0 : decide (1000000000000 < t282) = false := decide_eq_false c22
                          clear c22
                          have H' := Aside0.mk H
                          clear H
                          go_enter Try.func3, Try.ntmps3
                          have one1_ := Aside0.mk True.intro
                          have one2_ := Aside0.mk True.intro
                          go_wp2_with (first | (go_at_call 9; (with_reducible refine (spigotlaw36_alive.calls k   _ A4.out).mono ?_); rintro e w23 ⟨rfl, hb⟩; have n0_ := Aside0.mk (below_step (pB HB.out) hb); clear HB; have HB := n0_; clear n0_; (try clear hb); (try clear hb2); (try clear hk); (try clear hi)) | (clear one1_; go_at_call 10; (with_reducible refine (spigotref36_Asked.calls k _ _ l0 a1 t280 _ ?side1 ?side2 A8.out).mono ?_); (case side1 => exact Kd.pC ((Kd.C_below HR0.out HB.out))); (case side2 => exact HC0.out); rintro e w' ⟨rfl, ⟨nd, rfl⟩⟩; (try first | exact ⟨rfl, _, World.drewN_drewN _ _ _⟩ | exact ⟨rfl, _, Eq.trans (World.drewN_drewN _ _ _) (congrArg (World.drewN _) (Nat.add_assoc _ _ _))⟩)) | (clear one2_; go_at_call 10; (with_reducible refine (spigotref36_Asked.calls k _ _ l0 a2 t281 _ ?side1 ?side2 A10.out).mono ?_); (case side1 => exact Kd.pC ((Kd.C_below HR0.out (pB HB.out)))); (case side2 => exact HC0.out); rintro e w' ⟨rfl, ⟨nd, rfl⟩⟩; (try first | exact ⟨rfl, _, World.drewN_drewN _ _ _⟩ | exact ⟨rfl, _, Eq.trans (World.drewN_drewN _ _ _) (congrArg (World.drewN _) (Nat.add_assoc _ _ _))⟩)) | (go_at_call 11; (with_reducible refine (share_Level.calls k _ _ l0 a1 t282 t283 t284 _ ?side1 ?side2 A12.out).mono ?_); (case side1 => exact Kd.pC ((Kd.C_below HR0.out (pB HB.out)))); (case side2 => exact HC0.out); rintro e w24 ⟨rfl, hb⟩; have n0_ := Aside0.mk (below_step (pB HB.out) hb); clear HB; have HB := n0_; clear n0_; (try clear hb); (try clear hb2); (try clear hk); (try clear hi)) | ((with_reducible refine gate_dst (N := 8) rfl ?_); (try (refine gate_guard (by rfl) ?_; dsimp only)); refine boxE (N := 8) (cs := #[.int .i64 0, .int .i64 0]) (t := 26) ?_; intro gb285 hg w25 hbox hb; have n0_ := Aside0.mk (below_step (pB HB.out) hb); have n1_ := Aside0.mk (hbox); have n2_ := Aside0.mk (pL HB.out hg); have n3_ := Aside0.mk (pL HB.out hg); clear HB; have HB := n0_; have BK285 := n1_; have GW285 := n2_; have GE285 := n3_; clear n0_ n1_ n2_ n3_; clear hb hbox hg; obtain ⟨hcz26_0, hcz26_1, hfz26_0, hfz26_1⟩ := bk2 BK285.out) | (go_at_call 12; (with_reducible refine (share_Short.calls k _ _ l0 a1 t286 t287 _ ?side1 ?side2 A13.out).mono ?_); (case side1 => exact Kd.C_below HR0.out (pB HB.out)); (case side2 => exact HC0.out); rintro e w27 ⟨v288, rfl, ho0, hb⟩; have n0_ := Aside0.mk (Kd.R_lower ho0 (below_size (pB HB.out))); have n1_ := Aside0.mk (blk_below (g := gb285) (o := .cells #[.int .i64 t282, .int .i64 t283] 26 (0, 0)) (by (with_reducible repeat (first | refine blk_drewN ?_ _ | refine blk_drew ?_ | refine blk_alloc ?_ _)); refine blk_put (cs := #[.int .i64 t282, .int .i64 0]) ?_ 1 _ rfl; (with_reducible repeat (first | refine blk_drewN ?_ _ | refine blk_drew ?_ | refine blk_alloc ?_ _)); refine blk_put (cs := #[.int .i64 0, .int .i64 0]) ?_ 0 _ rfl; (with_reducible repeat (first | refine blk_drewN ?_ _ | refine blk_drew ?_ | refine blk_alloc ?_ _)); exact BK285.out) hb); have n2_ := Aside0.mk (below_step (pB HB.out) hb); clear BK285; clear HB; have HO289 := n0_; have BK285 := n1_; have HB := n2_; clear n0_ n1_ n2_; (try clear hb); (try clear hb2); (try clear hk); (try clear hi); (try clear ho0)) | (go_at_call 13; (with_reducible refine (share_Split.calls k _ _ l0 a1 t290 t291 _ ?side1 ?side2 A14.out).mono ?_); (case side1 => exact Kd.pC ((Kd.C_below HR0.out HB.out))); (case side2 => exact HC0.out); rintro e w28 ⟨v292, rfl, ho0, hb⟩; have n0_ := Aside0.mk (Kd.R_below (Kd.pR HO289.out) hb); have n1_ := Aside0.mk (Kd.R_lower ho0 (below_size (pB HB.out))); have n2_ := Aside0.mk (blk_below (pK BK285.out) hb); have n3_ := Aside0.mk (below_step (pB HB.out) hb); clear HO289; clear BK285; clear HB; have HO289 := n0_; have HO293 := n1_; have BK285 := n2_; have HB := n3_; clear n0_ n1_ n2_ n3_; (try clear hb); (try clear hb2); (try clear hk); (try clear hi); (try clear ho0); obtain ⟨Ao29, co29, eo29⟩ := Kd.R_slice HO293.out; subst eo29; obtain ⟨hcz30_0, hcz30_1, hfz30_0, hfz30_1⟩ := bk2 BK285.out))
                          repeat (go_quiet (first | (go_at_call 9; (with_reducible refine (spigotlaw36_alive.calls k   _ A4.out).mono ?_); rintro e w23 ⟨rfl, hb⟩; have n0_ := Aside0.mk (below_step (pB HB.out) hb); clear HB; have HB := n0_; clear n0_; (try clear hb); (try clear hb2); (try clear hk); (try clear hi)) | (go_at_call 10; (with_reducible refine (spigotref36_Asked.calls k _ _ l0 a1 t280 _ ?side1 ?side2 A8.out).mono ?_); (case side1 => exact Kd.pC ((Kd.C_below HR0.out HB.out))); (case side2 => exact HC0.out); rintro e w' ⟨rfl, ⟨nd, rfl⟩⟩; (try first | exact ⟨rfl, _, World.drewN_drewN _ _ _⟩ | exact ⟨rfl, _, Eq.trans (World.drewN_drewN _ _ _) (congrArg (World.drewN _) (Nat.add_assoc _ _ _))⟩)) | (go_at_call 10; (with_reducible refine (spigotref36_Asked.calls k _ _ l0 a2 t281 _ ?side1 ?side2 A10.out).mono ?_); (case side1 => exact Kd.pC ((Kd.C_below HR0.out (pB HB.out)))); (case side2 => exact HC0.out); rintro e w' ⟨rfl, ⟨nd, rfl⟩⟩; (try first | exact ⟨rfl, _, World.drewN_drewN _ _ _⟩ | exact ⟨rfl, _, Eq.trans (World.drewN_drewN _ _ _) (congrArg (World.drewN _) (Nat.add_assoc _ _ _))⟩)) | (go_at_call 11; (with_reducible refine (share_Level.calls k _ _ l0 a1 t282 t283 t284 _ ?side1 ?side2 A12.out).mono ?_); (case side1 => exact Kd.pC ((Kd.C_below HR0.out (pB HB.out)))); (case side2 => exact HC0.out); rintro e w24 ⟨rfl, hb⟩; have n0_ := Aside0.mk (below_step (pB HB.out) hb); clear HB; have HB := n0_; clear n0_; (try clear hb); (try clear hb2); (try clear hk); (try clear hi)) | ((with_reducible refine gate_dst (N := 8) rfl ?_); (try (refine gate_guard (by rfl) ?_; dsimp only)); refine boxE (N := 8) (cs := #[.int .i64 0, .int .i64 0]) (t := 26) ?_; intro gb285 hg w25 hbox hb; have n0_ := Aside0.mk (below_step (pB HB.out) hb); have n1_ := Aside0.mk (hbox); have n2_ := Aside0.mk (pL HB.out hg); have n3_ := Aside0.mk (pL HB.out hg); clear HB; have HB := n0_; have BK285 := n1_; have GW285 := n2_; have GE285 := n3_; clear n0_ n1_ n2_ n3_; clear hb hbox hg; obtain ⟨hcz26_0, hcz26_1, hfz26_0, hfz26_1⟩ := bk2 BK285.out) | (go_at_call 12; (with_reducible refine (share_Short.calls k _ _ l0 a1 t286 t287 _ ?side1 ?side2 A13.out).mono ?_); (case side1 => exact Kd.C_below HR0.out (pB HB.out)); (case side2 => exact HC0.out); rintro e w27 ⟨v288, rfl, ho0, hb⟩; have n0_ := Aside0.mk (Kd.R_lower ho0 (below_size (pB HB.out))); have n1_ := Aside0.mk (blk_below (g := gb285) (o := .cells #[.int .i64 t282, .int .i64 t283] 26 (0, 0)) (by (with_reducible repeat (first | refine blk_drewN ?_ _ | refine blk_drew ?_ | refine blk_alloc ?_ _)); refine blk_put (cs := #[.int .i64 t282, .int .i64 0]) ?_ 1 _ rfl; (with_reducible repeat (first | refine blk_drewN ?_ _ | refine blk_drew ?_ | refine blk_alloc ?_ _)); refine blk_put (cs := #[.int .i64 0, .int .i64 0]) ?_ 0 _ rfl; (with_reducible repeat (first | refine blk_drewN ?_ _ | refine blk_drew ?_ | refine blk_alloc ?_ _)); exact BK285.out) hb); have n2_ := Aside0.mk (below_step (pB HB.out) hb); clear BK285; clear HB; have HO289 := n0_; have BK285 := n1_; have HB := n2_; clear n0_ n1_ n2_; (try clear hb); (try clear hb2); (try clear hk); (try clear hi); (try clear ho0)) | (go_at_call 13; (with_reducible refine (share_Split.calls k _ _ l0 a1 t290 t291 _ ?side1 ?side2 A14.out).mono ?_); (case side1 => exact Kd.pC ((Kd.C_below HR0.out HB.out))); (case side2 => exact HC0.out); rintro e w28 ⟨v292, rfl, ho0, hb⟩; have n0_ := Aside0.mk (Kd.R_below (Kd.pR HO289.out) hb); have n1_ := Aside0.mk (Kd.R_lower ho0 (below_size (pB HB.out))); have n2_ := Aside0.mk (blk_below (pK BK285.out) hb); have n3_ := Aside0.mk (below_step (pB HB.out) hb); clear HO289; clear BK285; clear HB; have HO289 := n0_; have HO293 := n1_; have BK285 := n2_; have HB := n3_; clear n0_ n1_ n2_ n3_; (try clear hb); (try clear hb2); (try clear hk); (try clear hi); (try clear ho0); obtain ⟨Ao29, co29, eo29⟩ := Kd.R_slice HO293.out; subst eo29; obtain ⟨hcz30_0, hcz30_1, hfz30_0, hfz30_1⟩ := bk2 BK285.out)); try go_wp2_with (first | (go_at_call 9; (with_reducible refine (spigotlaw36_alive.calls k   _ A4.out).mono ?_); rintro e w23 ⟨rfl, hb⟩; have n0_ := Aside0.mk (below_step (pB HB.out) hb); clear HB; have HB := n0_; clear n0_; (try clear hb); (try clear hb2); (try clear hk); (try clear hi)) | (go_at_call 10; (with_reducible refine (spigotref36_Asked.calls k _ _ l0 a1 t280 _ ?side1 ?side2 A8.out).mono ?_); (case side1 => exact Kd.pC ((Kd.C_below HR0.out HB.out))); (case side2 => exact HC0.out); rintro e w' ⟨rfl, ⟨nd, rfl⟩⟩; (try first | exact ⟨rfl, _, World.drewN_drewN _ _ _⟩ | exact ⟨rfl, _, Eq.trans (World.drewN_drewN _ _ _) (congrArg (World.drewN _) (Nat.add_assoc _ _ _))⟩)) | (go_at_call 10; (with_reducible refine (spigotref36_Asked.calls k _ _ l0 a2 t281 _ ?side1 ?side2 A10.out).mono ?_); (case side1 => exact Kd.pC ((Kd.C_below HR0.out (pB HB.out)))); (case side2 => exact HC0.out); rintro e w' ⟨rfl, ⟨nd, rfl⟩⟩; (try first | exact ⟨rfl, _, World.drewN_drewN _ _ _⟩ | exact ⟨rfl, _, Eq.trans (World.drewN_drewN _ _ _) (congrArg (World.drewN _) (Nat.add_assoc _ _ _))⟩)) | (go_at_call 11; (with_reducible refine (share_Level.calls k _ _ l0 a1 t282 t283 t284 _ ?side1 ?side2 A12.out).mono ?_); (case side1 => exact Kd.pC ((Kd.C_below HR0.out (pB HB.out)))); (case side2 => exact HC0.out); rintro e w24 ⟨rfl, hb⟩; have n0_ := Aside0.mk (below_step (pB HB.out) hb); clear HB; have HB := n0_; clear n0_; (try clear hb); (try clear hb2); (try clear hk); (try clear hi)) | ((with_reducible refine gate_dst (N := 8) rfl ?_); (try (refine gate_guard (by rfl) ?_; dsimp only)); refine boxE (N := 8) (cs := #[.int .i64 0, .int .i64 0]) (t := 26) ?_; intro gb285 hg w25 hbox hb; have n0_ := Aside0.mk (below_step (pB HB.out) hb); have n1_ := Aside0.mk (hbox); have n2_ := Aside0.mk (pL HB.out hg); have n3_ := Aside0.mk (pL HB.out hg); clear HB; have HB := n0_; have BK285 := n1_; have GW285 := n2_; have GE285 := n3_; clear n0_ n1_ n2_ n3_; clear hb hbox hg; obtain ⟨hcz26_0, hcz26_1, hfz26_0, hfz26_1⟩ := bk2 BK285.out) | (go_at_call 12; (with_reducible refine (share_Short.calls k _ _ l0 a1 t286 t287 _ ?side1 ?side2 A13.out).mono ?_); (case side1 => exact Kd.C_below HR0.out (pB HB.out)); (case side2 => exact HC0.out); rintro e w27 ⟨v288, rfl, ho0, hb⟩; have n0_ := Aside0.mk (Kd.R_lower ho0 (below_size (pB HB.out))); have n1_ := Aside0.mk (blk_below (g := gb285) (o := .cells #[.int .i64 t282, .int .i64 t283] 26 (0, 0)) (by (with_reducible repeat (first | refine blk_drewN ?_ _ | refine blk_drew ?_ | refine blk_alloc ?_ _)); refine blk_put (cs := #[.int .i64 t282, .int .i64 0]) ?_ 1 _ rfl; (with_reducible repeat (first | refine blk_drewN ?_ _ | refine blk_drew ?_ | refine blk_alloc ?_ _)); refine blk_put (cs := #[.int .i64 0, .int .i64 0]) ?_ 0 _ rfl; (with_reducible repeat (first | refine blk_drewN ?_ _ | refine blk_drew ?_ | refine blk_alloc ?_ _)); exact BK285.out) hb); have n2_ := Aside0.mk (below_step (pB HB.out) hb); clear BK285; clear HB; have HO289 := n0_; have BK285 := n1_; have HB := n2_; clear n0_ n1_ n2_; (try clear hb); (try clear hb2); (try clear hk); (try clear hi); (try clear ho0)) | (go_at_call 13; (with_reducible refine (share_Split.calls k _ _ l0 a1 t290 t291 _ ?side1 ?side2 A14.out).mono ?_); (case side1 => exact Kd.pC ((Kd.C_below HR0.out HB.out))); (case side2 => exact HC0.out); rintro e w28 ⟨v292, rfl, ho0, hb⟩; have n0_ := Aside0.mk (Kd.R_below (Kd.pR HO289.out) hb); have n1_ := Aside0.mk (Kd.R_lower ho0 (below_size (pB HB.out))); have n2_ := Aside0.mk (blk_below (pK BK285.out) hb); have n3_ := Aside0.mk (below_step (pB HB.out) hb); clear HO289; clear BK285; clear HB; have HO289 := n0_; have HO293 := n1_; have BK285 := n2_; have HB := n3_; clear n0_ n1_ n2_ n3_; (try clear hb); (try clear hb2); (try clear hk); (try clear hi); (try clear ho0); obtain ⟨Ao29, co29, eo29⟩ := Kd.R_slice HO293.out; subst eo29; obtain ⟨hcz30_0, hcz30_1, hfz30_0, hfz30_1⟩ := bk2 BK285.out)))
                          go_loopg [14, 15, 16] k (fun kq v14 v15 v16 w' => ∃ (x14_1 : Int) (x15_1 : Int) (x16_1 : Int), v14 = .int .i64 x14_1 ∧ v15 = .int .i64 x15_1 ∧ v16 = .int .i64 x16_1 ∧ Aside0 (spigotlaw36_ShareLevel.l0 kq l0 a1 a2 true t286 t290 x14_1 x15_1 x16_1 t282 t283 = some true) ∧ Aside0 (kq ≤ k) ∧ Aside0 (Kd.R (Kd.int .i64) 3 w' w.heap.size (fun _ => True) v288 t286) ∧ Aside0 (Kd.R (Kd.int .i64) 2 w' w.heap.size (fun _ => True) (.slice Ao29 t290.length co29) t290) ∧ Aside0 (w'.heap[gb285]? = some (.cells #[.int .i64 t282, .int .i64 t283] 26 (0, 0))) ∧ Aside0 (Below w.heap.size w w'))
                          case atStart => exact ⟨(0), (0), (0), (by first | rfl | (simp; done) | (simp [*]; done)), (by first | rfl | (simp; done) | (simp [*]; done)), (by first | rfl | (simp; done) | (simp [*]; done)), H', ⟨Nat.le_refl _⟩, ⟨Kd.pR HO289.out⟩, ⟨Kd.pR HO293.out⟩, ⟨pK BK285.out⟩, ⟨pB HB.out⟩⟩
                          case round =>
                            clear H'
                            try clear c1
                            try clear c2
                            try clear p2
                            try clear c3
                            try clear c5
                            try clear c6
                            try clear c6b0
                            try clear c6b1
                            try clear c9
                            try clear c9b0
                            try clear c9b1
                            try clear c11
                            try clear c11b0
                            try clear c11b1
                            try clear c15
                            try clear c15b0
                            try clear c15b1
                            try clear c16
                            try clear c16b0
                            try clear c16b1
                            try clear c17
                            try clear c17b0
                            try clear c17b1
                            try clear c17b2
                            try clear c18
                            try clear c18b0
                            try clear c18b1
                            try clear c19
                            try clear c19b0
                            try clear c20
                            try clear c20b0
                            try clear c21
                            try clear c21b0
                            try clear c22
                            try clear c22b0
                            try clear hcz26_0
                            try clear hcz26_1
                            try clear hcz30_0
                            try clear hcz30_1
                            try clear hfz26_0
                            try clear hfz26_1
                            try clear hfz30_0
                            try clear hfz30_1
                            obtain ⟨x14_1, x15_1, x16_1, rfl, rfl, rfl, HA, HK1, HO_10, HO_12, BK285, HB⟩ := hrel
                            cases gk with
                            | zero => exact absurd HA.out (by simp [spigotlaw36_ShareLevel.l0])
                            | succ k1 =>
                              have H := HA.out
                              (try clear HA)
                              simp only [spigotlaw36_ShareLevel.l0] at H
                              by_cases c31 : x16_1 < (l0.length : Int)
                              · rw [if_pos c31] at H
                                have c31b0 : decide (x16_1 < (l0.length : Int)) = true := decide_eq_true c31
                                clear c31
                                by_cases c32 : 0 ≤ x16_1
                                · rw [if_pos c32] at H
                                  have c32b0 : decide (0 ≤ x16_1) = true := decide_eq_true c32
                                  clear c32
                                  by_cases c33 : (wrap64 (((rd_T37 l0 x16_1).f0) * t283)) ≤ (wrap64 (t282 * ((rd_T37 l0 x16_1).f1)))
                                  · rw [if_pos c33] at H
                                    have c33b0 : decide ((wrap64 (((rd_T37 l0 x16_1).f0) * t283)) ≤ (wrap64 (t282 * ((rd_T37 l0 x16_1).f1)))) = true := decide_eq_true c33
                                    clear c33
                                    by_cases c34 : x16_1 < (t290.length : Int)
                                    · rw [if_pos c34] at H
                                      have c34b0 : decide (x16_1 < (t290.length : Int)) = true := decide_eq_true c34
                                      clear c34
                                      by_cases c35 : (rd t290 x16_1) = ((rd_T37 l0 x16_1).f0)
                                      · rw [if_pos c35] at H
                                        have c35b0 : ((rd t290 x16_1) == ((rd_T37 l0 x16_1).f0)) = true := beq_iff_eq.mpr c35
                                        have c35b1 : ((rd t290 x16_1) != ((rd_T37 l0 x16_1).f0)) = false := bne_eq_false_iff_eq.mpr c35
                                        clear c35
                                        have H' := Aside0.mk H
                                        clear H
                                        have p294 : 0 ≤ (x16_1 : Int) := od
                                        have q294 : x16_1 < (l0.length : Int) := od
                                        obtain ⟨ad294, e294, hx294_0, hx294_1⟩ := at_T37 HR0.out x16_1 p294 q294
                                        cases e294
                                        replace hx294_0 := (HB.out.cell (World.block_lt_of_cell? w _ hx294_0)).trans hx294_0
                                        replace hx294_1 := (HB.out.cell (World.block_lt_of_cell? w _ hx294_1)).trans hx294_1
                                        replace p294 := eq_true p294
                                        replace q294 := eq_true q294
                                        obtain ⟨hcz36_0, hcz36_1, hfz36_0, hfz36_1⟩ := bk2 BK285.out
                                        have p295 : 0 ≤ (x16_1 : Int) := od
                                        have q295 : x16_1 < (l0.length : Int) := od
                                        obtain ⟨ad295, e295, hx295_0, hx295_1⟩ := at_T37 HR0.out x16_1 p295 q295
                                        obtain rfl : ad294 = ad295 := (by injection e295)
                                        replace hx295_0 := (HB.out.cell (World.block_lt_of_cell? w _ hx295_0)).trans hx295_0
                                        replace hx295_1 := (HB.out.cell (World.block_lt_of_cell? w _ hx295_1)).trans hx295_1
                                        replace p295 := eq_true p295
                                        replace q295 := eq_true q295
                                        have p296 : 0 ≤ (x16_1 : Int) := od
                                        have q296 : x16_1 < (l0.length : Int) := od
                                        obtain ⟨ad296, e296, hx296_0, hx296_1⟩ := at_T37 HR0.out x16_1 p296 q296
                                        obtain rfl : ad294 = ad296 := (by injection e296)
                                        replace hx296_0 := (HB.out.cell (World.block_lt_of_cell? w _ hx296_0)).trans hx296_0
                                        replace hx296_1 := (HB.out.cell (World.block_lt_of_cell? w _ hx296_1)).trans hx296_1
                                        replace p296 := eq_true p296
                                        replace q296 := eq_true q296
                                        have p297 : 0 ≤ (x16_1 : Int) := od
                                        have q297 : x16_1 < (t290.length : Int) := od
                                        obtain ⟨ad297, e297, hx297_0⟩ := Kd.at_int (Kd.R_reads' HO_12.out).2.2 x16_1 p297 q297
                                        cases e297
                                        replace p297 := eq_true p297
                                        replace q297 := eq_true q297
                                        have p298 : 0 ≤ (x16_1 : Int) := od
                                        have q298 : x16_1 < (l0.length : Int) := od
                                        obtain ⟨ad298, e298, hx298_0, hx298_1⟩ := at_T37 HR0.out x16_1 p298 q298
                                        obtain rfl : ad294 = ad298 := (by injection e298)
                                        replace hx298_0 := (HB.out.cell (World.block_lt_of_cell? w _ hx298_0)).trans hx298_0
                                        replace hx298_1 := (HB.out.cell (World.block_lt_of_cell? w _ hx298_1)).trans hx298_1
                                        replace p298 := eq_true p298
                                        replace q298 := eq_true q298
                                        go_wp2
                                        repeat (go_quiet (fail); try go_wp2)
                                        go_roundg k1
                                        case measure => have := HK1.out; omega
                                        case rel => exact ⟨(wrap64 (x14_1 + (wrap64 (((rd_T37 l0 x16_1).f0) * t283)))), (x15_1), (wrap64 (x16_1 + 1)), (by first | rfl | (simp; done) | (simp [*]; done)), (by first | rfl | (simp; done) | (simp [*]; done)), (by first | rfl | (simp; done) | (simp [*]; done)), H', ⟨by have := HK1.out; omega⟩, ⟨Kd.pR HO_10.out⟩, ⟨Kd.pR HO_12.out⟩, ⟨pK BK285.out⟩, ⟨pB HB.out⟩⟩
                                      · rw [if_neg c35] at H
                                        have c35b0 : ((rd t290 x16_1) == ((rd_T37 l0 x16_1).f0)) = false := beq_eq_false_iff_ne.mpr c35
                                        have c35b1 : ((rd t290 x16_1) != ((rd_T37 l0 x16_1).f0)) = true := bne_iff_ne.mpr c35
                                        exact absurd H (by simp)
                                    · rw [if_neg c34] at H
                                      exact absurd H (by simp)
                                  · rw [if_neg c33] at H
                                    have c33b0 : decide ((wrap64 (((rd_T37 l0 x16_1).f0) * t283)) ≤ (wrap64 (t282 * ((rd_T37 l0 x16_1).f1)))) = false := decide_eq_false c33
                                    (try clear c33)
                                    by_cases c37 : t283 = 0
                                    · rw [if_pos c37] at H
                                      exact absurd H (by simp)
                                    · rw [if_neg c37] at H
                                      have c37b0 : (t283 == 0) = false := beq_eq_false_iff_ne.mpr c37
                                      have c37b1 : (t283 != 0) = true := bne_iff_ne.mpr c37
                                      by_cases c38 : x15_1 ≥ (t286.length : Int)
                                      · rw [if_pos c38] at H
                                        have c38b0 : decide ((t286.length : Int) ≤ x15_1) = true := decide_eq_true c38
                                        clear c38
                                        exact absurd H (by simp)
                                      · rw [if_neg c38] at H
                                        have c38b0 : decide ((t286.length : Int) ≤ x15_1) = false := decide_eq_false c38
                                        (try clear c38)
                                        by_cases c39 : 0 ≤ x15_1
                                        · rw [if_pos c39] at H
                                          have c39b0 : decide (0 ≤ x15_1) = true := decide_eq_true c39
                                          clear c39
                                          by_cases c40 : x15_1 < (t286.length : Int)
                                          · rw [if_pos c40] at H
                                            have c40b0 : decide (x15_1 < (t286.length : Int)) = true := decide_eq_true c40
                                            clear c40
                                            by_cases c41 : (rd t286 x15_1) = x16_1
                                            · rw [if_pos c41] at H
                                              have c41b0 : ((rd t286 x15_1) == x16_1) = true := beq_iff_eq.mpr c41
                                              have c41b1 : ((rd t286 x15_1) != x16_1) = false := bne_eq_false_iff_eq.mpr c41
                                              clear c41
                                              by_cases c42 : x16_1 < (t290.length : Int)
                                              · rw [if_pos c42] at H
                                                have c42b0 : decide (x16_1 < (t290.length : Int)) = true := decide_eq_true c42
                                                clear c42
                                                by_cases c43 : (rd t290 x16_1) = (wrap64 (Int.tdiv (wrap64 (t282 * ((rd_T37 l0 x16_1).f1))) t283))
                                                · rw [if_pos c43] at H
                                                  have c43b0 : ((rd t290 x16_1) == (wrap64 (Int.tdiv (wrap64 (t282 * ((rd_T37 l0 x16_1).f1))) t283))) = true := beq_iff_eq.mpr c43
                                                  have c43b1 : ((rd t290 x16_1) != (wrap64 (Int.tdiv (wrap64 (t282 * ((rd_T37 l0 x16_1).f1))) t283))) = false := bne_eq_false_iff_eq.mpr c43
                                                  clear c43
                                                  have H' := Aside0.mk H
                                                  clear H
                                                  have p294 : 0 ≤ (x16_1 : Int) := od
                                                  have q294 : x16_1 < (l0.length : Int) := od
                                                  obtain ⟨ad294, e294, hx294_0, hx294_1⟩ := at_T37 HR0.out x16_1 p294 q294
                                                  cases e294
                                                  replace hx294_0 := (HB.out.cell (World.block_lt_of_cell? w _ hx294_0)).trans hx294_0
                                                  replace hx294_1 := (HB.out.cell (World.block_lt_of_cell? w _ hx294_1)).trans hx294_1
                                                  replace p294 := eq_true p294
                                                  replace q294 := eq_true q294
                                                  obtain ⟨hcz44_0, hcz44_1, hfz44_0, hfz44_1⟩ := bk2 BK285.out
                                                  have p295 : 0 ≤ (x16_1 : Int) := od
                                                  have q295 : x16_1 < (l0.length : Int) := od
                                                  obtain ⟨ad295, e295, hx295_0, hx295_1⟩ := at_T37 HR0.out x16_1 p295 q295
                                                  obtain rfl : ad294 = ad295 := (by injection e295)
                                                  replace hx295_0 := (HB.out.cell (World.block_lt_of_cell? w _ hx295_0)).trans hx295_0
                                                  replace hx295_1 := (HB.out.cell (World.block_lt_of_cell? w _ hx295_1)).trans hx295_1
                                                  replace p295 := eq_true p295
                                                  replace q295 := eq_true q295
                                                  have p299 : 0 ≤ (x16_1 : Int) := od
                                                  have q299 : x16_1 < (l0.length : Int) := od
                                                  obtain ⟨ad299, e299, hx299_0, hx299_1⟩ := at_T37 HR0.out x16_1 p299 q299
                                                  obtain rfl : ad294 = ad299 := (by injection e299)
                                                  replace hx299_0 := (HB.out.cell (World.block_lt_of_cell? w _ hx299_0)).trans hx299_0
                                                  replace hx299_1 := (HB.out.cell (World.block_lt_of_cell? w _ hx299_1)).trans hx299_1
                                                  replace p299 := eq_true p299
                                                  replace q299 := eq_true q299
                                                  have p300 : 0 ≤ (x16_1 : Int) := od
                                                  have q300 : x16_1 < (l0.length : Int) := od
                                                  obtain ⟨ad300, e300, hx300_0, hx300_1⟩ := at_T37 HR0.out x16_1 p300 q300
                                                  obtain rfl : ad294 = ad300 := (by injection e300)
                                                  replace hx300_0 := (HB.out.cell (World.block_lt_of_cell? w _ hx300_0)).trans hx300_0
                                                  replace hx300_1 := (HB.out.cell (World.block_lt_of_cell? w _ hx300_1)).trans hx300_1
                                                  replace p300 := eq_true p300
                                                  replace q300 := eq_true q300
                                                  obtain ⟨Ao45, co45, eo45⟩ := Kd.R_slice HO_10.out
                                                  subst eo45
                                                  have p301 : 0 ≤ (x15_1 : Int) := od
                                                  have q301 : x15_1 < (t286.length : Int) := od
                                                  obtain ⟨ad301, e301, hx301_0⟩ := Kd.at_int (Kd.R_reads' HO_10.out).2.2 x15_1 p301 q301
                                                  cases e301
                                                  replace p301 := eq_true p301
                                                  replace q301 := eq_true q301
                                                  have p302 : 0 ≤ (x16_1 : Int) := od
                                                  have q302 : x16_1 < (t290.length : Int) := od
                                                  obtain ⟨ad302, e302, hx302_0⟩ := Kd.at_int (Kd.R_reads' HO_12.out).2.2 x16_1 p302 q302
                                                  cases e302
                                                  replace p302 := eq_true p302
                                                  replace q302 := eq_true q302
                                                  go_wp2
                                                  repeat (go_quiet (fail); try go_wp2)
                                                  go_roundg k1
                                                  case measure => have := HK1.out; omega
                                                  case rel => exact ⟨(wrap64 (x14_1 + (wrap64 (t282 * ((rd_T37 l0 x16_1).f1))))), (wrap64 (x15_1 + 1)), (wrap64 (x16_1 + 1)), (by first | rfl | (simp; done) | (simp [*]; done)), (by first | rfl | (simp; done) | (simp [*]; done)), (by first | rfl | (simp; done) | (simp [*]; done)), H', ⟨by have := HK1.out; omega⟩, ⟨Kd.pR HO_10.out⟩, ⟨Kd.pR HO_12.out⟩, ⟨pK BK285.out⟩, ⟨pB HB.out⟩⟩
                                                · rw [if_neg c43] at H
                                                  have c43b0 : ((rd t290 x16_1) == (wrap64 (Int.tdiv (wrap64 (t282 * ((rd_T37 l0 x16_1).f1))) t283))) = false := beq_eq_false_iff_ne.mpr c43
                                                  have c43b1 : ((rd t290 x16_1) != (wrap64 (Int.tdiv (wrap64 (t282 * ((rd_T37 l0 x16_1).f1))) t283))) = true := bne_iff_ne.mpr c43
                                                  by_cases c46 : (rd t290 x16_1) = (wrap64 ((wrap64 (Int.tdiv (wrap64 (t282 * ((rd_T37 l0 x16_1).f1))) t283)) + 1))
                                                  · rw [if_pos c46] at H
                                                    have c46b0 : ((rd t290 x16_1) == (wrap64 ((wrap64 (Int.tdiv (wrap64 (t282 * ((rd_T37 l0 x16_1).f1))) t283)) + 1))) = true := beq_iff_eq.mpr c46
                                                    have c46b1 : ((rd t290 x16_1) != (wrap64 ((wrap64 (Int.tdiv (wrap64 (t282 * ((rd_T37 l0 x16_1).f1))) t283)) + 1))) = false := bne_eq_false_iff_eq.mpr c46
                                                    clear c46
                                                    have H' := Aside0.mk H
                                                    clear H
                                                    have p294 : 0 ≤ (x16_1 : Int) := od
                                                    have q294 : x16_1 < (l0.length : Int) := od
                                                    obtain ⟨ad294, e294, hx294_0, hx294_1⟩ := at_T37 HR0.out x16_1 p294 q294
                                                    cases e294
                                                    replace hx294_0 := (HB.out.cell (World.block_lt_of_cell? w _ hx294_0)).trans hx294_0
                                                    replace hx294_1 := (HB.out.cell (World.block_lt_of_cell? w _ hx294_1)).trans hx294_1
                                                    replace p294 := eq_true p294
                                                    replace q294 := eq_true q294
                                                    obtain ⟨hcz47_0, hcz47_1, hfz47_0, hfz47_1⟩ := bk2 BK285.out
                                                    have p295 : 0 ≤ (x16_1 : Int) := od
                                                    have q295 : x16_1 < (l0.length : Int) := od
                                                    obtain ⟨ad295, e295, hx295_0, hx295_1⟩ := at_T37 HR0.out x16_1 p295 q295
                                                    obtain rfl : ad294 = ad295 := (by injection e295)
                                                    replace hx295_0 := (HB.out.cell (World.block_lt_of_cell? w _ hx295_0)).trans hx295_0
                                                    replace hx295_1 := (HB.out.cell (World.block_lt_of_cell? w _ hx295_1)).trans hx295_1
                                                    replace p295 := eq_true p295
                                                    replace q295 := eq_true q295
                                                    have p299 : 0 ≤ (x16_1 : Int) := od
                                                    have q299 : x16_1 < (l0.length : Int) := od
                                                    obtain ⟨ad299, e299, hx299_0, hx299_1⟩ := at_T37 HR0.out x16_1 p299 q299
                                                    obtain rfl : ad294 = ad299 := (by injection e299)
                                                    replace hx299_0 := (HB.out.cell (World.block_lt_of_cell? w _ hx299_0)).trans hx299_0
                                                    replace hx299_1 := (HB.out.cell (World.block_lt_of_cell? w _ hx299_1)).trans hx299_1
                                                    replace p299 := eq_true p299
                                                    replace q299 := eq_true q299
                                                    have p300 : 0 ≤ (x16_1 : Int) := od
                                                    have q300 : x16_1 < (l0.length : Int) := od
                                                    obtain ⟨ad300, e300, hx300_0, hx300_1⟩ := at_T37 HR0.out x16_1 p300 q300
                                                    obtain rfl : ad294 = ad300 := (by injection e300)
                                                    replace hx300_0 := (HB.out.cell (World.block_lt_of_cell? w _ hx300_0)).trans hx300_0
                                                    replace hx300_1 := (HB.out.cell (World.block_lt_of_cell? w _ hx300_1)).trans hx300_1
                                                    replace p300 := eq_true p300
                                                    replace q300 := eq_true q300
                                                    obtain ⟨Ao48, co48, eo48⟩ := Kd.R_slice HO_10.out
                                                    subst eo48
                                                    have p301 : 0 ≤ (x15_1 : Int) := od
                                                    have q301 : x15_1 < (t286.length : Int) := od
                                                    obtain ⟨ad301, e301, hx301_0⟩ := Kd.at_int (Kd.R_reads' HO_10.out).2.2 x15_1 p301 q301
                                                    cases e301
                                                    replace p301 := eq_true p301
                                                    replace q301 := eq_true q301
                                                    have p302 : 0 ≤ (x16_1 : Int) := od
                                                    have q302 : x16_1 < (t290.length : Int) := od
                                                    obtain ⟨ad302, e302, hx302_0⟩ := Kd.at_int (Kd.R_reads' HO_12.out).2.2 x16_1 p302 q302
                                                    cases e302
                                                    replace p302 := eq_true p302
                                                    replace q302 := eq_true q302
                                                    have p303 : 0 ≤ (x16_1 : Int) := od
                                                    have q303 : x16_1 < (t290.length : Int) := od
                                                    obtain ⟨ad303, e303, hx303_0⟩ := Kd.at_int (Kd.R_reads' HO_12.out).2.2 x16_1 p303 q303
                                                    obtain rfl : ad302 = ad303 := (by injection e303)
                                                    replace p303 := eq_true p303
                                                    replace q303 := eq_true q303
                                                    go_wp2
                                                    repeat (go_quiet (fail); try go_wp2)
                                                    go_roundg k1
                                                    case measure => have := HK1.out; omega
                                                    case rel => exact ⟨(wrap64 (x14_1 + (wrap64 (t282 * ((rd_T37 l0 x16_1).f1))))), (wrap64 (x15_1 + 1)), (wrap64 (x16_1 + 1)), (by first | rfl | (simp; done) | (simp [*]; done)), (by first | rfl | (simp; done) | (simp [*]; done)), (by first | rfl | (simp; done) | (simp [*]; done)), H', ⟨by have := HK1.out; omega⟩, ⟨Kd.pR HO_10.out⟩, ⟨Kd.pR HO_12.out⟩, ⟨pK BK285.out⟩, ⟨pB HB.out⟩⟩
                                                  · rw [if_neg c46] at H
                                                    have c46b0 : ((rd t290 x16_1) == (wrap64 ((wrap64 (Int.tdiv (wrap64 (t282 * ((rd_T37 l0 x16_1).f1))) t283)) + 1))) = false := beq_eq_false_iff_ne.mpr c46
                                                    have c46b1 : ((rd t290 x16_1) != (wrap64 ((wrap64 (Int.tdiv (wrap64 (t282 * ((rd_T37 l0 x16_1).f1))) t283)) + 1))) = true := bne_iff_ne.mpr c46
                                                    exact absurd H (by simp)
                                              · rw [if_neg c42] at H
                                                exact absurd H (by simp)
                                            · rw [if_neg c41] at H
                                              have c41b0 : ((rd t286 x15_1) == x16_1) = false := beq_eq_false_iff_ne.mpr c41
                                              have c41b1 : ((rd t286 x15_1) != x16_1) = true := bne_iff_ne.mpr c41
                                              exact absurd H (by simp)
                                          · rw [if_neg c40] at H
                                            exact absurd H (by simp)
                                        · rw [if_neg c39] at H
                                          exact absurd H (by simp)
                                · rw [if_neg c32] at H
                                  exact absurd H (by simp)
                              · rw [if_neg c31] at H
                                have c31b0 : decide (x16_1 < (l0.length : Int)) = false := decide_eq_false c31
                                (try clear c31)
                                by_cases c49 : x14_1 = (wrap64 (a1 * t283))
                                · rw [if_pos c49] at H
                                  have c49b0 : (x14_1 == (wrap64 (a1 * t283))) = true := beq_iff_eq.mpr c49
                                  have c49b1 : (x14_1 != (wrap64 (a1 * t283))) = false := bne_eq_false_iff_eq.mpr c49
                                  clear c49
                                  by_cases c50 : x15_1 = (t286.length : Int)
                                  · rw [if_pos c50] at H
                                    have c50b0 : (x15_1 == (t286.length : Int)) = true := beq_iff_eq.mpr c50
                                    have c50b1 : (x15_1 != (t286.length : Int)) = false := bne_eq_false_iff_eq.mpr c50
                                    clear c50
                                    replace H := Option.bind_eq_some_iff.mp H
                                    obtain ⟨⟨t304, t305, t306⟩, A510, H⟩ := H
                                    replace H : (if t306 = 0 then (if a2 < a1 then (if true = true then (some true) else (some false)) else (if true = true then (if t305 ≥ 1 then (if t305 ≤ 12000 then (if t304 ≥ 0 then (if t304 ≤ 1000000000000 then (some (decide ((wrap64 (t304 * t283)) ≥ (wrap64 (t282 * t305))))) else (some false)) else (some false)) else (some false)) else (some false)) else (some false))) else (if true = true then (some (t306 == 6)) else (some false))) = some true := H
                                    have A51 := Aside0.mk A510
                                    (try clear A510)
                                    by_cases c52 : t306 = 0
                                    · rw [if_pos c52] at H
                                      have c52b0 : (t306 == 0) = true := beq_iff_eq.mpr c52
                                      have c52b1 : (t306 != 0) = false := bne_eq_false_iff_eq.mpr c52
                                      clear c52
                                      by_cases c53 : a2 < a1
                                      · rw [if_pos c53] at H
                                        have c53b0 : decide (a2 < a1) = true := decide_eq_true c53
                                        clear c53
                                        replace H : (some true) = some true := rfl
                                        clear H
                                        obtain ⟨hcz54_0, hcz54_1, hfz54_0, hfz54_1⟩ := bk2 BK285.out
                                        obtain ⟨Ao55, co55, eo55⟩ := Kd.R_slice HO_10.out
                                        subst eo55
                                        go_wp2_with (first | (go_at_call 11; (with_reducible refine (share_Level.calls k1 _ _ l0 a2 t304 t305 t306 _ ?side1 ?side2 A51.out).mono ?_); (case side1 => exact Kd.pC ((Kd.C_below HR0.out HB.out))); (case side2 => exact HC0.out); rintro e w56 ⟨rfl, hb⟩; have n0_ := Aside0.mk (Kd.R_below (Kd.pR HO_10.out) hb); have n1_ := Aside0.mk (Kd.R_below (Kd.pR HO_12.out) hb); have n2_ := Aside0.mk (blk_below (pK BK285.out) hb); have n3_ := Aside0.mk (below_step (pB HB.out) hb); clear HO_10; clear HO_12; clear BK285; clear HB; have HO_10 := n0_; have HO_12 := n1_; have BK285 := n2_; have HB := n3_; clear n0_ n1_ n2_ n3_; (try clear hb); (try clear hb2); (try clear hk); (try clear hi)) | ((with_reducible refine gate_dst (N := 18) rfl ?_); (try (refine gate_guard (by rfl) ?_; dsimp only)); refine boxE (N := 18) (cs := #[.int .i64 0, .int .i64 0]) (t := 26) ?_; intro gb307 hg w57 hbox hb; have n0_ := Aside0.mk (Kd.R_below (Kd.pR HO_10.out) hb); have n1_ := Aside0.mk (Kd.R_below (Kd.pR HO_12.out) hb); have n2_ := Aside0.mk (blk_below (pK BK285.out) hb); have n3_ := Aside0.mk (below_step (pB HB.out) hb); have n4_ := Aside0.mk (hbox); have n5_ := Aside0.mk (pL HB.out hg); have n6_ := Aside0.mk (pL HB.out hg); have n7_ := Aside0.mk (pNl BK285.out hg); have n8_ := Aside0.mk (pNg BK285.out hg); clear HO_10; clear HO_12; clear BK285; clear HB; have HO_10 := n0_; have HO_12 := n1_; have BK285 := n2_; have HB := n3_; have BK307 := n4_; have GW307 := n5_; have GE307 := n6_; have NB285_307 := n7_; have NB307_285 := n8_; clear n0_ n1_ n2_ n3_ n4_ n5_ n6_ n7_ n8_; clear hb hbox hg; have hnb58 := NB307_285.out; have hnc58 := NB285_307.out; obtain ⟨hcz59_0, hcz59_1, hfz59_0, hfz59_1⟩ := bk2 BK307.out))
                                        repeat (go_quiet (first | (go_at_call 11; (with_reducible refine (share_Level.calls k1 _ _ l0 a2 t304 t305 t306 _ ?side1 ?side2 A51.out).mono ?_); (case side1 => exact Kd.pC ((Kd.C_below HR0.out HB.out))); (case side2 => exact HC0.out); rintro e w56 ⟨rfl, hb⟩; have n0_ := Aside0.mk (Kd.R_below (Kd.pR HO_10.out) hb); have n1_ := Aside0.mk (Kd.R_below (Kd.pR HO_12.out) hb); have n2_ := Aside0.mk (blk_below (pK BK285.out) hb); have n3_ := Aside0.mk (below_step (pB HB.out) hb); clear HO_10; clear HO_12; clear BK285; clear HB; have HO_10 := n0_; have HO_12 := n1_; have BK285 := n2_; have HB := n3_; clear n0_ n1_ n2_ n3_; (try clear hb); (try clear hb2); (try clear hk); (try clear hi)) | ((with_reducible refine gate_dst (N := 18) rfl ?_); (try (refine gate_guard (by rfl) ?_; dsimp only)); refine boxE (N := 18) (cs := #[.int .i64 0, .int .i64 0]) (t := 26) ?_; intro gb307 hg w57 hbox hb; have n0_ := Aside0.mk (Kd.R_below (Kd.pR HO_10.out) hb); have n1_ := Aside0.mk (Kd.R_below (Kd.pR HO_12.out) hb); have n2_ := Aside0.mk (blk_below (pK BK285.out) hb); have n3_ := Aside0.mk (below_step (pB HB.out) hb); have n4_ := Aside0.mk (hbox); have n5_ := Aside0.mk (pL HB.out hg); have n6_ := Aside0.mk (pL HB.out hg); have n7_ := Aside0.mk (pNl BK285.out hg); have n8_ := Aside0.mk (pNg BK285.out hg); clear HO_10; clear HO_12; clear BK285; clear HB; have HO_10 := n0_; have HO_12 := n1_; have BK285 := n2_; have HB := n3_; have BK307 := n4_; have GW307 := n5_; have GE307 := n6_; have NB285_307 := n7_; have NB307_285 := n8_; clear n0_ n1_ n2_ n3_ n4_ n5_ n6_ n7_ n8_; clear hb hbox hg; have hnb58 := NB307_285.out; have hnc58 := NB285_307.out; obtain ⟨hcz59_0, hcz59_1, hfz59_0, hfz59_1⟩ := bk2 BK307.out)); try go_wp2_with (first | (go_at_call 11; (with_reducible refine (share_Level.calls k1 _ _ l0 a2 t304 t305 t306 _ ?side1 ?side2 A51.out).mono ?_); (case side1 => exact Kd.pC ((Kd.C_below HR0.out HB.out))); (case side2 => exact HC0.out); rintro e w56 ⟨rfl, hb⟩; have n0_ := Aside0.mk (Kd.R_below (Kd.pR HO_10.out) hb); have n1_ := Aside0.mk (Kd.R_below (Kd.pR HO_12.out) hb); have n2_ := Aside0.mk (blk_below (pK BK285.out) hb); have n3_ := Aside0.mk (below_step (pB HB.out) hb); clear HO_10; clear HO_12; clear BK285; clear HB; have HO_10 := n0_; have HO_12 := n1_; have BK285 := n2_; have HB := n3_; clear n0_ n1_ n2_ n3_; (try clear hb); (try clear hb2); (try clear hk); (try clear hi)) | ((with_reducible refine gate_dst (N := 18) rfl ?_); (try (refine gate_guard (by rfl) ?_; dsimp only)); refine boxE (N := 18) (cs := #[.int .i64 0, .int .i64 0]) (t := 26) ?_; intro gb307 hg w57 hbox hb; have n0_ := Aside0.mk (Kd.R_below (Kd.pR HO_10.out) hb); have n1_ := Aside0.mk (Kd.R_below (Kd.pR HO_12.out) hb); have n2_ := Aside0.mk (blk_below (pK BK285.out) hb); have n3_ := Aside0.mk (below_step (pB HB.out) hb); have n4_ := Aside0.mk (hbox); have n5_ := Aside0.mk (pL HB.out hg); have n6_ := Aside0.mk (pL HB.out hg); have n7_ := Aside0.mk (pNl BK285.out hg); have n8_ := Aside0.mk (pNg BK285.out hg); clear HO_10; clear HO_12; clear BK285; clear HB; have HO_10 := n0_; have HO_12 := n1_; have BK285 := n2_; have HB := n3_; have BK307 := n4_; have GW307 := n5_; have GE307 := n6_; have NB285_307 := n7_; have NB307_285 := n8_; clear n0_ n1_ n2_ n3_ n4_ n5_ n6_ n7_ n8_; clear hb hbox hg; have hnb58 := NB307_285.out; have hnc58 := NB285_307.out; obtain ⟨hcz59_0, hcz59_1, hfz59_0, hfz59_1⟩ := bk2 BK307.out)))
                                        go_ret
                                        exact ⟨by first | rfl | (simp [errW_none, errW_some] <;> rfl) | (simp [*, errW_none, errW_some] <;> rfl), pB HB.out⟩
                                      · rw [if_neg c53] at H
                                        have c53b0 : decide (a2 < a1) = false := decide_eq_false c53
                                        (try clear c53)
                                        replace H : (if t305 ≥ 1 then (if t305 ≤ 12000 then (if t304 ≥ 0 then (if t304 ≤ 1000000000000 then (some (decide ((wrap64 (t304 * t283)) ≥ (wrap64 (t282 * t305))))) else (some false)) else (some false)) else (some false)) else (some false)) = some true := by rw [if_pos rfl] at H; exact H
                                        by_cases c60 : t305 ≥ 1
                                        · rw [if_pos c60] at H
                                          have c60b0 : decide (1 ≤ t305) = true := decide_eq_true c60
                                          clear c60
                                          by_cases c61 : t305 ≤ 12000
                                          · rw [if_pos c61] at H
                                            have c61b0 : decide (t305 ≤ 12000) = true := decide_eq_true c61
                                            clear c61
                                            by_cases c62 : t304 ≥ 0
                                            · rw [if_pos c62] at H
                                              have c62b0 : decide (0 ≤ t304) = true := decide_eq_true c62
                                              clear c62
                                              by_cases c63 : t304 ≤ 1000000000000
                                              · rw [if_pos c63] at H
                                                have c63b0 : decide (t304 ≤ 1000000000000) = true := decide_eq_true c63
                                                clear c63
                                                have HRT := Aside0.mk (Option.some.inj H)
                                                clear H
                                                obtain ⟨hcz64_0, hcz64_1, hfz64_0, hfz64_1⟩ := bk2 BK285.out
                                                obtain ⟨Ao65, co65, eo65⟩ := Kd.R_slice HO_10.out
                                                subst eo65
                                                go_wp2_with (first | (go_at_call 11; (with_reducible refine (share_Level.calls k1 _ _ l0 a2 t304 t305 t306 _ ?side1 ?side2 A51.out).mono ?_); (case side1 => exact Kd.pC ((Kd.C_below HR0.out HB.out))); (case side2 => exact HC0.out); rintro e w66 ⟨rfl, hb⟩; have n0_ := Aside0.mk (Kd.R_below (Kd.pR HO_10.out) hb); have n1_ := Aside0.mk (Kd.R_below (Kd.pR HO_12.out) hb); have n2_ := Aside0.mk (blk_below (pK BK285.out) hb); have n3_ := Aside0.mk (below_step (pB HB.out) hb); clear HO_10; clear HO_12; clear BK285; clear HB; have HO_10 := n0_; have HO_12 := n1_; have BK285 := n2_; have HB := n3_; clear n0_ n1_ n2_ n3_; (try clear hb); (try clear hb2); (try clear hk); (try clear hi)) | ((with_reducible refine gate_dst (N := 18) rfl ?_); (try (refine gate_guard (by rfl) ?_; dsimp only)); refine boxE (N := 18) (cs := #[.int .i64 0, .int .i64 0]) (t := 26) ?_; intro gb307 hg w67 hbox hb; have n0_ := Aside0.mk (Kd.R_below (Kd.pR HO_10.out) hb); have n1_ := Aside0.mk (Kd.R_below (Kd.pR HO_12.out) hb); have n2_ := Aside0.mk (blk_below (pK BK285.out) hb); have n3_ := Aside0.mk (below_step (pB HB.out) hb); have n4_ := Aside0.mk (hbox); have n5_ := Aside0.mk (pL HB.out hg); have n6_ := Aside0.mk (pL HB.out hg); have n7_ := Aside0.mk (pNl BK285.out hg); have n8_ := Aside0.mk (pNg BK285.out hg); clear HO_10; clear HO_12; clear BK285; clear HB; have HO_10 := n0_; have HO_12 := n1_; have BK285 := n2_; have HB := n3_; have BK307 := n4_; have GW307 := n5_; have GE307 := n6_; have NB285_307 := n7_; have NB307_285 := n8_; clear n0_ n1_ n2_ n3_ n4_ n5_ n6_ n7_ n8_; clear hb hbox hg; have hnb68 := NB307_285.out; have hnc68 := NB285_307.out; obtain ⟨hcz69_0, hcz69_1, hfz69_0, hfz69_1⟩ := bk2 BK307.out; obtain ⟨hcz70_0, hcz70_1, hfz70_0, hfz70_1⟩ := bk2 BK285.out))
                                                repeat (go_quiet (first | (go_at_call 11; (with_reducible refine (share_Level.calls k1 _ _ l0 a2 t304 t305 t306 _ ?side1 ?side2 A51.out).mono ?_); (case side1 => exact Kd.pC ((Kd.C_below HR0.out HB.out))); (case side2 => exact HC0.out); rintro e w66 ⟨rfl, hb⟩; have n0_ := Aside0.mk (Kd.R_below (Kd.pR HO_10.out) hb); have n1_ := Aside0.mk (Kd.R_below (Kd.pR HO_12.out) hb); have n2_ := Aside0.mk (blk_below (pK BK285.out) hb); have n3_ := Aside0.mk (below_step (pB HB.out) hb); clear HO_10; clear HO_12; clear BK285; clear HB; have HO_10 := n0_; have HO_12 := n1_; have BK285 := n2_; have HB := n3_; clear n0_ n1_ n2_ n3_; (try clear hb); (try clear hb2); (try clear hk); (try clear hi)) | ((with_reducible refine gate_dst (N := 18) rfl ?_); (try (refine gate_guard (by rfl) ?_; dsimp only)); refine boxE (N := 18) (cs := #[.int .i64 0, .int .i64 0]) (t := 26) ?_; intro gb307 hg w67 hbox hb; have n0_ := Aside0.mk (Kd.R_below (Kd.pR HO_10.out) hb); have n1_ := Aside0.mk (Kd.R_below (Kd.pR HO_12.out) hb); have n2_ := Aside0.mk (blk_below (pK BK285.out) hb); have n3_ := Aside0.mk (below_step (pB HB.out) hb); have n4_ := Aside0.mk (hbox); have n5_ := Aside0.mk (pL HB.out hg); have n6_ := Aside0.mk (pL HB.out hg); have n7_ := Aside0.mk (pNl BK285.out hg); have n8_ := Aside0.mk (pNg BK285.out hg); clear HO_10; clear HO_12; clear BK285; clear HB; have HO_10 := n0_; have HO_12 := n1_; have BK285 := n2_; have HB := n3_; have BK307 := n4_; have GW307 := n5_; have GE307 := n6_; have NB285_307 := n7_; have NB307_285 := n8_; clear n0_ n1_ n2_ n3_ n4_ n5_ n6_ n7_ n8_; clear hb hbox hg; have hnb68 := NB307_285.out; have hnc68 := NB285_307.out; obtain ⟨hcz69_0, hcz69_1, hfz69_0, hfz69_1⟩ := bk2 BK307.out; obtain ⟨hcz70_0, hcz70_1, hfz70_0, hfz70_1⟩ := bk2 BK285.out)); try go_wp2_with (first | (go_at_call 11; (with_reducible refine (share_Level.calls k1 _ _ l0 a2 t304 t305 t306 _ ?side1 ?side2 A51.out).mono ?_); (case side1 => exact Kd.pC ((Kd.C_below HR0.out HB.out))); (case side2 => exact HC0.out); rintro e w66 ⟨rfl, hb⟩; have n0_ := Aside0.mk (Kd.R_below (Kd.pR HO_10.out) hb); have n1_ := Aside0.mk (Kd.R_below (Kd.pR HO_12.out) hb); have n2_ := Aside0.mk (blk_below (pK BK285.out) hb); have n3_ := Aside0.mk (below_step (pB HB.out) hb); clear HO_10; clear HO_12; clear BK285; clear HB; have HO_10 := n0_; have HO_12 := n1_; have BK285 := n2_; have HB := n3_; clear n0_ n1_ n2_ n3_; (try clear hb); (try clear hb2); (try clear hk); (try clear hi)) | ((with_reducible refine gate_dst (N := 18) rfl ?_); (try (refine gate_guard (by rfl) ?_; dsimp only)); refine boxE (N := 18) (cs := #[.int .i64 0, .int .i64 0]) (t := 26) ?_; intro gb307 hg w67 hbox hb; have n0_ := Aside0.mk (Kd.R_below (Kd.pR HO_10.out) hb); have n1_ := Aside0.mk (Kd.R_below (Kd.pR HO_12.out) hb); have n2_ := Aside0.mk (blk_below (pK BK285.out) hb); have n3_ := Aside0.mk (below_step (pB HB.out) hb); have n4_ := Aside0.mk (hbox); have n5_ := Aside0.mk (pL HB.out hg); have n6_ := Aside0.mk (pL HB.out hg); have n7_ := Aside0.mk (pNl BK285.out hg); have n8_ := Aside0.mk (pNg BK285.out hg); clear HO_10; clear HO_12; clear BK285; clear HB; have HO_10 := n0_; have HO_12 := n1_; have BK285 := n2_; have HB := n3_; have BK307 := n4_; have GW307 := n5_; have GE307 := n6_; have NB285_307 := n7_; have NB307_285 := n8_; clear n0_ n1_ n2_ n3_ n4_ n5_ n6_ n7_ n8_; clear hb hbox hg; have hnb68 := NB307_285.out; have hnc68 := NB285_307.out; obtain ⟨hcz69_0, hcz69_1, hfz69_0, hfz69_1⟩ := bk2 BK307.out; obtain ⟨hcz70_0, hcz70_1, hfz70_0, hfz70_1⟩ := bk2 BK285.out)))
                                                go_ret
                                                exact ⟨by first | rfl | (simp [errW_none, errW_some] <;> rfl) | (simp [*, errW_none, errW_some] <;> rfl) | (rw [HRT.out] <;> rfl) | (simp [HRT.out]; done) | (have h_ := HRT.out; simp [*] at h_ ⊢ <;> first | done | assumption | omega) | (have h_ := HRT.out; simp [*] at h_; done), pB HB.out⟩
                                              · rw [if_neg c63] at H
                                                have c63b0 : decide (t304 ≤ 1000000000000) = false := decide_eq_false c63
                                                (try clear c63)
                                                exact absurd H (by simp)
                                            · rw [if_neg c62] at H
                                              have c62b0 : decide (0 ≤ t304) = false := decide_eq_false c62
                                              (try clear c62)
                                              exact absurd H (by simp)
                                          · rw [if_neg c61] at H
                                            have c61b0 : decide (t305 ≤ 12000) = false := decide_eq_false c61
                                            (try clear c61)
                                            exact absurd H (by simp)
                                        · rw [if_neg c60] at H
                                          have c60b0 : decide (1 ≤ t305) = false := decide_eq_false c60
                                          (try clear c60)
                                          exact absurd H (by simp)
                                    · rw [if_neg c52] at H
                                      have c52b0 : (t306 == 0) = false := beq_eq_false_iff_ne.mpr c52
                                      have c52b1 : (t306 != 0) = true := bne_iff_ne.mpr c52
                                      replace H : (some (t306 == 6)) = some true := by rw [if_pos rfl] at H; exact H
                                      have HRT := Aside0.mk (Option.some.inj H)
                                      clear H
                                      obtain ⟨hcz71_0, hcz71_1, hfz71_0, hfz71_1⟩ := bk2 BK285.out
                                      obtain ⟨Ao72, co72, eo72⟩ := Kd.R_slice HO_10.out
                                      subst eo72
                                      go_wp2_with (first | (go_at_call 11; (with_reducible refine (share_Level.calls k1 _ _ l0 a2 t304 t305 t306 _ ?side1 ?side2 A51.out).mono ?_); (case side1 => exact Kd.pC ((Kd.C_below HR0.out HB.out))); (case side2 => exact HC0.out); rintro e w73 ⟨rfl, hb⟩; have n0_ := Aside0.mk (Kd.R_below (Kd.pR HO_10.out) hb); have n1_ := Aside0.mk (Kd.R_below (Kd.pR HO_12.out) hb); have n2_ := Aside0.mk (blk_below (pK BK285.out) hb); have n3_ := Aside0.mk (below_step (pB HB.out) hb); clear HO_10; clear HO_12; clear BK285; clear HB; have HO_10 := n0_; have HO_12 := n1_; have BK285 := n2_; have HB := n3_; clear n0_ n1_ n2_ n3_; (try clear hb); (try clear hb2); (try clear hk); (try clear hi)) | ((with_reducible refine gate_dst (N := 18) rfl ?_); (try (refine gate_guard (by rfl) ?_; dsimp only)); refine boxE (N := 18) (cs := #[.int .i64 0, .int .i64 0]) (t := 26) ?_; intro gb307 hg w74 hbox hb; have n0_ := Aside0.mk (Kd.R_below (Kd.pR HO_10.out) hb); have n1_ := Aside0.mk (Kd.R_below (Kd.pR HO_12.out) hb); have n2_ := Aside0.mk (blk_below (pK BK285.out) hb); have n3_ := Aside0.mk (below_step (pB HB.out) hb); have n4_ := Aside0.mk (hbox); have n5_ := Aside0.mk (pL HB.out hg); have n6_ := Aside0.mk (pL HB.out hg); have n7_ := Aside0.mk (pNl BK285.out hg); have n8_ := Aside0.mk (pNg BK285.out hg); clear HO_10; clear HO_12; clear BK285; clear HB; have HO_10 := n0_; have HO_12 := n1_; have BK285 := n2_; have HB := n3_; have BK307 := n4_; have GW307 := n5_; have GE307 := n6_; have NB285_307 := n7_; have NB307_285 := n8_; clear n0_ n1_ n2_ n3_ n4_ n5_ n6_ n7_ n8_; clear hb hbox hg; have hnb75 := NB307_285.out; have hnc75 := NB285_307.out; obtain ⟨hcz76_0, hcz76_1, hfz76_0, hfz76_1⟩ := bk2 BK307.out))
                                      repeat (go_quiet (first | (go_at_call 11; (with_reducible refine (share_Level.calls k1 _ _ l0 a2 t304 t305 t306 _ ?side1 ?side2 A51.out).mono ?_); (case side1 => exact Kd.pC ((Kd.C_below HR0.out HB.out))); (case side2 => exact HC0.out); rintro e w73 ⟨rfl, hb⟩; have n0_ := Aside0.mk (Kd.R_below (Kd.pR HO_10.out) hb); have n1_ := Aside0.mk (Kd.R_below (Kd.pR HO_12.out) hb); have n2_ := Aside0.mk (blk_below (pK BK285.out) hb); have n3_ := Aside0.mk (below_step (pB HB.out) hb); clear HO_10; clear HO_12; clear BK285; clear HB; have HO_10 := n0_; have HO_12 := n1_; have BK285 := n2_; have HB := n3_; clear n0_ n1_ n2_ n3_; (try clear hb); (try clear hb2); (try clear hk); (try clear hi)) | ((with_reducible refine gate_dst (N := 18) rfl ?_); (try (refine gate_guard (by rfl) ?_; dsimp only)); refine boxE (N := 18) (cs := #[.int .i64 0, .int .i64 0]) (t := 26) ?_; intro gb307 hg w74 hbox hb; have n0_ := Aside0.mk (Kd.R_below (Kd.pR HO_10.out) hb); have n1_ := Aside0.mk (Kd.R_below (Kd.pR HO_12.out) hb); have n2_ := Aside0.mk (blk_below (pK BK285.out) hb); have n3_ := Aside0.mk (below_step (pB HB.out) hb); have n4_ := Aside0.mk (hbox); have n5_ := Aside0.mk (pL HB.out hg); have n6_ := Aside0.mk (pL HB.out hg); have n7_ := Aside0.mk (pNl BK285.out hg); have n8_ := Aside0.mk (pNg BK285.out hg); clear HO_10; clear HO_12; clear BK285; clear HB; have HO_10 := n0_; have HO_12 := n1_; have BK285 := n2_; have HB := n3_; have BK307 := n4_; have GW307 := n5_; have GE307 := n6_; have NB285_307 := n7_; have NB307_285 := n8_; clear n0_ n1_ n2_ n3_ n4_ n5_ n6_ n7_ n8_; clear hb hbox hg; have hnb75 := NB307_285.out; have hnc75 := NB285_307.out; obtain ⟨hcz76_0, hcz76_1, hfz76_0, hfz76_1⟩ := bk2 BK307.out)); try go_wp2_with (first | (go_at_call 11; (with_reducible refine (share_Level.calls k1 _ _ l0 a2 t304 t305 t306 _ ?side1 ?side2 A51.out).mono ?_); (case side1 => exact Kd.pC ((Kd.C_below HR0.out HB.out))); (case side2 => exact HC0.out); rintro e w73 ⟨rfl, hb⟩; have n0_ := Aside0.mk (Kd.R_below (Kd.pR HO_10.out) hb); have n1_ := Aside0.mk (Kd.R_below (Kd.pR HO_12.out) hb); have n2_ := Aside0.mk (blk_below (pK BK285.out) hb); have n3_ := Aside0.mk (below_step (pB HB.out) hb); clear HO_10; clear HO_12; clear BK285; clear HB; have HO_10 := n0_; have HO_12 := n1_; have BK285 := n2_; have HB := n3_; clear n0_ n1_ n2_ n3_; (try clear hb); (try clear hb2); (try clear hk); (try clear hi)) | ((with_reducible refine gate_dst (N := 18) rfl ?_); (try (refine gate_guard (by rfl) ?_; dsimp only)); refine boxE (N := 18) (cs := #[.int .i64 0, .int .i64 0]) (t := 26) ?_; intro gb307 hg w74 hbox hb; have n0_ := Aside0.mk (Kd.R_below (Kd.pR HO_10.out) hb); have n1_ := Aside0.mk (Kd.R_below (Kd.pR HO_12.out) hb); have n2_ := Aside0.mk (blk_below (pK BK285.out) hb); have n3_ := Aside0.mk (below_step (pB HB.out) hb); have n4_ := Aside0.mk (hbox); have n5_ := Aside0.mk (pL HB.out hg); have n6_ := Aside0.mk (pL HB.out hg); have n7_ := Aside0.mk (pNl BK285.out hg); have n8_ := Aside0.mk (pNg BK285.out hg); clear HO_10; clear HO_12; clear BK285; clear HB; have HO_10 := n0_; have HO_12 := n1_; have BK285 := n2_; have HB := n3_; have BK307 := n4_; have GW307 := n5_; have GE307 := n6_; have NB285_307 := n7_; have NB307_285 := n8_; clear n0_ n1_ n2_ n3_ n4_ n5_ n6_ n7_ n8_; clear hb hbox hg; have hnb75 := NB307_285.out; have hnc75 := NB285_307.out; obtain ⟨hcz76_0, hcz76_1, hfz76_0, hfz76_1⟩ := bk2 BK307.out)))
                                      go_ret
                                      exact ⟨by first | rfl | (simp [errW_none, errW_some] <;> rfl) | (simp [*, errW_none, errW_some] <;> rfl) | (rw [HRT.out] <;> rfl) | (simp [HRT.out]; done) | (have h_ := HRT.out; simp [*] at h_ ⊢ <;> first | done | assumption | omega) | (have h_ := HRT.out; simp [*] at h_; done), pB HB.out⟩
                                  · rw [if_neg c50] at H
                                    have c50b0 : (x15_1 == (t286.length : Int)) = false := beq_eq_false_iff_ne.mpr c50
                                    have c50b1 : (x15_1 != (t286.length : Int)) = true := bne_iff_ne.mpr c50
                                    exact absurd H (by simp)
                                · rw [if_neg c49] at H
                                  have c49b0 : (x14_1 == (wrap64 (a1 * t283))) = false := beq_eq_false_iff_ne.mpr c49
                                  have c49b1 : (x14_1 != (wrap64 (a1 * t283))) = true := bne_iff_ne.mpr c49
                                  exact absurd H (by simp)
                · rw [if_neg c18] at H
                  have c18b0 : (t284 == 0) = false := beq_eq_false_iff_ne.mpr c18
                  have c18b1 : (t284 != 0) = true := bne_iff_ne.mpr c18
                  by_cases c77 : t284 = 6
                  · rw [if_pos c77] at H
                    have c77b0 : (t284 == 6) = true := beq_iff_eq.mpr c77
                    have c77b1 : (t284 != 6) = false := bne_eq_false_iff_eq.mpr c77
                    clear c77
                    have HRT := Aside0.mk (Option.some.inj H)
                    clear H
                    go_enter Try.func3, Try.ntmps3
                    have one3_ := Aside0.mk True.intro
                    have one4_ := Aside0.mk True.intro
                    go_wp2_with (first | (go_at_call 9; (with_reducible refine (spigotlaw36_alive.calls k   _ A4.out).mono ?_); rintro e w78 ⟨rfl, hb⟩; have n0_ := Aside0.mk (below_step (pB HB.out) hb); clear HB; have HB := n0_; clear n0_; (try clear hb); (try clear hb2); (try clear hk); (try clear hi)) | (clear one3_; go_at_call 10; (with_reducible refine (spigotref36_Asked.calls k _ _ l0 a1 t280 _ ?side1 ?side2 A8.out).mono ?_); (case side1 => exact Kd.pC ((Kd.C_below HR0.out HB.out))); (case side2 => exact HC0.out); rintro e w' ⟨rfl, ⟨nd, rfl⟩⟩; (try first | exact ⟨rfl, _, World.drewN_drewN _ _ _⟩ | exact ⟨rfl, _, Eq.trans (World.drewN_drewN _ _ _) (congrArg (World.drewN _) (Nat.add_assoc _ _ _))⟩)) | (clear one4_; go_at_call 10; (with_reducible refine (spigotref36_Asked.calls k _ _ l0 a2 t281 _ ?side1 ?side2 A10.out).mono ?_); (case side1 => exact Kd.pC ((Kd.C_below HR0.out (pB HB.out)))); (case side2 => exact HC0.out); rintro e w' ⟨rfl, ⟨nd, rfl⟩⟩; (try first | exact ⟨rfl, _, World.drewN_drewN _ _ _⟩ | exact ⟨rfl, _, Eq.trans (World.drewN_drewN _ _ _) (congrArg (World.drewN _) (Nat.add_assoc _ _ _))⟩)) | (go_at_call 11; (with_reducible refine (share_Level.calls k _ _ l0 a1 t282 t283 t284 _ ?side1 ?side2 A12.out).mono ?_); (case side1 => exact Kd.pC ((Kd.C_below HR0.out (pB HB.out)))); (case side2 => exact HC0.out); rintro e w79 ⟨rfl, hb⟩; have n0_ := Aside0.mk (below_step (pB HB.out) hb); clear HB; have HB := n0_; clear n0_; (try clear hb); (try clear hb2); (try clear hk); (try clear hi)) | ((with_reducible refine gate_dst (N := 8) rfl ?_); (try (refine gate_guard (by rfl) ?_; dsimp only)); refine boxE (N := 8) (cs := #[.int .i64 0, .int .i64 0]) (t := 26) ?_; intro gb285 hg w80 hbox hb; have n0_ := Aside0.mk (below_step (pB HB.out) hb); have n1_ := Aside0.mk (hbox); have n2_ := Aside0.mk (pL HB.out hg); have n3_ := Aside0.mk (pL HB.out hg); clear HB; have HB := n0_; have BK285 := n1_; have GW285 := n2_; have GE285 := n3_; clear n0_ n1_ n2_ n3_; clear hb hbox hg; obtain ⟨hcz81_0, hcz81_1, hfz81_0, hfz81_1⟩ := bk2 BK285.out) | (go_at_call 12; (with_reducible refine (share_Short.calls k _ _ l0 a1 t286 t287 _ ?side1 ?side2 A13.out).mono ?_); (case side1 => exact Kd.C_below HR0.out (pB HB.out)); (case side2 => exact HC0.out); rintro e w82 ⟨v288, rfl, ho0, hb⟩; have n0_ := Aside0.mk (Kd.R_lower ho0 (below_size (pB HB.out))); have n1_ := Aside0.mk (blk_below (g := gb285) (o := .cells #[.int .i64 t282, .int .i64 t283] 26 (0, 0)) (by (with_reducible repeat (first | refine blk_drewN ?_ _ | refine blk_drew ?_ | refine blk_alloc ?_ _)); refine blk_put (cs := #[.int .i64 t282, .int .i64 0]) ?_ 1 _ rfl; (with_reducible repeat (first | refine blk_drewN ?_ _ | refine blk_drew ?_ | refine blk_alloc ?_ _)); refine blk_put (cs := #[.int .i64 0, .int .i64 0]) ?_ 0 _ rfl; (with_reducible repeat (first | refine blk_drewN ?_ _ | refine blk_drew ?_ | refine blk_alloc ?_ _)); exact BK285.out) hb); have n2_ := Aside0.mk (below_step (pB HB.out) hb); clear BK285; clear HB; have HO289 := n0_; have BK285 := n1_; have HB := n2_; clear n0_ n1_ n2_; (try clear hb); (try clear hb2); (try clear hk); (try clear hi); (try clear ho0)) | (go_at_call 13; (with_reducible refine (share_Split.calls k _ _ l0 a1 t290 t291 _ ?side1 ?side2 A14.out).mono ?_); (case side1 => exact Kd.pC ((Kd.C_below HR0.out HB.out))); (case side2 => exact HC0.out); rintro e w83 ⟨v292, rfl, ho0, hb⟩; have n0_ := Aside0.mk (Kd.R_below (Kd.pR HO289.out) hb); have n1_ := Aside0.mk (Kd.R_lower ho0 (below_size (pB HB.out))); have n2_ := Aside0.mk (blk_below (pK BK285.out) hb); have n3_ := Aside0.mk (below_step (pB HB.out) hb); clear HO289; clear BK285; clear HB; have HO289 := n0_; have HO293 := n1_; have BK285 := n2_; have HB := n3_; clear n0_ n1_ n2_ n3_; (try clear hb); (try clear hb2); (try clear hk); (try clear hi); (try clear ho0); obtain ⟨Ao84, co84, eo84⟩ := Kd.R_slice HO293.out; subst eo84; obtain ⟨Ao85, co85, eo85⟩ := Kd.R_slice HO289.out; subst eo85))
                    repeat (go_quiet (first | (go_at_call 9; (with_reducible refine (spigotlaw36_alive.calls k   _ A4.out).mono ?_); rintro e w78 ⟨rfl, hb⟩; have n0_ := Aside0.mk (below_step (pB HB.out) hb); clear HB; have HB := n0_; clear n0_; (try clear hb); (try clear hb2); (try clear hk); (try clear hi)) | (go_at_call 10; (with_reducible refine (spigotref36_Asked.calls k _ _ l0 a1 t280 _ ?side1 ?side2 A8.out).mono ?_); (case side1 => exact Kd.pC ((Kd.C_below HR0.out HB.out))); (case side2 => exact HC0.out); rintro e w' ⟨rfl, ⟨nd, rfl⟩⟩; (try first | exact ⟨rfl, _, World.drewN_drewN _ _ _⟩ | exact ⟨rfl, _, Eq.trans (World.drewN_drewN _ _ _) (congrArg (World.drewN _) (Nat.add_assoc _ _ _))⟩)) | (go_at_call 10; (with_reducible refine (spigotref36_Asked.calls k _ _ l0 a2 t281 _ ?side1 ?side2 A10.out).mono ?_); (case side1 => exact Kd.pC ((Kd.C_below HR0.out (pB HB.out)))); (case side2 => exact HC0.out); rintro e w' ⟨rfl, ⟨nd, rfl⟩⟩; (try first | exact ⟨rfl, _, World.drewN_drewN _ _ _⟩ | exact ⟨rfl, _, Eq.trans (World.drewN_drewN _ _ _) (congrArg (World.drewN _) (Nat.add_assoc _ _ _))⟩)) | (go_at_call 11; (with_reducible refine (share_Level.calls k _ _ l0 a1 t282 t283 t284 _ ?side1 ?side2 A12.out).mono ?_); (case side1 => exact Kd.pC ((Kd.C_below HR0.out (pB HB.out)))); (case side2 => exact HC0.out); rintro e w79 ⟨rfl, hb⟩; have n0_ := Aside0.mk (below_step (pB HB.out) hb); clear HB; have HB := n0_; clear n0_; (try clear hb); (try clear hb2); (try clear hk); (try clear hi)) | ((with_reducible refine gate_dst (N := 8) rfl ?_); (try (refine gate_guard (by rfl) ?_; dsimp only)); refine boxE (N := 8) (cs := #[.int .i64 0, .int .i64 0]) (t := 26) ?_; intro gb285 hg w80 hbox hb; have n0_ := Aside0.mk (below_step (pB HB.out) hb); have n1_ := Aside0.mk (hbox); have n2_ := Aside0.mk (pL HB.out hg); have n3_ := Aside0.mk (pL HB.out hg); clear HB; have HB := n0_; have BK285 := n1_; have GW285 := n2_; have GE285 := n3_; clear n0_ n1_ n2_ n3_; clear hb hbox hg; obtain ⟨hcz81_0, hcz81_1, hfz81_0, hfz81_1⟩ := bk2 BK285.out) | (go_at_call 12; (with_reducible refine (share_Short.calls k _ _ l0 a1 t286 t287 _ ?side1 ?side2 A13.out).mono ?_); (case side1 => exact Kd.C_below HR0.out (pB HB.out)); (case side2 => exact HC0.out); rintro e w82 ⟨v288, rfl, ho0, hb⟩; have n0_ := Aside0.mk (Kd.R_lower ho0 (below_size (pB HB.out))); have n1_ := Aside0.mk (blk_below (g := gb285) (o := .cells #[.int .i64 t282, .int .i64 t283] 26 (0, 0)) (by (with_reducible repeat (first | refine blk_drewN ?_ _ | refine blk_drew ?_ | refine blk_alloc ?_ _)); refine blk_put (cs := #[.int .i64 t282, .int .i64 0]) ?_ 1 _ rfl; (with_reducible repeat (first | refine blk_drewN ?_ _ | refine blk_drew ?_ | refine blk_alloc ?_ _)); refine blk_put (cs := #[.int .i64 0, .int .i64 0]) ?_ 0 _ rfl; (with_reducible repeat (first | refine blk_drewN ?_ _ | refine blk_drew ?_ | refine blk_alloc ?_ _)); exact BK285.out) hb); have n2_ := Aside0.mk (below_step (pB HB.out) hb); clear BK285; clear HB; have HO289 := n0_; have BK285 := n1_; have HB := n2_; clear n0_ n1_ n2_; (try clear hb); (try clear hb2); (try clear hk); (try clear hi); (try clear ho0)) | (go_at_call 13; (with_reducible refine (share_Split.calls k _ _ l0 a1 t290 t291 _ ?side1 ?side2 A14.out).mono ?_); (case side1 => exact Kd.pC ((Kd.C_below HR0.out HB.out))); (case side2 => exact HC0.out); rintro e w83 ⟨v292, rfl, ho0, hb⟩; have n0_ := Aside0.mk (Kd.R_below (Kd.pR HO289.out) hb); have n1_ := Aside0.mk (Kd.R_lower ho0 (below_size (pB HB.out))); have n2_ := Aside0.mk (blk_below (pK BK285.out) hb); have n3_ := Aside0.mk (below_step (pB HB.out) hb); clear HO289; clear BK285; clear HB; have HO289 := n0_; have HO293 := n1_; have BK285 := n2_; have HB := n3_; clear n0_ n1_ n2_ n3_; (try clear hb); (try clear hb2); (try clear hk); (try clear hi); (try clear ho0); obtain ⟨Ao84, co84, eo84⟩ := Kd.R_slice HO293.out; subst eo84; obtain ⟨Ao85, co85, eo85⟩ := Kd.R_slice HO289.out; subst eo85)); try go_wp2_with (first | (go_at_call 9; (with_reducible refine (spigotlaw36_alive.calls k   _ A4.out).mono ?_); rintro e w78 ⟨rfl, hb⟩; have n0_ := Aside0.mk (below_step (pB HB.out) hb); clear HB; have HB := n0_; clear n0_; (try clear hb); (try clear hb2); (try clear hk); (try clear hi)) | (go_at_call 10; (with_reducible refine (spigotref36_Asked.calls k _ _ l0 a1 t280 _ ?side1 ?side2 A8.out).mono ?_); (case side1 => exact Kd.pC ((Kd.C_below HR0.out HB.out))); (case side2 => exact HC0.out); rintro e w' ⟨rfl, ⟨nd, rfl⟩⟩; (try first | exact ⟨rfl, _, World.drewN_drewN _ _ _⟩ | exact ⟨rfl, _, Eq.trans (World.drewN_drewN _ _ _) (congrArg (World.drewN _) (Nat.add_assoc _ _ _))⟩)) | (go_at_call 10; (with_reducible refine (spigotref36_Asked.calls k _ _ l0 a2 t281 _ ?side1 ?side2 A10.out).mono ?_); (case side1 => exact Kd.pC ((Kd.C_below HR0.out (pB HB.out)))); (case side2 => exact HC0.out); rintro e w' ⟨rfl, ⟨nd, rfl⟩⟩; (try first | exact ⟨rfl, _, World.drewN_drewN _ _ _⟩ | exact ⟨rfl, _, Eq.trans (World.drewN_drewN _ _ _) (congrArg (World.drewN _) (Nat.add_assoc _ _ _))⟩)) | (go_at_call 11; (with_reducible refine (share_Level.calls k _ _ l0 a1 t282 t283 t284 _ ?side1 ?side2 A12.out).mono ?_); (case side1 => exact Kd.pC ((Kd.C_below HR0.out (pB HB.out)))); (case side2 => exact HC0.out); rintro e w79 ⟨rfl, hb⟩; have n0_ := Aside0.mk (below_step (pB HB.out) hb); clear HB; have HB := n0_; clear n0_; (try clear hb); (try clear hb2); (try clear hk); (try clear hi)) | ((with_reducible refine gate_dst (N := 8) rfl ?_); (try (refine gate_guard (by rfl) ?_; dsimp only)); refine boxE (N := 8) (cs := #[.int .i64 0, .int .i64 0]) (t := 26) ?_; intro gb285 hg w80 hbox hb; have n0_ := Aside0.mk (below_step (pB HB.out) hb); have n1_ := Aside0.mk (hbox); have n2_ := Aside0.mk (pL HB.out hg); have n3_ := Aside0.mk (pL HB.out hg); clear HB; have HB := n0_; have BK285 := n1_; have GW285 := n2_; have GE285 := n3_; clear n0_ n1_ n2_ n3_; clear hb hbox hg; obtain ⟨hcz81_0, hcz81_1, hfz81_0, hfz81_1⟩ := bk2 BK285.out) | (go_at_call 12; (with_reducible refine (share_Short.calls k _ _ l0 a1 t286 t287 _ ?side1 ?side2 A13.out).mono ?_); (case side1 => exact Kd.C_below HR0.out (pB HB.out)); (case side2 => exact HC0.out); rintro e w82 ⟨v288, rfl, ho0, hb⟩; have n0_ := Aside0.mk (Kd.R_lower ho0 (below_size (pB HB.out))); have n1_ := Aside0.mk (blk_below (g := gb285) (o := .cells #[.int .i64 t282, .int .i64 t283] 26 (0, 0)) (by (with_reducible repeat (first | refine blk_drewN ?_ _ | refine blk_drew ?_ | refine blk_alloc ?_ _)); refine blk_put (cs := #[.int .i64 t282, .int .i64 0]) ?_ 1 _ rfl; (with_reducible repeat (first | refine blk_drewN ?_ _ | refine blk_drew ?_ | refine blk_alloc ?_ _)); refine blk_put (cs := #[.int .i64 0, .int .i64 0]) ?_ 0 _ rfl; (with_reducible repeat (first | refine blk_drewN ?_ _ | refine blk_drew ?_ | refine blk_alloc ?_ _)); exact BK285.out) hb); have n2_ := Aside0.mk (below_step (pB HB.out) hb); clear BK285; clear HB; have HO289 := n0_; have BK285 := n1_; have HB := n2_; clear n0_ n1_ n2_; (try clear hb); (try clear hb2); (try clear hk); (try clear hi); (try clear ho0)) | (go_at_call 13; (with_reducible refine (share_Split.calls k _ _ l0 a1 t290 t291 _ ?side1 ?side2 A14.out).mono ?_); (case side1 => exact Kd.pC ((Kd.C_below HR0.out HB.out))); (case side2 => exact HC0.out); rintro e w83 ⟨v292, rfl, ho0, hb⟩; have n0_ := Aside0.mk (Kd.R_below (Kd.pR HO289.out) hb); have n1_ := Aside0.mk (Kd.R_lower ho0 (below_size (pB HB.out))); have n2_ := Aside0.mk (blk_below (pK BK285.out) hb); have n3_ := Aside0.mk (below_step (pB HB.out) hb); clear HO289; clear BK285; clear HB; have HO289 := n0_; have HO293 := n1_; have BK285 := n2_; have HB := n3_; clear n0_ n1_ n2_ n3_; (try clear hb); (try clear hb2); (try clear hk); (try clear hi); (try clear ho0); obtain ⟨Ao84, co84, eo84⟩ := Kd.R_slice HO293.out; subst eo84; obtain ⟨Ao85, co85, eo85⟩ := Kd.R_slice HO289.out; subst eo85)))
                    go_ret
                    exact ⟨by first | rfl | (simp [errW_none, errW_some] <;> rfl) | (simp [*, errW_none, errW_some] <;> rfl) | (rw [HRT.out] <;> rfl) | (simp [HRT.out]; done) | (have h_ := HRT.out; simp [*] at h_ ⊢ <;> first | done | assumption | omega) | (have h_ := HRT.out; simp [*] at h_; done), pB HB.out⟩
                  · rw [if_neg c77] at H
                    have c77b0 : (t284 == 6) = false := beq_eq_false_iff_ne.mpr c77
                    have c77b1 : (t284 != 6) = true := bne_iff_ne.mpr c77
                    exact absurd H (by simp)
              · rw [if_neg c17] at H
                have c17b0 : ((t290.length : Int) == (l0.length : Int)) = false := beq_eq_false_iff_ne.mpr c17
                have c17b1 : ((t290.length : Int) != (l0.length : Int)) = true := bne_iff_ne.mpr c17
                have c17b2 : (t290.length == l0.length) = false := by first | simpa using c17 | (simp at c17 ⊢; omega)
                exact absurd H (by simp)
            · rw [if_neg c16] at H
              have c16b0 : (t291 == 0) = false := beq_eq_false_iff_ne.mpr c16
              have c16b1 : (t291 != 0) = true := bne_iff_ne.mpr c16
              exact absurd H (by simp)
          · rw [if_neg c15] at H
            have c15b0 : (t287 == 0) = false := beq_eq_false_iff_ne.mpr c15
            have c15b1 : (t287 != 0) = true := bne_iff_ne.mpr c15
            exact absurd H (by simp)
        · rw [if_neg c11] at H
          have c11b0 : (t281 == 0) = false := beq_eq_false_iff_ne.mpr c11
          have c11b1 : (t281 != 0) = true := bne_iff_ne.mpr c11
          clear H
          go_enter Try.func3, Try.ntmps3
          have one5_ := Aside0.mk True.intro
          have one6_ := Aside0.mk True.intro
          go_wp2_with (first | (go_at_call 9; (with_reducible refine (spigotlaw36_alive.calls k   _ A4.out).mono ?_); rintro e w86 ⟨rfl, hb⟩; have n0_ := Aside0.mk (below_step (pB HB.out) hb); clear HB; have HB := n0_; clear n0_; (try clear hb); (try clear hb2); (try clear hk); (try clear hi)) | (clear one5_; go_at_call 10; (with_reducible refine (spigotref36_Asked.calls k _ _ l0 a1 t280 _ ?side1 ?side2 A8.out).mono ?_); (case side1 => exact Kd.pC ((Kd.C_below HR0.out HB.out))); (case side2 => exact HC0.out); rintro e w' ⟨rfl, ⟨nd, rfl⟩⟩; (try first | exact ⟨rfl, _, World.drewN_drewN _ _ _⟩ | exact ⟨rfl, _, Eq.trans (World.drewN_drewN _ _ _) (congrArg (World.drewN _) (Nat.add_assoc _ _ _))⟩)) | (clear one6_; go_at_call 10; (with_reducible refine (spigotref36_Asked.calls k _ _ l0 a2 t281 _ ?side1 ?side2 A10.out).mono ?_); (case side1 => exact Kd.pC ((Kd.C_below HR0.out (pB HB.out)))); (case side2 => exact HC0.out); rintro e w' ⟨rfl, ⟨nd, rfl⟩⟩; (try first | exact ⟨rfl, _, World.drewN_drewN _ _ _⟩ | exact ⟨rfl, _, Eq.trans (World.drewN_drewN _ _ _) (congrArg (World.drewN _) (Nat.add_assoc _ _ _))⟩)))
          repeat (go_quiet (first | (go_at_call 9; (with_reducible refine (spigotlaw36_alive.calls k   _ A4.out).mono ?_); rintro e w86 ⟨rfl, hb⟩; have n0_ := Aside0.mk (below_step (pB HB.out) hb); clear HB; have HB := n0_; clear n0_; (try clear hb); (try clear hb2); (try clear hk); (try clear hi)) | (go_at_call 10; (with_reducible refine (spigotref36_Asked.calls k _ _ l0 a1 t280 _ ?side1 ?side2 A8.out).mono ?_); (case side1 => exact Kd.pC ((Kd.C_below HR0.out HB.out))); (case side2 => exact HC0.out); rintro e w' ⟨rfl, ⟨nd, rfl⟩⟩; (try first | exact ⟨rfl, _, World.drewN_drewN _ _ _⟩ | exact ⟨rfl, _, Eq.trans (World.drewN_drewN _ _ _) (congrArg (World.drewN _) (Nat.add_assoc _ _ _))⟩)) | (go_at_call 10; (with_reducible refine (spigotref36_Asked.calls k _ _ l0 a2 t281 _ ?side1 ?side2 A10.out).mono ?_); (case side1 => exact Kd.pC ((Kd.C_below HR0.out (pB HB.out)))); (case side2 => exact HC0.out); rintro e w' ⟨rfl, ⟨nd, rfl⟩⟩; (try first | exact ⟨rfl, _, World.drewN_drewN _ _ _⟩ | exact ⟨rfl, _, Eq.trans (World.drewN_drewN _ _ _) (congrArg (World.drewN _) (Nat.add_assoc _ _ _))⟩))); try go_wp2_with (first | (go_at_call 9; (with_reducible refine (spigotlaw36_alive.calls k   _ A4.out).mono ?_); rintro e w86 ⟨rfl, hb⟩; have n0_ := Aside0.mk (below_step (pB HB.out) hb); clear HB; have HB := n0_; clear n0_; (try clear hb); (try clear hb2); (try clear hk); (try clear hi)) | (go_at_call 10; (with_reducible refine (spigotref36_Asked.calls k _ _ l0 a1 t280 _ ?side1 ?side2 A8.out).mono ?_); (case side1 => exact Kd.pC ((Kd.C_below HR0.out HB.out))); (case side2 => exact HC0.out); rintro e w' ⟨rfl, ⟨nd, rfl⟩⟩; (try first | exact ⟨rfl, _, World.drewN_drewN _ _ _⟩ | exact ⟨rfl, _, Eq.trans (World.drewN_drewN _ _ _) (congrArg (World.drewN _) (Nat.add_assoc _ _ _))⟩)) | (go_at_call 10; (with_reducible refine (spigotref36_Asked.calls k _ _ l0 a2 t281 _ ?side1 ?side2 A10.out).mono ?_); (case side1 => exact Kd.pC ((Kd.C_below HR0.out (pB HB.out)))); (case side2 => exact HC0.out); rintro e w' ⟨rfl, ⟨nd, rfl⟩⟩; (try first | exact ⟨rfl, _, World.drewN_drewN _ _ _⟩ | exact ⟨rfl, _, Eq.trans (World.drewN_drewN _ _ _) (congrArg (World.drewN _) (Nat.add_assoc _ _ _))⟩))))
          go_ret
          exact ⟨by first | rfl | (simp [errW_none, errW_some] <;> rfl) | (simp [*, errW_none, errW_some] <;> rfl), pB HB.out⟩
      · rw [if_neg c9] at H
        have c9b0 : (t280 == 0) = false := beq_eq_false_iff_ne.mpr c9
        have c9b1 : (t280 != 0) = true := bne_iff_ne.mpr c9
        clear H
        go_enter Try.func3, Try.ntmps3
        go_wp2_with (first | (go_at_call 9; (with_reducible refine (spigotlaw36_alive.calls k   _ A4.out).mono ?_); rintro e w87 ⟨rfl, hb⟩; have n0_ := Aside0.mk (below_step (pB HB.out) hb); clear HB; have HB := n0_; clear n0_; (try clear hb); (try clear hb2); (try clear hk); (try clear hi)) | (go_at_call 10; (with_reducible refine (spigotref36_Asked.calls k _ _ l0 a1 t280 _ ?side1 ?side2 A8.out).mono ?_); (case side1 => exact Kd.pC ((Kd.C_below HR0.out HB.out))); (case side2 => exact HC0.out); rintro e w' ⟨rfl, ⟨nd, rfl⟩⟩; (try first | exact ⟨rfl, _, World.drewN_drewN _ _ _⟩ | exact ⟨rfl, _, Eq.trans (World.drewN_drewN _ _ _) (congrArg (World.drewN _) (Nat.add_assoc _ _ _))⟩)))
        repeat (go_quiet (first | (go_at_call 9; (with_reducible refine (spigotlaw36_alive.calls k   _ A4.out).mono ?_); rintro e w87 ⟨rfl, hb⟩; have n0_ := Aside0.mk (below_step (pB HB.out) hb); clear HB; have HB := n0_; clear n0_; (try clear hb); (try clear hb2); (try clear hk); (try clear hi)) | (go_at_call 10; (with_reducible refine (spigotref36_Asked.calls k _ _ l0 a1 t280 _ ?side1 ?side2 A8.out).mono ?_); (case side1 => exact Kd.pC ((Kd.C_below HR0.out HB.out))); (case side2 => exact HC0.out); rintro e w' ⟨rfl, ⟨nd, rfl⟩⟩; (try first | exact ⟨rfl, _, World.drewN_drewN _ _ _⟩ | exact ⟨rfl, _, Eq.trans (World.drewN_drewN _ _ _) (congrArg (World.drewN _) (Nat.add_assoc _ _ _))⟩))); try go_wp2_with (first | (go_at_call 9; (with_reducible refine (spigotlaw36_alive.calls k   _ A4.out).mono ?_); rintro e w87 ⟨rfl, hb⟩; have n0_ := Aside0.mk (below_step (pB HB.out) hb); clear HB; have HB := n0_; clear n0_; (try clear hb); (try clear hb2); (try clear hk); (try clear hi)) | (go_at_call 10; (with_reducible refine (spigotref36_Asked.calls k _ _ l0 a1 t280 _ ?side1 ?side2 A8.out).mono ?_); (case side1 => exact Kd.pC ((Kd.C_below HR0.out HB.out))); (case side2 => exact HC0.out); rintro e w' ⟨rfl, ⟨nd, rfl⟩⟩; (try first | exact ⟨rfl, _, World.drewN_drewN _ _ _⟩ | exact ⟨rfl, _, Eq.trans (World.drewN_drewN _ _ _) (congrArg (World.drewN _) (Nat.add_assoc _ _ _))⟩))))
        go_ret
        exact ⟨by first | rfl | (simp [errW_none, errW_some] <;> rfl) | (simp [*, errW_none, errW_some] <;> rfl), pB HB.out⟩
  · replace c5 := Bool.eq_false_iff.mpr c5
    subst c5
    have H1 : (none) = some true := by rw [if_neg (show ¬ (false = true) by decide)] at H; exact H
    clear H
    have H := H1
    clear H1
    exact absurd H (by simp)

/-- THE ONE PURE STATEMENT of spigotlaw36_ShareLevel. -/
def spigotlaw36_ShareLevel.Pure : Prop := ∀ (l0 : List (S37)) (a1 : Int) (a2 : Int), ((∀ x ∈ l0, ((Lit.int .i64 x.f0).wf = true) ∧ ((Lit.int .i64 x.f1).wf = true)) ∧ l0.length ≤ maxLen) → ((Lit.int .i64 a1).wf = true) → ((Lit.int .i64 a2).wf = true) → ∃ k, spigotlaw36_ShareLevel.f k l0 a1 a2 = some true

end Go.Proofs.Yteeceppbnkkfpaa.PShare
